/- Part 3 of the words by which the law is followed: an interpreter over data trees, proved of the machine, and what functions of this program come to by it. No condition. -/
import Derived.Laws.StructEq
import Derived.Test.YtipfcgbhaalcdaaGreatProg
import Derived.Test.YtipfcgbhaalcdaaGreatPA2
namespace Go.Proofs.YtipfcgbhaalcdaaGreat.Abs
open Go
set_option linter.unusedVariables false
set_option linter.unusedSimpArgs false
variable {P : Program} {E : Env} {ρ0 : Nat → Value} {w0 : World} {A : Fp} {ob : Objs} {w : World} {ρ : Nat → Value} {φ : Nat → Fp} {Z : Fp} {sl : Slots} {a : Act}

structure NE where
  v : Value
  src : Option Nat
  F : Fp

inductive AEx (conts : List Cont) (ρ : Nat → Value) (ns : List Cont) (ys : List NE) : AV → Value → Prop where
  | s {x} (h : scalar x = true) : AEx conts ρ ns ys (.s x) x
  | u {x} : AEx conts ρ ns ys .u x
  | ag {l : List AV} {cs : Array Value} (hl : l.length = cs.size) (h : ∀ i a, l[i]? = some a → AEx conts ρ ns ys a (cs.getD i undef)) : AEx conts ρ ns ys (.ag l) (.agg cs)
  | tu {l : List AV} {cs : Array Value} (hl : l.length = cs.size) (h : ∀ i a, l[i]? = some a → AEx conts ρ ns ys a (cs.getD i undef)) : AEx conts ρ ns ys (.tu l) (.tuple cs)
  | ro {i sz lo len rows x} (hc : conts[i]? = some (.tree 0 (.sl sz rows))) (hle : lo + len ≤ rows.length) (hv : View sz (ρ (1000000 + i)) lo len x) : AEx conts ρ ns ys (.h (1000000 + i) 0 0 [] sz lo len) x
  | bx {i cells} (hc : conts[i]? = some (.box cells)) : AEx conts ρ ns ys (.pt (1000000 + i) 0 0 [] 0 0) (ρ (1000000 + i))
  | nw {j l sz rows len} {y : NE} (hc : ns[j]? = some (.tree l (.sl sz rows))) (hy : ys[j]? = some y) (hl : len = rows.length) : AEx conts ρ ns ys (.h (2000000 + j) 1 0 [] sz 0 len) y.v
  | nb {j cells} {y : NE} (hc : ns[j]? = some (.box cells)) (hy : ys[j]? = some y) : AEx conts ρ ns ys (.pt (2000000 + j) 1 0 [] 0 0) y.v

theorem AEx.more {conts : List Cont} {ns : List Cont} {ys : List NE} {a : AV} {v : Value} (h : AEx conts ρ ns ys a v) (ns2 : List Cont) (ys2 : List NE) : AEx conts ρ (ns ++ ns2) (ys ++ ys2) a v := by
  induction h with
  | s h => exact .s h
  | u => exact .u
  | ag hl h ih => exact .ag hl ih
  | tu hl h ih => exact .tu hl ih
  | ro hc hle hv => exact .ro hc hle hv
  | bx hc => exact .bx hc
  | nw hc hy hl => exact .nw (get_app hc) (get_app hy) hl
  | nb hc hy => exact .nb (get_app hc) (get_app hy)

def NewOk (w : World) (φ : Nat → Fp) (Z : Fp) (conts : List Cont) (ρ0 : Nat → Value) (ob : Objs) (ns : List Cont) (ys : List NE) : Cont → NE → Prop
  | .tree l t, y => (∃ sz rows, t = .sl sz rows) ∧ T.full l t = true ∧ Ow Z w l y.v t y.F ∧ (∀ k, y.F k → ∃ o, y.src = some o ∧ φ o k) ∧ (∀ o, y.src = some o → ∃ l t, (ob o).c = .tree l t)
  | .box cells, y => ∃ b cs e fr, y.v = .pointer (some ⟨b, 0, none⟩) ∧ w.heap[b]? = some (.cells cs e fr) ∧ (∀ k, k < cs.size → ¬ (fr.1 ≤ k ∧ k < fr.2)) ∧ cells.length = cs.size ∧
      (∀ i a, cells[i]? = some a → AEx conts ρ0 ns ys a (cs.getD i undef)) ∧ (∀ k, y.F k ↔ k = b) ∧ (∃ o, y.src = some o ∧ φ o b) ∧ (∀ o, y.src = some o → (∃ c, (ob o).c = .box c) ∧ ¬ (1000000 ≤ o ∧ o < 1000000 + conts.length))
  | .dead, _ => False
theorem NewOk.more {conts : List Cont} {ns : List Cont} {ys : List NE} {c : Cont} {y : NE} (h : NewOk w φ Z conts ρ0 ob ns ys c y) (ns2 : List Cont) (ys2 : List NE) : NewOk w φ Z conts ρ0 ob (ns ++ ns2) (ys ++ ys2) c y := by
  cases c with
  | dead => exact h
  | tree l t => exact h
  | box cells =>
    obtain ⟨b, cs, e, fr, h1, h2, h3, h4, h5, h6, h7⟩ := h
    exact ⟨b, cs, e, fr, h1, h2, h3, h4, fun i a hi => (h5 i a hi).more ns2 ys2, h6, h7⟩

structure EI (w : World) (φ : Nat → Fp) (Z : Fp) (conts : List Cont) (ρ0 ρ : Nat → Value) (ob : Objs) (mv : List (Nat × Nat × Nat × Nat)) (ns : List Cont) (ys : List NE) : Prop where
  len : ys.length = ns.length
  ok : ∀ (j : Nat) c y, ns[j]? = some c → ys[j]? = some y → NewOk w φ Z conts ρ0 ob ns ys c y
  uniq : ∀ (j j' : Nat) y y' o, ys[j]? = some y → ys[j']? = some y' → y.src = some o → y'.src = some o → j = j'
  inmv : ∀ (j : Nat) y o, ys[j]? = some y → y.src = some o → o ∈ mv.map (·.1)
  mvs : ∀ o j lo len, (o, j, lo, len) ∈ mv → ∀ lv sz rows, (ob o).c = .tree (lv + 1) (.sl sz rows) → ∃ y, ns[j]? = some (.tree (lv + 1) (.sl sz ((rows.drop lo).take len))) ∧ ys[j]? = some y ∧ View sz (ρ o) lo len y.v ∧ lo + len ≤ rows.length

theorem EI.nil {conts : List Cont} : EI w φ Z conts ρ0 ρ ob [] [] [] := ⟨rfl, fun j c y h => by simp at h, fun j j' y y' o h => by simp at h, fun j y o h => by simp at h, fun o j lo len h => by simp at h⟩

theorem snoc_at {α : Type} {l : List α} {a x : α} {j : Nat} (h : (l ++ [a])[j]? = some x) : l[j]? = some x ∨ (j = l.length ∧ x = a) := by
  by_cases hj : j < l.length
  · left; rwa [List.getElem?_append_left hj] at h
  · right
    have := (List.getElem?_eq_some_iff.1 h).1
    simp at this
    have e : j = l.length := by omega
    subst e
    simp at h
    exact ⟨rfl, h.symm⟩

theorem EI.snoc {conts : List Cont} {mv : List (Nat × Nat × Nat × Nat)} {ns : List Cont} {ys : List NE} (h : EI w φ Z conts ρ0 ρ ob mv ns ys) {mv' : List (Nat × Nat × Nat × Nat)} {c : Cont} {y : NE}
    (hmv : ∀ q ∈ mv, q ∈ mv') (hok : NewOk w φ Z conts ρ0 ob (ns ++ [c]) (ys ++ [y]) c y) (hsrc : ∀ o, y.src = some o → (∀ (j : Nat) y', ys[j]? = some y' → y'.src ≠ some o) ∧ o ∈ mv'.map (·.1))
    (hmvs : ∀ q ∈ mv', q ∈ mv ∨ ∃ lo len, q = (q.1, ns.length, lo, len) ∧ ∀ lv sz rows, (ob q.1).c = .tree (lv + 1) (.sl sz rows) → c = .tree (lv + 1) (.sl sz ((rows.drop lo).take len)) ∧ View sz (ρ q.1) lo len y.v ∧ lo + len ≤ rows.length) :
    EI w φ Z conts ρ0 ρ ob mv' (ns ++ [c]) (ys ++ [y]) := by
  refine ⟨by simp [h.len], fun j c' y' hc hy => ?_, fun j j' y1 y2 o h1 h2 s1 s2 => ?_, fun j y' o hy hs => ?_, fun o j lo len hq lv sz rows hc => ?_⟩
  · rcases snoc_at hc with hc | ⟨hj, rfl⟩
    · have hy' : ys[j]? = some y' := by
        rcases snoc_at hy with hy | ⟨hj, _⟩
        · exact hy
        · have := (List.getElem?_eq_some_iff.1 hc).1; rw [h.len] at hj; omega
      exact (h.ok j c' y' hc hy').more _ _
    · rcases snoc_at hy with hy | ⟨_, rfl⟩
      · have := (List.getElem?_eq_some_iff.1 hy).1; rw [h.len] at this; omega
      · exact hok
  · rcases snoc_at h1 with g1 | ⟨e1, e3⟩
    · rcases snoc_at h2 with g2 | ⟨e2, e4⟩
      · exact h.uniq j j' y1 y2 o g1 g2 s1 s2
      · rw [e4] at s2; exact ((hsrc o s2).1 j y1 g1 s1).elim
    · rcases snoc_at h2 with g2 | ⟨e2, e4⟩
      · rw [e3] at s1; exact ((hsrc o s1).1 j' y2 g2 s2).elim
      · rw [e1, e2]
  · rcases snoc_at hy with hy | ⟨_, rfl⟩
    · have := h.inmv j y' o hy hs
      rw [List.mem_map] at this ⊢
      obtain ⟨q, hq, e⟩ := this
      exact ⟨q, hmv q hq, e⟩
    · exact (hsrc o hs).2
  · rcases hmvs _ hq with hq | ⟨lo', len', he, hq⟩
    · obtain ⟨y', g1, g2, g3⟩ := h.mvs o j lo len hq lv sz rows hc
      exact ⟨y', get_app g1, get_app g2, g3⟩
    · simp only [Prod.mk.injEq, true_and] at he
      obtain ⟨rfl, rfl, rfl⟩ := he
      obtain ⟨g1, g2, g3⟩ := hq lv sz rows hc
      exact ⟨y, by simp [g1], by rw [← h.len]; simp, g2, g3⟩

theorem EI.spend {conts : List Cont} {mv : List (Nat × Nat × Nat × Nat)} {ns : List Cont} {ys : List NE} (h : EI w φ Z conts ρ0 ρ ob mv ns ys) {o : Nat} (x y z : Nat) {cells : List AV} (hc : (ob o).c = .box cells) : EI w φ Z conts ρ0 ρ ob ((o, x, y, z) :: mv) ns ys := by
  refine ⟨h.len, h.ok, h.uniq, fun j y o hy hs => by simpa using .inr (by simpa using h.inmv j y o hy hs), fun o' j lo len hq lv sz rows hc' => ?_⟩
  rcases List.mem_cons.1 hq with e | hq
  · simp only [Prod.mk.injEq] at e
    obtain ⟨rfl, _⟩ := e
    rw [hc] at hc'; cases hc'
  · exact h.mvs o' j lo len hq lv sz rows hc'

theorem find_none {mv : List (Nat × Nat × Nat × Nat)} {o : Nat} (h : mv.find? (·.1 == o) = none) : o ∉ mv.map (·.1) := by
  rw [List.find?_eq_none] at h
  intro hm
  rw [List.mem_map] at hm
  obtain ⟨q, hq, rfl⟩ := hm
  exact h q hq (by simp)
theorem view_det {sz lo len : Nat} {v x y : Value} (h1 : View sz v lo len x) (h2 : View sz v lo len y) (h : lo = 0 ∨ 0 < len) : x = y := by
  rcases h1 with ⟨rfl, rfl, rfl, rfl⟩ | ⟨a, n, c, q, c', rfl, rfl, g1, g2, g3, g4⟩
  · rcases h2 with ⟨_, _, _, rfl⟩ | ⟨a, n, c, q, c', e, _⟩
    · rfl
    · cases e
  · rcases h2 with ⟨e, _⟩ | ⟨a2, n2, c2, q2, c2', e, rfl, k1, k2, k3, k4⟩
    · cases e
    · cases e
      obtain rfl : c' = c2' := by omega
      obtain rfl : q = q2 := by
        rcases h with rfl | h
        · omega
        · rw [g4 (by omega), k4 (by omega)]
      rfl

theorem handle_view (h : OInv w0 A ob w ρ φ Z) {o b g sz lo len lv sz' : Nat} {rows : List (List T)} {x : Value} (hx : AVR w ob ρ (.h o b g [] sz lo len) x) (hb : (ob o).birth = b) (hc : (ob o).c = .tree lv (.sl sz' rows)) :
    sz' = sz ∧ lo + len ≤ rows.length ∧ View sz (ρ o) lo len x := by
  cases hx with
  | h hbn hs hval =>
    obtain ⟨v', rows', hat, hle, hvw⟩ := (hval ⟨hb, .inl rfl⟩).2 lv _ hc
    obtain ⟨rfl, e⟩ := hat.root
    cases e
    exact ⟨rfl, hle, hvw⟩

theorem expo_sound (h : OInv w0 A ob w ρ φ Z) {conts : List Cont} (hro : ∀ (i sz : Nat) (rows : List (List T)) (t : T), conts[i]? = some (.tree 0 (.sl sz rows)) → (ob (1000000 + i)).birth = 0 → (ob (1000000 + i)).c = .tree 0 t → ∀ lo len x, View sz (ρ (1000000 + i)) lo len x → View sz (ρ0 (1000000 + i)) lo len x)
    (hbx0 : ∀ (i : Nat) cells cells', conts[i]? = some (.box cells) → (ob (1000000 + i)).birth = 0 → (ob (1000000 + i)).c = .box cells' → ρ (1000000 + i) = ρ0 (1000000 + i)) : ∀ (n : Nat) (l : List AV) (mv : List (Nat × Nat × Nat × Nat)) (ns : List Cont) (ys : List NE) (l' : List AV) (mv' : List (Nat × Nat × Nat × Nat)) (ns' : List Cont) (vs : Nat → Value),
    expo ob conts n l mv ns = some (l', mv', ns') → EI w φ Z conts ρ0 ρ ob mv ns ys → (∀ i a, l[i]? = some a → AVR w ob ρ a (vs i)) →
    ∃ n2 y2, ns' = ns ++ n2 ∧ (∀ q ∈ mv, q ∈ mv') ∧ EI w φ Z conts ρ0 ρ ob mv' ns' (ys ++ y2) ∧ l'.length = l.length ∧ (∀ i a, l'[i]? = some a → AEx conts ρ0 ns' (ys ++ y2) a (vs i)) ∧ (∀ y ∈ y2, ∀ o, y.src = some o → o ∉ mv.map (·.1)) := by
  intro n
  induction n with
  | zero =>
    intro l mv ns ys l' mv' ns' vs hr hE ha
    cases l with
    | nil =>
      simp only [expo, Option.some.injEq, Prod.mk.injEq] at hr
      obtain ⟨rfl, rfl, rfl⟩ := hr
      exact ⟨[], [], by simp, fun q h => h, by simpa using hE, rfl, fun i a h => by simp at h, fun y hy => by simp at hy⟩
    | cons x l => simp [expo] at hr
  | succ n ih =>
    intro l mv ns ys l' mv' ns' vs hr hE ha
    cases l with
    | nil =>
      simp only [expo, Option.some.injEq, Prod.mk.injEq] at hr
      obtain ⟨rfl, rfl, rfl⟩ := hr
      exact ⟨[], [], by simp, fun q h => h, by simpa using hE, rfl, fun i a h => by simp at h, fun y hy => by simp at hy⟩
    | cons x l =>
      have h0 : AVR w ob ρ x (vs 0) := ha 0 x rfl
      have ht : ∀ i x, l[i]? = some x → AVR w ob ρ x (vs (i + 1)) := fun i y hy => ha (i + 1) y (by simpa using hy)
      -- one value ahead of the others
      have put : ∀ {mv1 : List (Nat × Nat × Nat × Nat)} {n1 : List Cont} {y1 : List NE} {x' : AV} {l2 : List AV} {mv2 : List (Nat × Nat × Nat × Nat)} {ns2 : List Cont}, (∀ q ∈ mv, q ∈ mv1) → EI w φ Z conts ρ0 ρ ob mv1 (ns ++ n1) (ys ++ y1) → AEx conts ρ0 (ns ++ n1) (ys ++ y1) x' (vs 0) → (∀ y ∈ y1, ∀ o, y.src = some o → o ∉ mv.map (·.1)) →
          expo ob conts n l mv1 (ns ++ n1) = some (l2, mv2, ns2) → l' = x' :: l2 → mv' = mv2 → ns' = ns2 →
          ∃ n2 y2, ns' = ns ++ n2 ∧ (∀ q ∈ mv, q ∈ mv') ∧ EI w φ Z conts ρ0 ρ ob mv' ns' (ys ++ y2) ∧ l'.length = (x :: l).length ∧ (∀ i a, l'[i]? = some a → AEx conts ρ0 ns' (ys ++ y2) a (vs i)) ∧ (∀ y ∈ y2, ∀ o, y.src = some o → o ∉ mv.map (·.1)) := by
        intro mv1 n1 y1 x' l2 mv2 ns2 hmv hE1 hx' hy1 hr2 e1 e2 e3
        subst e1; subst e2; subst e3
        obtain ⟨n2, y2, rfl, g2, g3, g4, g5, g6⟩ := ih l mv1 _ _ l2 mv' ns' (fun i => vs (i + 1)) hr2 hE1 ht
        refine ⟨n1 ++ n2, y1 ++ y2, by simp, fun q hq => g2 q (hmv q hq), by simpa using g3, by simp [g4], fun i a hi => ?_, fun y hy o ho => ?_⟩
        case refine_2 =>
          rcases List.mem_append.1 hy with hy | hy
          · exact hy1 y hy o ho
          · intro hm
            rw [List.mem_map] at hm
            obtain ⟨q, hq, e⟩ := hm
            exact g6 y hy o ho (List.mem_map.2 ⟨q, hmv q hq, e⟩)
        cases i with
        | zero => simp at hi; subst hi; simpa using hx'.more n2 y2
        | succ i => simpa using g5 i a (by simpa using hi)
      have put0 : ∀ {x' : AV}, AEx conts ρ0 ns ys x' (vs 0) → ∀ {l2 : List AV} {mv2 : List (Nat × Nat × Nat × Nat)} {ns2 : List Cont}, expo ob conts n l mv ns = some (l2, mv2, ns2) → l' = x' :: l2 → mv' = mv2 → ns' = ns2 →
          ∃ n2 y2, ns' = ns ++ n2 ∧ (∀ q ∈ mv, q ∈ mv') ∧ EI w φ Z conts ρ0 ρ ob mv' ns' (ys ++ y2) ∧ l'.length = (x :: l).length ∧ (∀ i a, l'[i]? = some a → AEx conts ρ0 ns' (ys ++ y2) a (vs i)) ∧ (∀ y ∈ y2, ∀ o, y.src = some o → o ∉ mv.map (·.1)) := by
        intro x' hx' l2 mv2 ns2 hr2 e1 e2 e3
        exact put (n1 := []) (y1 := []) (fun q h => h) (by simpa using hE) (by simpa using hx') (fun y hy => by simp at hy) (by simpa using hr2) e1 e2 e3
      cases x with
      | s v =>
        cases h0 with
        | s hs =>
          simp only [expo] at hr
          split at hr
          · rename_i l2 mv2 ns2 hr2
            simp only [Option.some.injEq, Prod.mk.injEq] at hr
            exact put0 (.s hs) hr2 hr.1.symm hr.2.1.symm hr.2.2.symm
          · cases hr
      | u =>
        simp only [expo] at hr
        split at hr
        · rename_i l2 mv2 ns2 hr2
          simp only [Option.some.injEq, Prod.mk.injEq] at hr
          exact put0 .u hr2 hr.1.symm hr.2.1.symm hr.2.2.symm
        · cases hr
      | nl sz =>
        simp only [expo] at hr
        split at hr
        · rename_i l2 mv2 ns2 hr2
          simp only [Option.some.injEq, Prod.mk.injEq] at hr
          generalize hv : vs 0 = v0 at h0
          cases h0
          refine put (n1 := [.tree 9 (.sl sz [])]) (y1 := [⟨.slice none 0 0, none, none_⟩]) (fun q h => h) (hE.snoc (fun q h => h) ⟨⟨_, _, rfl⟩, rfl, .nil, fun k hk => hk.elim, fun o ho => by cases ho⟩ (fun o ho => by cases ho) (fun q hq => .inl hq)) ?_ (fun y hy o ho => by simp at hy; subst hy; cases ho) hr2 hr.1.symm hr.2.1.symm hr.2.2.symm
          rw [hv]
          exact .nw (y := ⟨.slice none 0 0, none, none_⟩) (snoc_get _ _) (by rw [← hE.len]; exact snoc_get _ _) rfl
        · cases hr
      | ag c =>
        simp only [expo] at hr
        split at hr
        · rename_i c' mv1 ns1 hr1
          split at hr
          · rename_i l2 mv2 ns2 hr2
            simp only [Option.some.injEq, Prod.mk.injEq] at hr
            generalize hv : vs 0 = v0 at h0
            cases h0 with | @ag _ cs hl hcs =>
            obtain ⟨n1, y1, rfl, g2, g3, g4, g5, g6⟩ := ih c mv ns ys c' mv1 ns1 (fun i => cs.getD i undef) hr1 hE hcs
            exact put g2 g3 (by rw [hv]; exact .ag (g4.trans hl) g5) g6 hr2 hr.1.symm hr.2.1.symm hr.2.2.symm
          · cases hr
        · cases hr
      | tu c =>
        simp only [expo] at hr
        split at hr
        · rename_i c' mv1 ns1 hr1
          split at hr
          · rename_i l2 mv2 ns2 hr2
            simp only [Option.some.injEq, Prod.mk.injEq] at hr
            generalize hv : vs 0 = v0 at h0
            cases h0 with | @tu _ cs hl hcs =>
            obtain ⟨n1, y1, rfl, g2, g3, g4, g5, g6⟩ := ih c mv ns ys c' mv1 ns1 (fun i => cs.getD i undef) hr1 hE hcs
            exact put g2 g3 (by rw [hv]; exact .tu (g4.trans hl) g5) g6 hr2 hr.1.symm hr.2.1.symm hr.2.2.symm
          · cases hr
        · cases hr
      | fn f c => simp [expo] at hr
      | h o b g p sz lo len =>
        simp only [expo] at hr
        split at hr
        case isFalse => cases hr
        rename_i hpb
        obtain ⟨rfl, hb⟩ := hpb
        split at hr
        · rename_i t hc
          split at hr
          · rename_i sz' rows hco
            split at hr
            case isFalse => cases hr
            rename_i hq
            obtain ⟨rfl, ho, rfl, hle⟩ := hq
            split at hr
            · rename_i l2 mv2 ns2 hr2
              simp only [Option.some.injEq, Prod.mk.injEq] at hr
              obtain ⟨i, rfl⟩ : ∃ i, o = 1000000 + i := ⟨o - 1000000, by omega⟩
              rw [Nat.add_sub_cancel_left] at hco
              refine put0 (.ro hco hle ?_) hr2 hr.1.symm hr.2.1.symm hr.2.2.symm
              cases h0 with
              | h hbn hs hval =>
                obtain ⟨v', rows', hat, _, hvw⟩ := (hval ⟨hb, .inl rfl⟩).2 0 _ hc
                obtain ⟨rfl, _⟩ := hat.root
                exact hro i _ rows _ hco hb hc lo len _ hvw
            · cases hr
          · cases hr
        · rename_i lv sz' rows hc
          obtain ⟨rfl, hle, hvw⟩ := handle_view h h0 hb hc
          split at hr
          · rename_i o' j lo' len' hf
            split at hr
            case isFalse => cases hr
            rename_i hq
            obtain ⟨rfl, rfl, hz⟩ := hq
            split at hr
            · rename_i l2 mv2 ns2 hr2
              simp only [Option.some.injEq, Prod.mk.injEq] at hr
              have hm := List.mem_of_find?_eq_some hf
              have ho' : o' = o := by have := List.find?_some hf; simpa using this
              subst ho'
              obtain ⟨y, g1, g2, g3, g4⟩ := hE.mvs o' j lo' len' hm lv _ rows hc
              refine put0 ?_ hr2 hr.1.symm hr.2.1.symm hr.2.2.symm
              rw [view_det hvw g3 hz]
              exact .nw g1 g2 (by rw [drop_take_len g4])
            · cases hr
          · rename_i hf
            split at hr
            case isFalse => cases hr
            rename_i hfull
            split at hr
            · rename_i l2 mv2 ns2 hr2
              simp only [Option.some.injEq, Prod.mk.injEq] at hr
              obtain ⟨F', hF', how⟩ := (h.tree hc).view hvw hle
              have hno := find_none hf
              refine put (n1 := [.tree (lv + 1) (.sl sz' ((rows.drop lo).take len))]) (y1 := [⟨vs 0, some o, F'⟩]) (mv1 := (o, ns.length, lo, len) :: mv) (fun q h => List.mem_cons_of_mem _ h)
                (hE.snoc (fun q h => List.mem_cons_of_mem _ h) ⟨⟨_, _, rfl⟩, hfull, how, fun k hk => ⟨o, rfl, hF' k hk⟩, fun o2 ho2 => by cases ho2; exact ⟨_, _, hc⟩⟩ (fun o2 ho2 => by
                  cases ho2
                  exact ⟨fun j y' hy' hs => hno (hE.inmv j y' o hy' hs), by simp⟩) (fun q hq => ?_)) ?_ (fun y hy o2 ho2 => by simp at hy; subst hy; cases ho2; exact hno) hr2 hr.1.symm hr.2.1.symm hr.2.2.symm
              · rcases List.mem_cons.1 hq with rfl | hq
                · refine .inr ⟨lo, len, rfl, fun lv2 sz2 rows2 hc2 => ?_⟩
                  simp only at hc2
                  rw [hc] at hc2
                  cases hc2
                  exact ⟨rfl, hvw, hle⟩
                · exact .inl hq
              · exact .nw (y := ⟨vs 0, some o, F'⟩) (snoc_get _ _) (by rw [← hE.len]; exact snoc_get _ _) (by rw [drop_take_len hle])
            · cases hr
        · cases hr
      | pt o b g p i j =>
        simp only [expo] at hr
        split at hr
        case isFalse => cases hr
        rename_i hpb
        obtain ⟨rfl, rfl, rfl, hb⟩ := hpb
        split at hr
        case h_2 => cases hr
        rename_i cells hc
        have hptr : ∃ bb, ρ o = .pointer (some ⟨bb, 0, none⟩) ∧ vs 0 = ρ o := by
          generalize vs 0 = v0 at h0
          cases h0 with
          | pt hbn hs hval =>
            obtain ⟨bb, h1, h2⟩ := (hval ⟨hb, .inl rfl⟩).2 cells hc rfl
            exact ⟨bb, h1, by rw [h1, h2, add_zero_addr]⟩
        obtain ⟨bb, hρ, hv0⟩ := hptr
        split at hr
        · rename_i hrange
          split at hr
          case isFalse => cases hr
          rename_i hq
          obtain ⟨rfl, hbx⟩ := hq
          split at hr
          · rename_i l2 mv2 ns2 hr2
            simp only [Option.some.injEq, Prod.mk.injEq] at hr
            obtain ⟨i, rfl⟩ : ∃ i, o = 1000000 + i := ⟨o - 1000000, by omega⟩
            rw [Nat.add_sub_cancel_left] at hbx
            cases hci : conts[i]? with
            | none => rw [hci] at hbx; cases hbx
            | some c =>
              rw [hci] at hbx
              cases c with
              | box cs => exact put0 (by rw [hv0, hbx0 i cs cells hci hb hc]; exact .bx hci) hr2 hr.1.symm hr.2.1.symm hr.2.2.symm
              | _ => cases hbx
          · cases hr
        · rename_i hrange
          split at hr
          · cases hr
          · rename_i hf
            have hno := find_none hf
            split at hr
            case h_2 => cases hr
            rename_i c' mv1 ns1 hr1
            split at hr
            case h_2 => cases hr
            rename_i l2 mv2 ns2 hr2
            simp only [Option.some.injEq, Prod.mk.injEq] at hr
            obtain ⟨b2, cs, e, fr, k1, k2, k3, k4, k5, k6⟩ := h.boxed hc
            rw [hρ] at k1
            obtain rfl : bb = b2 := by cases k1; rfl
            obtain ⟨n1, y1, rfl, g2, g3, g4, g5, g6⟩ := ih cells _ ns ys c' mv1 ns1 (fun i => cs.getD i undef) hr1 (hE.spend 0 0 0 hc) k5
            have hsn : EI w φ Z conts ρ0 ρ ob mv1 (ns ++ n1 ++ [.box c']) (ys ++ y1 ++ [⟨ρ o, some o, φ o⟩]) := by
              refine g3.snoc (fun q h => h) ⟨bb, cs, e, fr, hρ, k2, k3, g4.trans k4, fun i a hi => (g5 i a hi).more _ _, k6, ⟨o, rfl, (k6 bb).2 rfl⟩, fun o2 ho2 => ?_⟩ (fun o2 ho2 => ?_) (fun q hq => .inl hq)
              · cases ho2; exact ⟨⟨_, hc⟩, hrange⟩
              · cases ho2
                refine ⟨fun j y' hy' hs => ?_, List.mem_map.2 ⟨_, g2 _ (List.mem_cons_self ..), rfl⟩⟩
                by_cases hj : j < ys.length
                · rw [List.getElem?_append_left hj] at hy'
                  exact hno (hE.inmv j y' o hy' hs)
                · rw [List.getElem?_append_right (by omega)] at hy'
                  exact g6 y' (List.mem_of_getElem? hy') o hs (by simp)
            refine put (n1 := n1 ++ [.box c']) (y1 := y1 ++ [⟨ρ o, some o, φ o⟩]) (fun q hq => g2 q (List.mem_cons_of_mem _ hq)) (by simpa using hsn) ?_ (fun y hy o2 ho2 => ?_) (by simpa using hr2) hr.1.symm hr.2.1.symm hr.2.2.symm
            case refine_2 =>
              rcases List.mem_append.1 hy with hy | hy
              · have := g6 y hy o2 ho2
                simp only [List.map_cons, List.mem_cons, not_or] at this
                exact this.2
              · simp at hy; subst hy; cases ho2; exact hno
            rw [hv0]
            have e1 : ns ++ (n1 ++ [Cont.box c']) = (ns ++ n1) ++ [.box c'] := by simp
            have e2 : ys ++ (y1 ++ [(⟨ρ o, some o, φ o⟩ : NE)]) = (ys ++ y1) ++ [⟨ρ o, some o, φ o⟩] := by simp
            rw [e1, e2]
            exact .nb (y := ⟨ρ o, some o, φ o⟩) (snoc_get _ _) (by rw [← g3.len]; exact snoc_get _ _)
end Go.Proofs.YtipfcgbhaalcdaaGreat.Abs
namespace Go.Proofs.YtipfcgbhaalcdaaGreat.Abs
open Go
set_option linter.unusedVariables false
set_option linter.unusedSimpArgs false
variable {P : Program} {E : Env} {ρ0 : Nat → Value} {w0 : World} {A : Fp} {ob : Objs} {w : World} {ρ : Nat → Value} {φ : Nat → Fp} {Z : Fp} {sl : Slots} {a : Act}
variable {w1 : World} {ρ1 : Nat → Value} {φ1 : Nat → Fp} {Z1 : Fp} {conts : List Cont}

theorem view_same {sz n lo len : Nat} {v1 v x : Value} (h : View sz v1 0 n v) (h2 : View sz v1 lo len x) : View sz v lo len x := by
  rcases h with ⟨rfl, _, _, rfl⟩ | ⟨a, n0, c, q, c', rfl, rfl, g1, g2, g3, g4⟩
  · exact h2
  · obtain rfl : q = 0 := by omega
    obtain rfl : c' = c := by omega
    rcases h2 with ⟨e, _⟩ | ⟨a2, n2, c2, q2, c2', e, rfl, k1, k2, k3, k4⟩
    · cases e
    · cases e
      exact .inr ⟨a, n, c', q2, c2', by rw [Nat.zero_mul, add_zero_addr], rfl, k1, k2, k3, k4⟩
theorem view_eq {sz n : Nat} {v1 v x : Value} {m : Nat} (h : View sz v1 0 n v) (hl : ∃ a c, v1 = .slice a n c) : v1 = v := by
  rcases h with ⟨rfl, _, _, rfl⟩ | ⟨a, n0, c, q, c', rfl, rfl, g1, g2, g3, g4⟩
  · rfl
  · obtain rfl : q = 0 := by omega
    obtain rfl : c' = c := by omega
    obtain ⟨a2, c2, e⟩ := hl
    cases e
    rw [Nat.zero_mul, add_zero_addr]

theorem arg_ob {i : Nat} {c : Cont} (hc : conts[i]? = some c) : obIn conts (1000000 + i) = ⟨0, 0, false, c⟩ := by rw [obIn_hi]; simp [hc]

theorem arg_tree (h0 : OInv w0 A (obIn conts) w ρ φ Z) (hst : ∀ a x, AVR w (obIn conts) ρ a x → AVR w1 ob ρ1 a x) {i sz lvl lvl' : Nat} {rows : List (List T)} {t' : T} (hci : conts[i]? = some (.tree lvl (.sl sz rows)))
    (hb : (ob (1000000 + i)).birth = 0) (hc : (ob (1000000 + i)).c = .tree lvl' t') : ∃ rows', t' = .sl sz rows' ∧ rows.length ≤ rows'.length ∧ View sz (ρ1 (1000000 + i)) 0 rows.length (ρ (1000000 + i)) := by
  have e := arg_ob hci
  have hO := h0.tree (o := 1000000 + i) (by rw [e])
  have hA := avr_root (ob := obIn conts) (d := 1000000 + i) hO (by rw [e]) rfl rfl (b := 0) (by rw [e])
  cases hst _ _ hA with
  | h hbn hs hval =>
    obtain ⟨v', rows', hat, hle, hvw⟩ := (hval ⟨hb, .inl rfl⟩).2 _ _ hc
    obtain ⟨rfl, rfl⟩ := hat.root
    exact ⟨rows', rfl, by omega, hvw⟩
theorem arg_box (h0 : OInv w0 A (obIn conts) w ρ φ Z) (hst : ∀ a x, AVR w (obIn conts) ρ a x → AVR w1 ob ρ1 a x) {i : Nat} {cells cells' : List AV} (hci : conts[i]? = some (.box cells))
    (hb : (ob (1000000 + i)).birth = 0) (hc : (ob (1000000 + i)).c = .box cells') : ρ1 (1000000 + i) = ρ (1000000 + i) := by
  have e := arg_ob hci
  obtain ⟨b, cs, ee, fr, k1, _⟩ := h0.boxed (o := 1000000 + i) (cells := cells) (by rw [e])
  have hA : AVR w (obIn conts) ρ (.pt (1000000 + i) 0 0 [] 0 0) (ρ (1000000 + i)) := by
    refine .pt (by rw [e]; exact ⟨Nat.le_refl _, fun _ h => (h rfl).elim⟩) ⟨_, k1⟩ fun _ => ⟨fun lvl t h => (by rw [e] at h; cases h), fun cs h _ => ⟨b, k1, by rw [k1, add_zero_addr]⟩⟩
  cases hst _ _ hA with
  | pt hbn hs hval =>
    obtain ⟨b', h1, h2⟩ := (hval ⟨hb, .inl rfl⟩).2 _ hc rfl
    rw [h1, h2, add_zero_addr]

def cellsAt (w : World) : Value → Array Value
  | .pointer (some a) => match w.heap[a.block]? with | some (.cells cs _ _) => cs | _ => #[]
  | _ => #[]
def noVal : Value := .tuple #[.func (.func 0) #[] #[undef]]
def boxVal (w : World) (ρ : Nat → Value) (ob : Objs) (o : Nat) : Value := match (ob o).c with | .box _ => if (ob o).birth = 0 then .agg (cellsAt w (ρ o)) else noVal | _ => noVal
def boxVals (w : World) (ρ : Nat → Value) (ob : Objs) : Nat → List Cont → List Value
  | _, [] => []
  | i, .box _ :: r => boxVal w ρ ob (1000000 + i) :: boxVals w ρ ob (i + 1) r
  | i, _ :: r => boxVals w ρ ob (i + 1) r
theorem avr_noVal : AVR w ob ρ (.tu [.fn 0 [.u]]) noVal := by
  refine .tu rfl fun i a hi => ?_
  cases i with
  | zero =>
    simp at hi; subst hi
    refine .fn rfl fun i a hi => ?_
    cases i with
    | zero => simp at hi; subst hi; exact .u
    | succ i => simp at hi
  | succ i => simp at hi
theorem avr_boxArgs (h : OInv w0 A ob w ρ φ Z) : ∀ (conts : List Cont) (i m : Nat) (a : AV), (boxArgs ob i conts)[m]? = some a → AVR w ob ρ a ((boxVals w ρ ob i conts).getD m undef) := by
  intro conts
  induction conts with
  | nil => intro i m a hm; simp [boxArgs] at hm
  | cons c r ih =>
    intro i m a hm
    cases c with
    | box l =>
      simp only [boxArgs] at hm
      simp only [boxVals]
      cases m with
      | succ m => exact ih (i + 1) m a (by simpa using hm)
      | zero =>
        simp only [List.getElem?_cons_zero, Option.some.injEq] at hm
        simp only [List.getD_cons_zero]
        subst hm
        unfold boxVal
        cases hc : (ob (1000000 + i)).c with
        | dead => exact avr_noVal
        | tree l t => exact avr_noVal
        | box l =>
          simp only
          split
          · obtain ⟨b, cs, e, fr, k1, k2, _, k4, k5, _⟩ := h.boxed hc
            rw [k1]
            simp only [cellsAt, k2]
            exact .ag k4 k5
          · exact avr_noVal
    | tree l t => simp only [boxArgs] at hm; simp only [boxVals]; exact ih (i + 1) m a hm
    | dead => simp only [boxArgs] at hm; simp only [boxVals]; exact ih (i + 1) m a hm

def BK (w : World) (ρ : Nat → Value) (ob : Objs) (conts : List Cont) (ρ0 : Nat → Value) (mv : List (Nat × Nat × Nat × Nat)) (ns : List Cont) (ys : List NE) (o : Nat) : Cont → Option (Option Cont) → Prop
  | .tree 0 _, x => x = some none
  | .tree (_ + 1) t0, x => x = some (some .dead) ∨ ∃ l' t, x = some (some (.tree l' t)) ∧ (ob o).c = .tree l' t ∧ T.full l' t = true ∧ t.like t0 = true ∧ (ob o).birth = 0 ∧ o ∉ mv.map (·.1)
  | .box _, x => ∃ l', x = some (some (.box l')) ∧ (∃ cells, (ob o).c = .box cells) ∧ (ob o).birth = 0 ∧ AEx conts ρ0 ns ys (.ag l') (.agg (cellsAt w (ρ o)))
  | .dead, _ => False

theorem backE_run {mv : List (Nat × Nat × Nat × Nat)} {C ns : List Cont} {ys : List NE} : ∀ (conts : List Cont) (i : Nat) (bs : List AV) (b : List (Option Cont)), backE ob mv i conts bs = some b → (∀ m a, bs[m]? = some a → AEx C ρ0 ns ys a ((boxVals w ρ ob i conts).getD m undef)) →
    b.length = conts.length ∧ ∀ j c, conts[j]? = some c → BK w ρ ob C ρ0 mv ns ys (1000000 + (i + j)) c b[j]? := by
  intro conts
  induction conts with
  | nil => intro i bs b hr hb; cases bs <;> (simp only [backE, Option.some.injEq] at hr; subst hr; exact ⟨rfl, fun j c h => by simp at h⟩)
  | cons c r ih =>
    intro i bs b hr hb
    have go : ∀ {bs' : List AV} {b' : List (Option Cont)} {x : Option Cont}, backE ob mv (i + 1) r bs' = some b' → (∀ m a, bs'[m]? = some a → AEx C ρ0 ns ys a ((boxVals w ρ ob (i + 1) r).getD m undef)) → b = x :: b' → BK w ρ ob C ρ0 mv ns ys (1000000 + i) c (some x) →
        b.length = (c :: r).length ∧ ∀ j c', (c :: r)[j]? = some c' → BK w ρ ob C ρ0 mv ns ys (1000000 + (i + j)) c' b[j]? := by
      intro bs' b' x h1 h2 e h3
      subst e
      obtain ⟨g1, g2⟩ := ih (i + 1) bs' b' h1 h2
      refine ⟨by simp [g1], fun j c' hj => ?_⟩
      cases j with
      | zero => simp at hj; subst hj; simpa using h3
      | succ j => have := g2 j c' (by simpa using hj); simpa [Nat.add_assoc, Nat.add_comm 1 j] using this
    have nd : ∀ {bs' : List AV} {x : Option Cont}, (backE ob mv (i + 1) r bs').map (x :: ·) = some b → ∃ b', backE ob mv (i + 1) r bs' = some b' ∧ b = x :: b' := by
      intro bs' x h
      cases hq : backE ob mv (i + 1) r bs' with
      | none => simp [hq] at h
      | some b' => simp only [hq, Option.map_some, Option.some.injEq] at h; exact ⟨b', rfl, h.symm⟩
    cases c with
    | dead => cases bs <;> simp [backE] at hr
    | box l =>
      cases bs with
      | nil => simp [backE] at hr
      | cons y bs =>
        cases y with
        | ag l' =>
          simp only [backE] at hr
          obtain ⟨b', h1, h2⟩ := nd hr
          have hy := hb 0 _ rfl
          simp only [boxVals, List.getD_cons_zero] at hy
          refine go h1 (fun m a hm => by simpa [boxVals] using hb (m + 1) a (by simpa using hm)) h2 ?_
          unfold boxVal at hy
          cases hc : (ob (1000000 + i)).c with
          | dead => simp only [hc, noVal] at hy; cases hy
          | tree l t => simp only [hc, noVal] at hy; cases hy
          | box cells =>
            simp only [hc] at hy
            split at hy
            · rename_i hbi
              exact ⟨l', rfl, ⟨_, hc⟩, hbi, hy⟩
            · simp only [noVal] at hy; cases hy
        | _ => simp [backE] at hr
    | tree lv t0 =>
      have hbs : ∀ m a, bs[m]? = some a → AEx C ρ0 ns ys a ((boxVals w ρ ob (i + 1) r).getD m undef) := fun m a hm => by simpa [boxVals] using hb m a hm
      cases lv with
      | zero =>
        have hr' : (backE ob mv (i + 1) r bs).map (none :: ·) = some b := by cases bs <;> simpa [backE] using hr
        obtain ⟨b', h1, h2⟩ := nd hr'
        exact go h1 hbs h2 rfl
      | succ lv =>
        have hr' : (if mv.any (·.1 == 1000000 + i) then (backE ob mv (i + 1) r bs).map (some .dead :: ·)
          else match (ob (1000000 + i)).c with
            | .tree l t => if T.full l t = true ∧ t.like t0 = true ∧ (ob (1000000 + i)).birth = 0 then (backE ob mv (i + 1) r bs).map (some (.tree l t) :: ·) else none
            | .dead => (backE ob mv (i + 1) r bs).map (some .dead :: ·)
            | .box _ => none) = some b := by cases bs <;> (simp only [backE] at hr; exact hr)
        split at hr'
        · obtain ⟨b', h1, h2⟩ := nd hr'
          exact go h1 hbs h2 (.inl rfl)
        · rename_i hmv
          split at hr'
          · rename_i l t hc
            split at hr'
            · rename_i hq
              obtain ⟨b', h1, h2⟩ := nd hr'
              refine go h1 hbs h2 (.inr ⟨l, t, rfl, hc, hq.1, hq.2.1, hq.2.2, fun hm => hmv ?_⟩)
              rw [List.mem_map] at hm
              obtain ⟨q, hq2, e⟩ := hm
              rw [List.any_eq_true]
              exact ⟨q, hq2, by simp [e]⟩
            · cases hr'
          · obtain ⟨b', h1, h2⟩ := nd hr'
            exact go h1 hbs h2 (.inl rfl)
          · cases hr'
end Go.Proofs.YtipfcgbhaalcdaaGreat.Abs
namespace Go.Proofs.YtipfcgbhaalcdaaGreat.Abs
open Go
set_option linter.unusedVariables false
set_option linter.unusedSimpArgs false
variable {P : Program} {E : Env} {ρ0 : Nat → Value} {w0 : World} {A : Fp} {ob : Objs} {w : World} {ρ : Nat → Value} {φ : Nat → Fp} {Z : Fp} {sl : Slots} {a : Act}
variable {w1 : World} {ρ1 : Nat → Value} {φ1 : Nat → Fp} {Z1 : Fp} {conts : List Cont}

def ρo (ρ : Nat → Value) (ys : List NE) (o : Nat) : Value := if 2000000 ≤ o then (match ys[o - 2000000]? with | some y => y.v | none => undef) else ρ o
def alive : Option Cont → Bool | some (.tree ..) => true | some (.box _) => true | _ => false
def φo (φ1 : Nat → Fp) (ys : List NE) (b : List (Option Cont)) (o : Nat) : Fp :=
  if 2000000 ≤ o then (match ys[o - 2000000]? with | some y => y.F | none => none_) else if 1000000 ≤ o then (if alive (b.getD (o - 1000000) none) = true then φ1 o else none_) else none_

theorem ρo_new {ys : List NE} {j : Nat} {y : NE} (h : ys[j]? = some y) : ρo ρ ys (2000000 + j) = y.v := by simp [ρo, h]
theorem ρo_old {ys : List NE} {o : Nat} (h : o < 2000000) : ρo ρ ys o = ρ o := by simp [ρo]; intro h2; omega

theorem Same.box2 {w w' : World} {ob ob' : Ob} {v : Value} {cells cells' : List AV} (hb : ob'.birth = ob.birth) (hs : ob.sver ≤ ob'.sver) (hc : ob.c = .box cells) (hc' : ob'.c = .box cells') : Same w w' ob ob' v v := by
  intro b g p hbn
  refine ⟨⟨by rw [hb]; exact hbn.1, fun he hp => Nat.le_trans (hbn.2 (he.trans hb) hp) hs⟩, fun hv => ?_⟩
  have hsv : Valid ob b g p := by
    refine ⟨hb.symm.trans hv.1, ?_⟩
    by_cases hp : p = []
    · exact .inl hp
    · have h1 := hbn.2 (hv.1.symm.trans hb) hp
      have h2 := hv.2.resolve_left hp
      right; omega
  exact ⟨hsv, fun sz lo len x hh => (hh.1 cells hc).elim, fun i j x h => ⟨fun lvl t h => (by rw [hc'] at h; cases h), fun cs h9 hp => h.2 cells hc hp⟩⟩

theorem like_rows {t t0 : T} (h : t.like t0 = true) : ∃ sz rows rows0, t = .sl sz rows ∧ t0 = .sl sz rows0 ∧ rows.length = rows0.length := by
  unfold T.like at h
  split at h
  · simp only [Bool.and_eq_true, beq_iff_eq] at h
    obtain ⟨rfl, h2⟩ := h
    exact ⟨_, _, _, rfl, rfl, h2⟩
  · cases h

theorem ow_slice {l sz : Nat} {v : Value} {rows : List (List T)} {F : Fp} (h : Ow Z w l v (.sl sz rows) F) : ∃ a c, v = .slice a rows.length c := by
  cases h with
  | nil => exact ⟨none, 0, rfl⟩
  | ro => exact ⟨_, _, rfl⟩
  | own => exact ⟨_, _, rfl⟩

theorem leave_step (h0 : OInv w A (obIn conts) w ρ φ Z) (hZA : ∀ k, Z k → ¬ A k) (hsmall : conts.length < 1000000) (h1 : OInv w A ob w1 ρ1 φ1 Z1) (hst : ∀ a x, AVR w (obIn conts) ρ a x → AVR w1 ob ρ1 a x)
    {mv : List (Nat × Nat × Nat × Nat)} {ns : List Cont} {ys : List NE} (hE : EI w1 φ1 Z1 conts ρ ρ1 ob mv ns ys) {b : List (Option Cont)} (hbl : b.length = conts.length)
    (hB : ∀ (j : Nat) c, conts[j]? = some c → BK w1 ρ1 ob conts ρ mv ns ys (1000000 + j) c b[j]?) (r : Res) (hn : r.news = ns) (hbk : r.back = b) :
    Step w A (obIn conts) w ρ (obOut conts r) w1 (ρo ρ ys) (φo φ1 ys b) (fun k => Z1 k ∨ Z k) ∧ ∀ x v, AEx conts ρ ns ys x v → AVR w1 (obOut conts r) (ρo ρ ys) x v := by
  subst hn; subst hbk
  -- each argument: what it is now
  have arg : ∀ (i : Nat) c, conts[i]? = some c → i < 1000000 := fun i c h => Nat.lt_trans (List.getElem?_eq_some_iff.1 h).1 hsmall
  have oarg : ∀ (i : Nat), i < 1000000 → obOut conts r (1000000 + i) = match r.back.getD i none with | some c => ⟨0, 1, true, c⟩ | none => obIn conts (1000000 + i) := fun i hi => obOut_arg hi
  have φarg : ∀ (i : Nat), i < 1000000 → φo φ1 ys r.back (1000000 + i) = if alive (r.back.getD i none) = true then φ1 (1000000 + i) else none_ := by
    intro i hi; simp [φo]; intro h; omega
  have getb : ∀ {i : Nat} {x : Option Cont}, r.back[i]? = some x → r.back.getD i none = x := by intro i x h; simp [h]
  -- a written tree lies where it lay
  have same_tree : ∀ {i : Nat} {lv l' : Nat} {t t0 : T}, conts[i]? = some (.tree lv t0) → (ob (1000000 + i)).c = .tree l' t → t.like t0 = true → (ob (1000000 + i)).birth = 0 → ρ1 (1000000 + i) = ρ (1000000 + i) := by
    intro i lv l' t t0 hci hc hl hb
    obtain ⟨sz, rows, rows0, rfl, rfl, hlen⟩ := like_rows hl
    obtain ⟨rows', e, _, hv⟩ := arg_tree h0 hst hci hb hc
    cases e
    have := ow_slice (h1.tree hc)
    rw [hlen] at this
    exact view_eq (x := undef) (m := 0) hv this
  -- values
  have val : ∀ x v, AEx conts ρ r.news ys x v → AVR w1 (obOut conts r) (ρo ρ ys) x v := by
    intro x v hx
    induction hx with
    | s h => exact .s h
    | u => exact .u
    | ag hl h ih => exact .ag hl ih
    | tu hl h ih => exact .tu hl ih
    | @ro i sz lo len rows x hc hle hv =>
      have hi := arg i _ hc
      have hbk := hB i _ hc
      simp only [BK] at hbk
      have ho : obOut conts r (1000000 + i) = ⟨0, 0, false, .tree 0 (.sl sz rows)⟩ := by rw [oarg i hi, getb hbk, arg_ob hc]
      have hsh : ∃ a c, x = .slice a len c ∧ len ≤ c ∧ (a = none → c = 0) := by
        rcases hv with ⟨_, _, rfl, rfl⟩ | ⟨a, n, c, q, c', _, rfl, g1, _⟩
        · exact ⟨none, 0, rfl, Nat.le_refl _, fun _ => rfl⟩
        · exact ⟨_, _, rfl, g1, fun h => by cases h⟩
      refine .h (by rw [ho]; exact ⟨Nat.le_refl _, fun _ h => (h rfl).elim⟩) hsh fun _ => ⟨fun cells h => (by rw [ho] at h; cases h), fun lvl t h => ?_⟩
      rw [ho] at h
      cases h
      exact ⟨_, rows, .here, hle, by rw [ρo_old (by omega)]; exact hv⟩
    | @bx i cells hc =>
      have hi := arg i _ hc
      obtain ⟨l', hb', ⟨cells', hc'⟩, hbi, hx⟩ := hB i _ hc
      have ho : obOut conts r (1000000 + i) = ⟨0, 1, true, .box l'⟩ := by rw [oarg i hi, getb hb']
      obtain ⟨bb, cs, ee, fr, k1, _⟩ := h0.boxed (o := 1000000 + i) (cells := cells) (by rw [arg_ob hc])
      refine .pt (by rw [ho]; exact ⟨Nat.le_refl _, fun _ h => (h rfl).elim⟩) ⟨_, k1⟩ fun _ => ⟨fun lvl t h => (by rw [ho] at h; cases h), fun cs h _ => ⟨bb, by rw [ρo_old (by omega), k1], by rw [k1, add_zero_addr]⟩⟩
    | @nw j l sz rows len y hc hy hl =>
      obtain ⟨_, _, how, _⟩ := hE.ok j _ y hc hy
      refine avr_root (ob := obOut conts r) (d := 2000000 + j) (lvl := l) how (by rw [obOut_new]; simp [hc]) (ρo_new hy) hl (by rw [obOut_new])
    | @nb j cells y hc hy =>
      obtain ⟨bb, cs, e, fr, k1, _⟩ := hE.ok j _ y hc hy
      have ho : obOut conts r (2000000 + j) = ⟨1, 0, false, .box cells⟩ := by rw [obOut_new]; simp [hc]
      refine .pt (by rw [ho]; exact ⟨Nat.le_refl _, fun _ h => (h rfl).elim⟩) ⟨_, k1⟩ fun _ => ⟨fun lvl t h => (by rw [ho] at h; cases h), fun cs h _ => ⟨bb, by rw [ρo_new hy, k1], by rw [k1, add_zero_addr]⟩⟩
  refine ⟨?_, val⟩
  -- where each block comes from
  have newSrc : ∀ {j : Nat} {y : NE} {k : Nat}, ys[j]? = some y → y.F k → ∃ o, y.src = some o ∧ φ1 o k := by
    intro j y k hy hk
    have hj : j < r.news.length := by rw [← hE.len]; exact (List.getElem?_eq_some_iff.1 hy).1
    have hok := hE.ok j _ y (List.getElem?_eq_getElem hj) hy
    cases hc : r.news[j] with
    | dead => rw [hc] at hok; exact hok.elim
    | tree l t => rw [hc] at hok; exact hok.2.2.2.1 k hk
    | box cells =>
      rw [hc] at hok
      obtain ⟨bb, cs, e, fr, _, _, _, _, _, k6, ⟨o, k7, k8⟩, _⟩ := hok
      rw [(k6 k).1 hk]
      exact ⟨o, k7, k8⟩
  have from1 : ∀ {o k : Nat}, φo φ1 ys r.back o k → (2000000 ≤ o ∧ ∃ y o1, ys[o - 2000000]? = some y ∧ y.F k ∧ y.src = some o1 ∧ φ1 o1 k) ∨ (∃ i, o = 1000000 + i ∧ i < 1000000 ∧ alive (r.back.getD i none) = true ∧ φ1 o k) := by
    intro o k hk
    unfold φo at hk
    split at hk
    · rename_i h2
      left
      cases hy : ys[o - 2000000]? with
      | none => rw [hy] at hk; exact hk.elim
      | some y =>
        rw [hy] at hk
        obtain ⟨o1, g1, g2⟩ := newSrc hy hk
        exact ⟨h2, y, o1, rfl, hk, g1, g2⟩
    · split at hk
      · rename_i h2 h3
        split at hk
        · rename_i h4
          exact .inr ⟨o - 1000000, by omega, by omega, h4, hk⟩
        · exact hk.elim
      · exact hk.elim
  have src1 : ∀ {o k : Nat}, φo φ1 ys r.back o k → ∃ o1, φ1 o1 k := by
    intro o k hk
    rcases from1 hk with ⟨_, y, o1, _, _, _, h⟩ | ⟨i, _, _, _, h⟩
    · exact ⟨o1, h⟩
    · exact ⟨o, h⟩
  -- an argument that is alive is nobody's source
  have notSrc : ∀ {i j : Nat} {y : NE}, i < 1000000 → alive (r.back.getD i none) = true → ys[j]? = some y → y.src ≠ some (1000000 + i) := by
    intro i j y hi hal hy hs
    have hil : i < conts.length := by
      rw [← hbl]
      cases hq : r.back[i]? with
      | none => simp [hq, alive] at hal
      | some x => exact (List.getElem?_eq_some_iff.1 hq).1
    have hci := List.getElem?_eq_getElem hil
    have hbk := hB i _ hci
    have hj : j < r.news.length := by rw [← hE.len]; exact (List.getElem?_eq_some_iff.1 hy).1
    have hok := hE.ok j _ y (List.getElem?_eq_getElem hj) hy
    cases hc : conts[i] with
    | dead => rw [hc] at hbk; exact hbk
    | tree lv t =>
      rw [hc] at hbk
      cases lv with
      | zero => simp only [BK] at hbk; rw [getb hbk] at hal; cases hal
      | succ lv =>
        rcases hbk with hbk | ⟨l', t', _, _, _, _, _, hno⟩
        · rw [getb hbk] at hal; cases hal
        · exact hno (hE.inmv j y _ hy hs)
    | box cells =>
      rw [hc] at hbk
      obtain ⟨l', _, ⟨cells', hc'⟩, _, _⟩ := hbk
      cases hcj : r.news[j] with
      | dead => rw [hcj] at hok; exact hok.elim
      | tree l t =>
        rw [hcj] at hok
        obtain ⟨l2, t2, h2⟩ := hok.2.2.2.2 _ hs
        rw [hc'] at h2; cases h2
      | box cells2 =>
        rw [hcj] at hok
        obtain ⟨bb, cs, e, fr, _, _, _, _, _, _, _, k9⟩ := hok
        exact (k9 _ hs).2 ⟨by omega, by omega⟩
  have frame0 : ∀ k, Z k → w1.heap[k]? = w.heap[k]? := fun k hk => h1.keep.block k (h0.zlt k hk) (hZA k hk)
  refine ⟨⟨h1.keep, fun k g1 g2 => .inl (h1.z0 k g1 g2), fun k hk => hk.elim (h1.zlt k) (fun hz => Nat.lt_of_lt_of_le (h0.zlt k hz) h1.keep.size), fun o k hk hz => ?_, fun o o' k hk hk' => ?_, fun o k hk hlt => ?_, fun o => ?_⟩, fun x v hx => ?_⟩
  · obtain ⟨o1, g⟩ := src1 hk
    rcases hz with hz | hz
    · exact h1.notZ o1 k g hz
    · exact hZA k hz (h1.fresh o1 k g (h0.zlt k hz))
  · rcases from1 hk with ⟨g1, y, o1, g2, g3, g4, g5⟩ | ⟨i, rfl, g2, g3, g4⟩
    · rcases from1 hk' with ⟨g1', y', o1', g2', g3', g4', g5'⟩ | ⟨i', rfl, g2', g3', g4'⟩
      · have := h1.disj _ _ k g5 g5'
        subst this
        have := hE.uniq _ _ y y' o1 g2 g2' g4 g4'
        omega
      · have := h1.disj _ _ k g5 g4'
        subst this
        exact (notSrc g2' g3' g2 g4).elim
    · rcases from1 hk' with ⟨g1', y', o1', g2', g3', g4', g5'⟩ | ⟨i', rfl, g2', g3', g4'⟩
      · have := h1.disj _ _ k g4 g5'
        subst this
        exact (notSrc g2 g3 g2' g4').elim
      · exact h1.disj _ _ k g4 g4'
  · obtain ⟨o1, g⟩ := src1 hk
    exact h1.fresh o1 k g hlt
  · unfold ObOk
    by_cases h2 : 2000000 ≤ o
    · obtain ⟨j, rfl⟩ : ∃ j, o = 2000000 + j := ⟨o - 2000000, by omega⟩
      rw [obOut_new]
      cases hj : r.news[j]? with
      | none =>
        have : ys[j]? = none := by
          rw [List.getElem?_eq_none_iff] at hj ⊢; rw [hE.len]; exact hj
        simp [φo, this, none_]
        simp [hj]
      | some c =>
        have hlt : j < ys.length := by rw [hE.len]; exact (List.getElem?_eq_some_iff.1 hj).1
        have hy := List.getElem?_eq_getElem hlt
        have hok := hE.ok j c _ hj hy
        have hφ : φo φ1 ys r.back (2000000 + j) = (ys[j]).F := by simp [φo, hy]
        have hgd : r.news.getD j Cont.dead = c := by simp [hj]
        rw [hgd, hφ, ρo_new hy]
        cases c with
        | dead => exact hok.elim
        | tree l t => exact hok.2.2.1.full hok.2.1 _
        | box cells =>
          obtain ⟨bb, cs, e, fr, k1, k2, k3, k4, k5, k6, _⟩ := hok
          exact ⟨bb, cs, e, fr, k1, k2, k3, k4, fun i a hi => val _ _ (k5 i a hi), k6⟩
    · by_cases h3 : 1000000 ≤ o
      · obtain ⟨i, rfl⟩ : ∃ i, o = 1000000 + i := ⟨o - 1000000, by omega⟩
        have hi : i < 1000000 := by omega
        rw [oarg i hi, φarg i hi, ρo_old (by omega)]
        cases hci : conts[i]? with
        | none =>
          have : r.back[i]? = none := by rw [List.getElem?_eq_none_iff] at hci ⊢; rw [hbl]; exact hci
          simp [this, alive, obIn_hi, hci, none_]
        | some c =>
          have hbk := hB i c hci
          cases c with
          | dead => exact hbk.elim
          | tree lv t0 =>
            cases lv with
            | zero =>
              simp only [BK] at hbk
              rw [getb hbk, arg_ob hci]
              have hO := h0.tree (o := 1000000 + i) (lvl := 0) (t := t0) (by rw [arg_ob hci])
              have e := hO.zero rfl
              rw [e] at hO
              simp only [alive, Bool.false_eq_true, if_false]
              exact (hO.frame frame0 (fun k hk => hk.elim)).monoZ fun k hk => .inr hk
            | succ lv =>
              rcases hbk with hbk | ⟨l', t, hbk, hc, hf, hl, hb, _⟩
              · rw [getb hbk]
                simp only [alive, Bool.false_eq_true, if_false]
                exact fun k hk => hk
              · rw [getb hbk]
                simp only [alive, if_true]
                rw [← same_tree hci hc hl hb]
                exact (h1.tree hc).full hf _
          | box l =>
            obtain ⟨l', hbk, ⟨cells, hc⟩, hb, hx⟩ := hbk
            rw [getb hbk]
            simp only [alive, if_true]
            obtain ⟨bb, cs, e, fr, k1, k2, k3, k4, k5, k6⟩ := h1.boxed hc
            have hρ := arg_box h0 hst hci hb hc
            have hx' := val _ _ hx
            rw [k1] at hx'
            simp only [cellsAt, k2] at hx'
            cases hx' with
            | ag hl h => exact ⟨bb, cs, e, fr, by rw [← hρ]; exact k1, k2, k3, hl, h, k6⟩
      · have e1 : obOut conts r o = ⟨0, 0, false, .dead⟩ := by unfold obOut; rw [if_neg h2, if_neg h3]
        have e2 : φo φ1 ys r.back o = none_ := by unfold φo; rw [if_neg h2, if_neg h3]
        rw [e1, e2]
        exact fun k hk => hk
  · refine hx.mono fun o => ?_
    by_cases h2 : 2000000 ≤ o
    · obtain ⟨j, rfl⟩ : ∃ j, o = 2000000 + j := ⟨o - 2000000, by omega⟩
      have e : obIn conts (2000000 + j) = ⟨0, 0, false, .dead⟩ := by
        unfold obIn
        rw [if_pos (by omega), List.getD_eq_getElem?_getD, List.getElem?_eq_none (by omega)]; rfl
      rw [e, obOut_new]
      exact Same.born (ob := ⟨0, 0, false, .dead⟩)
    · rw [ρo_old (by omega)]
      by_cases h3 : 1000000 ≤ o
      · obtain ⟨i, rfl⟩ : ∃ i, o = 1000000 + i := ⟨o - 1000000, by omega⟩
        have hi : i < 1000000 := by omega
        rw [oarg i hi]
        cases hci : conts[i]? with
        | none =>
          have : r.back[i]? = none := by rw [List.getElem?_eq_none_iff] at hci ⊢; rw [hbl]; exact hci
          simp only [List.getD_eq_getElem?_getD, this, Option.getD_none]
          refine Same.stay (Z := Z) fun lvl t hc => ?_
          rw [obIn_hi] at hc
          simp [hci] at hc
        | some c =>
          have hbk := hB i c hci
          cases c with
          | dead => exact hbk.elim
          | tree lv t0 =>
            cases lv with
            | zero =>
              simp only [BK] at hbk
              rw [getb hbk]
              refine Same.stay (Z := Z) fun lvl t hc => ?_
              have hO := h0.tree hc
              rw [arg_ob hci] at hc
              cases hc
              refine ⟨_, hO, frame0, fun k hk => ?_⟩
              rw [hO.zero rfl] at hk
              exact hk.elim
            | succ lv =>
              rw [arg_ob hci]
              rcases hbk with hbk | ⟨l', t, hbk, hc, hf, hl, hb, _⟩
              · rw [getb hbk]
                exact Same.dead (ob := ⟨0, 0, false, .tree (lv + 1) t0⟩) (Nat.zero_le 1)
              · rw [getb hbk]
                obtain ⟨sz, rows, rows0, rfl, rfl, hlen⟩ := like_rows hl
                refine Same.root (ob := ⟨0, 0, false, .tree (lv + 1) (.sl sz rows0)⟩) (Nat.zero_le 1) (fun h => by cases h) (fun sz2 lo len x hh => ?_) (fun i j x hh => ?_)
                · exact HandleOk.root (ob := ⟨0, 0, false, .tree (lv + 1) (.sl sz rows0)⟩) rfl rfl (fun sz3 rows3 e => by cases e; exact ⟨rows, rfl, hlen⟩) hh
                · exact PtrOk.root (ob := ⟨0, 0, false, .tree (lv + 1) (.sl sz rows0)⟩) rfl rfl (fun sz3 rows3 e => by cases e; exact ⟨rows, rfl, hlen⟩) hh
          | box l =>
            rw [arg_ob hci]
            obtain ⟨l', hbk, _⟩ := hbk
            rw [getb hbk]
            exact Same.box2 rfl (Nat.zero_le 1) rfl rfl
      · have e1 : obOut conts r o = ⟨0, 0, false, .dead⟩ := by unfold obOut; rw [if_neg h2, if_neg h3]
        have e2 : obIn conts o = ⟨0, 0, false, .dead⟩ := by unfold obIn; rw [if_neg h3]
        rw [e1, e2]
        exact Same.dead (ob := ⟨0, 0, false, .dead⟩) (Nat.le_refl 0)
end Go.Proofs.YtipfcgbhaalcdaaGreat.Abs
namespace Go.Proofs.YtipfcgbhaalcdaaGreat.Abs
open Go
set_option linter.unusedVariables false
set_option linter.unusedSimpArgs false
variable {P : Program} {E : Env} {ρ0 : Nat → Value} {w0 : World} {A : Fp} {ob : Objs} {w : World} {ρ : Nat → Value} {φ : Nat → Fp} {Z : Fp} {sl : Slots} {a : Act}

theorem expo_full {conts : List Cont} : ∀ (n : Nat) (l : List AV) (mv : List (Nat × Nat × Nat × Nat)) (ns : List Cont) (l' : List AV) (mv' : List (Nat × Nat × Nat × Nat)) (ns' : List Cont), expo ob conts n l mv ns = some (l', mv', ns') →
    (∀ lv t, .tree lv t ∈ ns → T.full lv t = true) → ∀ lv t, .tree lv t ∈ ns' → T.full lv t = true := by
  intro n
  induction n with
  | zero =>
    intro l mv ns l' mv' ns' hr h
    cases l with
    | nil => simp only [expo, Option.some.injEq, Prod.mk.injEq] at hr; rw [← hr.2.2]; exact h
    | cons x l => simp [expo] at hr
  | succ n ih =>
    intro l mv ns l' mv' ns' hr h
    cases l with
    | nil => simp only [expo, Option.some.injEq, Prod.mk.injEq] at hr; rw [← hr.2.2]; exact h
    | cons x l =>
      have snoc : ∀ {ns : List Cont} {c : Cont}, (∀ lv t, .tree lv t ∈ ns → T.full lv t = true) → (∀ lv t, c = .tree lv t → T.full lv t = true) → ∀ lv t, .tree lv t ∈ ns ++ [c] → T.full lv t = true := by
        intro ns c h1 h2 lv t hm
        rcases List.mem_append.1 hm with hm | hm
        · exact h1 lv t hm
        · simp at hm; exact h2 lv t hm.symm
      cases x with
      | s v | u =>
        simp only [expo] at hr
        split at hr
        · rename_i l2 mv2 ns2 hr2
          simp only [Option.some.injEq, Prod.mk.injEq] at hr
          rw [← hr.2.2]; exact ih _ _ _ _ _ _ hr2 h
        · cases hr
      | nl sz =>
        simp only [expo] at hr
        split at hr
        · rename_i l2 mv2 ns2 hr2
          simp only [Option.some.injEq, Prod.mk.injEq] at hr
          rw [← hr.2.2]; exact ih _ _ _ _ _ _ hr2 (snoc h fun lv t e => by cases e; rfl)
        · cases hr
      | ag c | tu c =>
        simp only [expo] at hr
        split at hr
        · rename_i c' mv1 ns1 hr1
          split at hr
          · rename_i l2 mv2 ns2 hr2
            simp only [Option.some.injEq, Prod.mk.injEq] at hr
            rw [← hr.2.2]; exact ih _ _ _ _ _ _ hr2 (ih _ _ _ _ _ _ hr1 h)
          · cases hr
        · cases hr
      | fn f c => simp [expo] at hr
      | h o b g p sz lo len =>
        simp only [expo] at hr
        split at hr
        case isFalse => cases hr
        split at hr
        · split at hr
          · split at hr
            case isFalse => cases hr
            split at hr
            · rename_i l2 mv2 ns2 hr2
              simp only [Option.some.injEq, Prod.mk.injEq] at hr
              rw [← hr.2.2]; exact ih _ _ _ _ _ _ hr2 h
            · cases hr
          · cases hr
        · split at hr
          · split at hr
            case isFalse => cases hr
            split at hr
            · rename_i l2 mv2 ns2 hr2
              simp only [Option.some.injEq, Prod.mk.injEq] at hr
              rw [← hr.2.2]; exact ih _ _ _ _ _ _ hr2 h
            · cases hr
          · split at hr
            case isFalse => cases hr
            rename_i hfull
            split at hr
            · rename_i l2 mv2 ns2 hr2
              simp only [Option.some.injEq, Prod.mk.injEq] at hr
              rw [← hr.2.2]; exact ih _ _ _ _ _ _ hr2 (snoc h fun lv t e => by cases e; exact hfull)
            · cases hr
        · cases hr
      | pt o b g p i j =>
        simp only [expo] at hr
        split at hr
        case isFalse => cases hr
        split at hr
        case h_2 => cases hr
        split at hr
        · split at hr
          case isFalse => cases hr
          split at hr
          · rename_i l2 mv2 ns2 hr2
            simp only [Option.some.injEq, Prod.mk.injEq] at hr
            rw [← hr.2.2]; exact ih _ _ _ _ _ _ hr2 h
          · cases hr
        · split at hr
          · cases hr
          · split at hr
            case h_2 => cases hr
            rename_i c' mv1 ns1 hr1
            split at hr
            case h_2 => cases hr
            rename_i l2 mv2 ns2 hr2
            simp only [Option.some.injEq, Prod.mk.injEq] at hr
            rw [← hr.2.2]; exact ih _ _ _ _ _ _ hr2 (snoc (ih _ _ _ _ _ _ hr1 h) fun lv t e => by cases e)

theorem backE_ok {mv : List (Nat × Nat × Nat × Nat)} : ∀ (conts : List Cont) (i : Nat) (bs : List AV) (b : List (Option Cont)), backE ob mv i conts bs = some b → b.length = conts.length ∧ ∀ (j : Nat) c, conts[j]? = some c → BackOk c b[j]? := by
  intro conts
  induction conts with
  | nil => intro i bs b hr; cases bs <;> (simp only [backE, Option.some.injEq] at hr; subst hr; exact ⟨rfl, fun j c h => by simp at h⟩)
  | cons c r ih =>
    intro i bs b hr
    have go : ∀ {bs' : List AV} {x : Option Cont}, (backE ob mv (i + 1) r bs').map (x :: ·) = some b → BackOk c (some x) → b.length = (c :: r).length ∧ ∀ (j : Nat) c', (c :: r)[j]? = some c' → BackOk c' b[j]? := by
      intro bs' x h h3
      cases hq : backE ob mv (i + 1) r bs' with
      | none => simp [hq] at h
      | some b' =>
        simp only [hq, Option.map_some, Option.some.injEq] at h
        subst h
        obtain ⟨g1, g2⟩ := ih (i + 1) bs' b' hq
        refine ⟨by simp [g1], fun j c' hj => ?_⟩
        cases j with
        | zero => simp at hj; subst hj; simpa using h3
        | succ j => simpa using g2 j c' (by simpa using hj)
    cases c with
    | dead => cases bs <;> simp [backE] at hr
    | box l =>
      cases bs with
      | nil => simp [backE] at hr
      | cons y bs =>
        cases y with
        | ag l' => simp only [backE] at hr; exact go hr ⟨l', rfl⟩
        | _ => simp [backE] at hr
    | tree lv t0 =>
      cases lv with
      | zero =>
        have hr' : (backE ob mv (i + 1) r bs).map (none :: ·) = some b := by cases bs <;> simpa [backE] using hr
        exact go hr' rfl
      | succ lv =>
        have hr' : (if mv.any (·.1 == 1000000 + i) then (backE ob mv (i + 1) r bs).map (some .dead :: ·)
          else match (ob (1000000 + i)).c with
            | .tree l t => if T.full l t = true ∧ t.like t0 = true ∧ (ob (1000000 + i)).birth = 0 then (backE ob mv (i + 1) r bs).map (some (.tree l t) :: ·) else none
            | .dead => (backE ob mv (i + 1) r bs).map (some .dead :: ·)
            | .box _ => none) = some b := by cases bs <;> (simp only [backE] at hr; exact hr)
        split at hr'
        · exact go hr' (.inl rfl)
        · split at hr'
          · split at hr'
            · rename_i hq; exact go hr' (.inr ⟨_, _, rfl, hq.1, hq.2.1⟩)
            · cases hr'
          · exact go hr' (.inl rfl)
          · cases hr'

def resOf (tmps : Array Value) : ResultVar → Sem Value
  | .tmp t => pure (tmps.getD t undef)
  | .cell a t => do loadVar t (← asAddr (tmps.getD a undef))

theorem mapM_list {α β : Type} (f : α → Sem β) : ∀ (l : List α) (g : Nat → β), (∀ i (h : i < l.length), (f l[i]).run P w = .ok (g i) w) → (l.mapM f).run P w = .ok ((List.range l.length).map g) w := by
  intro l
  induction l with
  | nil => intro g _; simp [List.mapM_nil, Sem.run, pure]
  | cons x l ih =>
    intro g hg
    have h0 := hg 0 (by simp)
    have ht := ih (fun i => g (i + 1)) fun i hi => hg (i + 1) (by simpa using hi)
    simp only [List.getElem_cons_zero] at h0
    rw [List.mapM_cons, Sem.run_bind, h0]
    simp only [Result.andThen]
    rw [Sem.run_bind, ht]
    simp only [Result.andThen]
    simp [Sem.run, pure, List.range_succ_eq_map, Function.comp_def]
theorem mapM_run {α β : Type} (f : α → Sem β) (xs : Array α) (g : Nat → β) (hg : ∀ i (h : i < xs.size), (f xs[i]).run P w = .ok (g i) w) : (xs.mapM f).run P w = .ok ((List.range xs.size).map g).toArray w := by
  have h := mapM_list (P := P) (w := w) f xs.toList g fun i hi => by simpa using hg i (by simpa using hi)
  rw [Array.mapM_eq_mapM_toList]
  simp [h, Array.length_toList]

theorem retVs_sound (hTs : TysOk P E) {n : Nat} {s : St} (h : Lies w0 A n s a w ρ φ Z) : ∀ (rs : List ResultVar) (l : List AV), retVs E s rs = some l → l.length = rs.length ∧ ∀ (i : Nat) rv x, rs[i]? = some rv → l[i]? = some x → ∃ v, (resOf a.tmps rv).run P w = .ok v w ∧ AVR w s.ob ρ x v := by
  intro rs
  induction rs with
  | nil => intro l hr; simp only [retVs, Option.some.injEq] at hr; subst hr; exact ⟨rfl, fun i rv x h => by simp at h⟩
  | cons r rs ih =>
    intro l hr
    cases r with
    | tmp t =>
      simp only [retVs] at hr
      split at hr
      · rename_i l2 hr2
        simp only [Option.some.injEq] at hr
        subst hr
        obtain ⟨g1, g2⟩ := ih l2 hr2
        refine ⟨by simp [g1], fun i rv x hi hx => ?_⟩
        cases i with
        | zero => simp at hi hx; subst hi; subst hx; exact ⟨_, rfl, h.sl t⟩
        | succ i => exact g2 i rv x (by simpa using hi) (by simpa using hx)
      · cases hr
    | cell c t =>
      simp only [retVs] at hr
      split at hr
      case h_2 => cases hr
      rename_i ti hti
      split at hr
      case h_2 => cases hr
      rename_i out hout
      split at hr
      case h_2 => cases hr
      rename_i l2 hr2
      simp only [Option.some.injEq] at hr
      subst hr
      obtain ⟨g1, g2⟩ := ih l2 hr2
      refine ⟨by simp [g1], fun i rv x hi hx => ?_⟩
      cases i with
      | zero =>
        simp at hi hx
        subst hi; subst hx
        have hs := h.sl c
        obtain ⟨v, h1, _, h3⟩ := load_sound (hTs _ _ hti) h.inv hs hout
        refine ⟨v, ?_, h3⟩
        unfold resOf
        simp only
        generalize a.tmps.getD c undef = q at hs h1 ⊢
        cases hq : s.sl c with
        | pt o b g p i j =>
          rw [hq] at hs
          cases hs with
          | pt _ hsh _ =>
            obtain ⟨ad, rfl⟩ := hsh
            simp only [Instr.loadAt, Instr.sureAddr, asAddr] at h1 ⊢
            exact h1
        | _ => rw [hq] at hout; simp [exLoad, Rd.run] at hout
      | succ i => exact g2 i rv x (by simpa using hi) (by simpa using hx)

theorem results_sound (hTs : TysOk P E) {n : Nat} {s : St} (h : Lies w0 A n s a w ρ φ Z) {fn : Func} {l : List AV} (hr : retVs E s fn.results.toList = some l) : ∃ v, (results fn a.tmps).run P w = .ok v w ∧ AVR w s.ob ρ (oneOf l) v := by
  obtain ⟨hl, hs⟩ := retVs_sound hTs h _ _ hr
  have hl' : l.length = fn.results.size := by simpa using hl
  have hex : ∀ i, ∃ v, ∀ (hi : i < fn.results.size), (resOf a.tmps fn.results[i]).run P w = .ok v w ∧ AVR w s.ob ρ (l.getD i .u) v := by
    intro i
    by_cases hi : i < fn.results.size
    · obtain ⟨v, h1, h2⟩ := hs i fn.results[i] (l[i]'(by omega)) (by simp [hi]) (by simp)
      exact ⟨v, fun _ => ⟨h1, by simpa [hl', hi] using h2⟩⟩
    · exact ⟨undef, fun h => absurd h hi⟩
  obtain ⟨g, hg⟩ := Classical.axiomOfChoice hex
  have hm := mapM_run (P := P) (w := w) (resOf a.tmps) fn.results g fun i hi => (hg i hi).1
  have hrun : (results fn a.tmps).run P w = .ok (if h : ((List.range fn.results.size).map g).toArray.size = 1 then ((List.range fn.results.size).map g).toArray[0] else .tuple ((List.range fn.results.size).map g).toArray) w := by
    have e : results fn a.tmps = (do
        let vs ← fn.results.mapM (resOf a.tmps)
        pure (if h : vs.size = 1 then vs[0] else .tuple vs)) := by
      unfold results resOf
      rfl
    rw [e, Sem.run_bind, hm]
    rfl
  refine ⟨_, hrun, ?_⟩
  by_cases h1 : fn.results.size = 1
  · rw [dif_pos (by simpa using h1)]
    obtain ⟨x, rfl⟩ : ∃ x, l = [x] := List.length_eq_one_iff.1 (hl'.trans h1)
    have := (hg 0 (by omega)).2
    simpa [oneOf] using this
  · rw [dif_neg (by simpa using h1)]
    have e : oneOf l = .tu l := by
      unfold oneOf
      split
      · rename_i x; exact absurd hl'.symm h1
      · rfl
    rw [e]
    refine .tu (by simp [hl']) fun i x hx => ?_
    have hi : i < fn.results.size := by rw [← hl']; exact (List.getElem?_eq_some_iff.1 hx).1
    have := (hg i hi).2
    simp [hx] at this
    simpa [Array.getD, hi] using this

theorem body_end {P : Program} {E : Env} {fn : Func} {conts : List Cont} {r : Res} {s : St} {x : Exit} {n : Nat} {w : World} {A : Fp} {ρ : Nat → Value} {φ : Nat → Fp} {Z : Fp} {a1 : Act} {w1 : World} {ρ1 : Nat → Value} {φ1 : Nat → Fp} {Z1 : Fp} (hT : TysOk P E) (hsmall : conts.length < 1000000)
    (h0 : OInv w A (obIn conts) w ρ φ Z) (hZA : ∀ k, Z k → ¬ A k) (hx : x = .normal ∨ x = .ret) (hl0 : leave E fn.results.toList conts s = some r) (hl1 : Lies w A n s a1 w1 ρ1 φ1 Z1) (st1 : Step w A (obIn conts) w ρ s.ob w1 ρ1 φ1 Z1) :
    bodyPost P fn (fun | .returned v, w' => ∃ ρ' φ' Z', Step w A (obIn conts) w ρ (obOut conts r) w' ρ' φ' Z' ∧ AVR w' (obOut conts r) ρ' r.v v | _, _ => False) (outOf x) a1 w1 := by
  have hl := hl0
  unfold leave at hl
  split at hl
  case h_2 => cases hl
  rename_i l hvs
  split at hl
  case h_2 => cases hl
  rename_i v' bs mv ns hex
  split at hl
  case h_2 => cases hl
  rename_i b hbk
  simp only [Option.some.injEq] at hl
  have hbo := backE_ok conts 0 bs b hbk
  obtain ⟨v, hv1, hv2⟩ := results_sound hT hl1 hvs
  have hEI : EI w1 φ1 Z1 conts ρ ρ1 s.ob [] [] [] := EI.nil
  obtain ⟨n2, y2, hns, _, hE2, hlen, hall, _⟩ := expo_sound (ρ0 := ρ) hl1.inv (fun i sz rows t hci hb hc lo len x hv => by
      obtain ⟨rows', _, _, hv0⟩ := arg_tree h0 st1.same hci hb hc
      exact view_same hv0 hv) (fun i cells cells' hci hb hc => arg_box h0 st1.same hci hb hc) 99 _ [] [] [] _ _ _ (fun i => (v :: boxVals w1 ρ1 s.ob 0 conts).getD i undef) hex hEI (fun i a hi => by
      cases i with
      | zero => simp at hi; subst hi; exact hv2
      | succ i => simpa using avr_boxArgs hl1.inv conts 0 i a (by simpa using hi))
  simp only [List.nil_append] at hE2 hall hns
  have hbr := backE_run (w := w1) (ρ := ρ1) (ρ0 := ρ) (C := conts) (ns := ns) (ys := y2) conts 0 bs b hbk (fun m a hm => by simpa using hall (m + 1) a (by simpa using hm))
  obtain ⟨hst, hval⟩ := leave_step h0 hZA hsmall hl1.inv st1.same hE2 hbr.1 (fun j c hj => by simpa using hbr.2 j c hj) r (by rw [← hl]) (by rw [← hl])
  have hR : ∃ ρ' φ' Z', Step w A (obIn conts) w ρ (obOut conts r) w1 ρ' φ' Z' ∧ AVR w1 (obOut conts r) ρ' r.v v := by
    refine ⟨_, _, _, hst, ?_⟩
    rw [← hl]
    rw [← hl] at hval
    simpa using hval v' v (by simpa using hall 0 v' rfl)
  rcases hx with rfl | rfl <;> exact ⟨hl1.defers, v, hv1, hR⟩
def PrimsOk (P : Program) (C : Conf) : Prop := ∀ f p, C.prim f = some p → ∀ args conts r, p args conts = some r → FnOk P f args conts r

theorem callE_sound {C : Conf} (hTs : ∀ t i, C.ty t = some i → TyOk P t i) (hP : PrimsOk P C) : ∀ (k : Nat) f args conts r, callE P C k f args conts = some r → FnOk P f args conts r := by
  intro k
  induction k with
  | zero => intro f args conts r hr; simp [callE] at hr
  | succ k ih =>
    intro f args conts r hr
    simp only [callE] at hr
    split at hr
    · rename_i p hp; exact hP f p hp args conts r hr
    · split at hr
      case h_2 => cases hr
      rename_i fn hf
      split at hr
      case h_2 => cases hr
      rename_i c hb
      split at hr
      case isFalse => cases hr
      rename_i hq
      obtain ⟨hq, hsmall⟩ := hq
      simp only [Bool.and_eq_true] at hq
      obtain ⟨hok, hname⟩ := hq
      have hT : TysOk P (C.env (callE P C k) fn.ntmps) := hTs
      have hC : CallOk P (C.env (callE P C k) fn.ntmps) := ih
      have hname' : (fn.name == "runtime.NumGoroutine") = false := by simpa using hname
      have hend : ∃ x s, run (C.env (callE P C k) fn.ntmps) C.fuel c ⟨slIn args, obIn conts⟩ = some (x, s) ∧ (x = .normal ∨ x = .ret) ∧ leave (C.env (callE P C k) fn.ntmps) fn.results.toList conts s = some r := by
        split at hr
        · rename_i s hs; exact ⟨_, _, hs, .inl rfl, hr⟩
        · rename_i s hs; exact ⟨_, _, hs, .inr rfl, hr⟩
        · cases hr
      obtain ⟨x, s, hrun, hx, hl⟩ := hend
      have hl0 := hl
      unfold leave at hl
      split at hl
      case h_2 => cases hl
      rename_i l hvs
      split at hl
      case h_2 => cases hl
      rename_i v' bs mv ns hex
      split at hl
      case h_2 => cases hl
      rename_i b hbk
      simp only [Option.some.injEq] at hl
      have hbo := backE_ok conts 0 bs b hbk
      refine ⟨fun w vs => by simp [callFunc, hf, hb, show fn.name ≠ "runtime.NumGoroutine" by simpa using hname'], hsmall, fun j lv t hj => ?_, fun i c hi => by rw [← hl]; exact hbo.2 i c hi, by rw [← hl]; exact hbo.1, fun w A ρ φ Z vs h0 hZA hsz ha => ?_⟩
      · rw [← hl] at hj
        exact expo_full 99 _ _ _ _ _ _ hex (fun lv t h => by simp at h) lv t (List.mem_of_getElem? hj)
      · refine calls_of_wp hf hb (run_sound hT hC (w0 := w) (A := A) (n := fn.ntmps) c hok hrun (ρ := ρ) (φ := φ) (Z := Z) ⟨h0, fun n => ?_, by simp; omega, rfl⟩ fun a1 w1 ρ1 φ1 Z1 hl1 st1 => ?_)
        · simp only [slIn]
          by_cases hn : n < args.length
          · have := ha n args[n] (by simp)
            have e1 : args.getD n .u = args[n] := by simp [hn]
            have e2 : (vs ++ Array.replicate (fn.ntmps - vs.size) undef).getD n undef = vs.getD n undef := by
              have h1 : n < vs.size := by omega
              have h2 : n < (vs ++ Array.replicate (fn.ntmps - vs.size) undef).size := by simp; omega
              simp only [Array.getD, h1, h2, dif_pos]
              rw [Array.getInternal_eq_getElem, Array.getInternal_eq_getElem, Array.getElem_append_left h1]
            rw [e1, e2]; exact this
          · have e1 : args.getD n .u = .u := by simp [List.getElem?_eq_none (Nat.le_of_not_lt hn)]
            rw [e1]; exact .u
        · exact body_end hT hsmall h0 hZA hx hl0 hl1 st1
end Go.Proofs.YtipfcgbhaalcdaaGreat.Abs
namespace Go.Proofs.YtipfcgbhaalcdaaGreat.Abs
open Go
set_option linter.unusedVariables false
set_option linter.unusedSimpArgs false
inductive FlatF (P : Program) : Nat → List Field → Prop where
  | nil {n} : FlatF P n []
  | cons {n f fs k} (hn : (f.name == "_") = false) (ho : f.offset = n) (hu : P.underlying f.type = some (.int k)) (ha : ∀ w, (isAgg f.type).run P w = .ok false w) (r : FlatF P (n + 1) fs) : FlatF P n (f :: fs)
theorem eqf_flat {P : Program} {w : World} {ob : Objs} {ρ : Nat → Value} {xs ys : Array Value} (d : Nat) : ∀ (fs : List Field) (n : Nat) (l l' : List AV) (b : Bool), FlatF P n fs → fs.length = l.length → l.length = l'.length →
    (∀ i a, l[i]? = some a → AVR w ob ρ a (xs.getD (n + i) undef)) → (∀ i a, l'[i]? = some a → AVR w ob ρ a (ys.getD (n + i) undef)) → xs.size = n + l.length → ys.size = n + l'.length → eqCells l l' = some b →
    (Op.eqFields (d + 1) xs ys fs).run P w = .ok b w := by
  intro fs
  induction fs with
  | nil =>
    intro n l l' b _ h1 h2 _ _ _ _ he
    obtain rfl : l = [] := List.length_eq_zero_iff.1 h1.symm
    obtain rfl : l' = [] := List.length_eq_zero_iff.1 h2.symm
    simp only [eqCells, Option.some.injEq] at he
    subst he
    simp [Op.eqFields]
  | cons f fs ih =>
    intro n l l' b hf h1 h2 hx hy sx sy he
    cases l with
    | nil => simp at h1
    | cons p l =>
      cases l' with
      | nil => simp at h2
      | cons q l' =>
        cases hf with
        | cons hn ho hu ha r =>
          have hp := hx 0 p rfl
          have hq := hy 0 q rfl
          simp only [List.length_cons] at sx sy h1 h2
          have ex : ∀ v, xs.getD (n + 0) undef = v → (part f.type xs f.offset).run P w = .ok v w := by
            intro v hv
            have hlt : n < xs.size := by omega
            have : xs[n]? = some v := by
              rw [← hv]
              simp [Array.getD_eq_getD_getElem?, hlt]
            simp only [part, Sem.run_bind, ha, Result.andThen_ok, Bool.false_eq_true, if_false, ho, this, Sem.run_pure]
          have ey : ∀ v, ys.getD (n + 0) undef = v → (part f.type ys f.offset).run P w = .ok v w := by
            intro v hv
            have hlt : n < ys.size := by omega
            have : ys[n]? = some v := by
              rw [← hv]
              simp [Array.getD_eq_getD_getElem?, hlt]
            simp only [part, Sem.run_bind, ha, Result.andThen_ok, Bool.false_eq_true, if_false, ho, this, Sem.run_pure]
          have hrest : ∀ b, eqCells l l' = some b → (Op.eqFields (d + 1) xs ys fs).run P w = .ok b w := fun b hb =>
            ih (n + 1) l l' b r (by omega) (by omega) (fun i a h => by have := hx (i + 1) a h; rwa [show n + (i + 1) = n + 1 + i by omega] at this) (fun i a h => by have := hy (i + 1) a h; rwa [show n + (i + 1) = n + 1 + i by omega] at this) (by omega) (by omega) hb
          have hn' : f.name ≠ "_" := by simpa using hn
          cases p with
          | s x => cases x with
            | int k a => cases q with
              | s y => cases y with
                | int k' a' =>
                  simp only [eqCells] at he
                  split at he
                  · rename_i hk
                    subst hk
                    cases hc : eqCells l l' with
                    | none => simp [hc] at he
                    | some t =>
                      simp only [hc, Option.map_some, Option.some.injEq] at he
                      generalize hv : xs.getD (n + 0) undef = v at hp
                      generalize hv2 : ys.getD (n + 0) undef = v2 at hq
                      cases hp
                      cases hq
                      rw [Op.eqFields]
                      simp only [if_pos hn', Sem.run_bind, ex _ hv, ey _ hv2, Result.andThen_ok, run_equalIn_int w d f.type k _ a a' hu]
                      rw [← he]
                      by_cases e : a = a'
                      · simp [e]; exact hrest t hc
                      · simp [e]
                  · cases he
                | _ => simp [eqCells] at he
              | _ => simp [eqCells] at he
            | _ => simp [eqCells] at he
          | _ => simp [eqCells] at he
theorem eqOk_flat {P : Program} {t : TypeId} {fs : Array Field} {n : Nat} (hg : P.eqGuardType P.depth t = false) (hu : P.underlying t = some (.struct fs)) (hp : P.stoodInHeld t = false) (hf : FlatF P 0 fs.toList) (hn : fs.size = n) : EqOk P t n := by
  intro w x y xs ys l l' b ob ρ h1 h2 hx hy he
  have hF : P.fieldsOf t = fs := by simp [Program.fieldsOf, hu]
  have key : (Op.equalIn 10000 t (.agg xs) (.agg ys)).run P w = .ok b w := by
    cases hx with | ag hl1 hx =>
    cases hy with | ag hl2 hy =>
    rw [show 10000 = 9998 + 1 + 1 from rfl, run_equalIn_struct (P := P) w (9998 + 1) t xs ys (by rw [hF]; exact hu) hp, hF]
    exact eqf_flat 9998 fs.toList 0 l l' b hf (by simp [hn, h1]) (by omega) (by simpa using hx) (by simpa using hy) (by omega) (by omega) he
  constructor
  · simp only [Sem.run_bind, run_eqGuard_agg w .eql t x y xs ys hg, Result.andThen_ok, run_eql_struct, key]
  · simp only [Sem.run_bind, run_eqGuard_agg w .neq t x y xs ys hg, Result.andThen_ok, run_neq_struct, key]
end Go.Proofs.YtipfcgbhaalcdaaGreat.Abs
namespace Go.Proofs.YtipfcgbhaalcdaaGreat.Abs
open Go Go.Proofs
set_option linter.unusedVariables false
inductive ZC : List AV → List Value → Prop where
  | nil : ZC [] []
  | s {x : Value} {l m} (h : scalar x = true) (r : ZC l m) : ZC (.s x :: l) (x :: m)
  | nl {n : Nat} {l m} (r : ZC l m) : ZC (.nl n :: l) (.slice none 0 0 :: m)
theorem ZC.get {l : List AV} {m : List Value} (h : ZC l m) : ∀ k a, l[k]? = some a → (∃ x, a = .s x ∧ scalar x = true ∧ m.getD k undef = x) ∨ (∃ n, a = .nl n ∧ m.getD k undef = .slice none 0 0) := by
  induction h with
  | nil => intro k a h; simp at h
  | s h r ih => intro k a hk; cases k with
    | zero => simp at hk; subst hk; exact .inl ⟨_, rfl, h, rfl⟩
    | succ k => exact ih k a (by simpa using hk)
  | nl r ih => intro k a hk; cases k with
    | zero => simp at hk; subst hk; exact .inr ⟨_, rfl, rfl⟩
    | succ k => exact ih k a (by simpa using hk)
theorem ZC.arr {l : List AV} {m : List Value} {z : Value} (h : ZC l m) (hz : z.cells = m.toArray) : ∀ k a, l[k]? = some a → (∃ x, a = .s x ∧ scalar x = true ∧ z.cells.getD k undef = x) ∨ (∃ n, a = .nl n ∧ z.cells.getD k undef = .slice none 0 0) := by
  rw [hz]
  intro k a hk
  have e : m.toArray.getD k undef = m.getD k undef := by simp [Array.getD_eq_getD_getElem?]
  rw [e]
  exact h.get k a hk

def yi2 : TyI := ⟨[.s (.int .i64 0)], false, 0, [], none, 0, false⟩
set_option maxRecDepth 20000 in
theorem ok2 : TyOk Tryz.prog 2 yi2 where
  info := ⟨_, _, Tryz.type2, rfl, rfl, rfl, ZC.arr (.s rfl .nil) rfl⟩
  agg := Tryz.isAgg2
  offs := fun f q h => by cases h
  elem := fun e h => by cases h
  kind := fun k n h => by cases h; exact Tryz.underlying2
  str := fun s h => by cases h
  bool := fun b h => by cases h
  eqs := fun h => by cases h
  flds := fun h => by cases h

def yi3 : TyI := ⟨[.s (.int .i64 0)], false, 0, [], none, 0, false⟩
set_option maxRecDepth 20000 in
theorem ok3 : TyOk Tryz.prog 3 yi3 where
  info := ⟨_, _, Tryz.type3, rfl, rfl, rfl, ZC.arr (.s rfl .nil) rfl⟩
  agg := Tryz.isAgg3
  offs := fun f q h => by cases h
  elem := fun e h => by cases h
  kind := fun k n h => by cases h; exact Tryz.underlying3
  str := fun s h => by cases h
  bool := fun b h => by cases h
  eqs := fun h => by cases h
  flds := fun h => by cases h

def yi4 : TyI := ⟨[.s (.bool false)], false, 0, [], none, 0, false⟩
set_option maxRecDepth 20000 in
theorem ok4 : TyOk Tryz.prog 4 yi4 where
  info := ⟨_, _, Tryz.type4, rfl, rfl, rfl, ZC.arr (.s rfl .nil) rfl⟩
  agg := Tryz.isAgg4
  offs := fun f q h => by cases h
  elem := fun e h => by cases h
  kind := fun k n h => by cases h
  str := fun s h => by cases h
  bool := fun b h => by cases h; exact Tryz.underlying4
  eqs := fun h => by cases h
  flds := fun h => by cases h

def yi5 : TyI := ⟨[.s (.int .u8 0)], false, 0, [], none, 0, false⟩
set_option maxRecDepth 20000 in
theorem ok5 : TyOk Tryz.prog 5 yi5 where
  info := ⟨_, _, Tryz.type5, rfl, rfl, rfl, ZC.arr (.s rfl .nil) rfl⟩
  agg := Tryz.isAgg5
  offs := fun f q h => by cases h
  elem := fun e h => by cases h
  kind := fun k n h => by cases h; exact Tryz.underlying5
  str := fun s h => by cases h
  bool := fun b h => by cases h
  eqs := fun h => by cases h
  flds := fun h => by cases h

def yi9 : TyI := ⟨[.s (.string .empty)], false, 0, [], none, 0, false⟩
set_option maxRecDepth 20000 in
theorem ok9 : TyOk Tryz.prog 9 yi9 where
  info := ⟨_, _, Tryz.type9, rfl, rfl, rfl, ZC.arr (.s rfl .nil) rfl⟩
  agg := Tryz.isAgg9
  offs := fun f q h => by cases h
  elem := fun e h => by cases h
  kind := fun k n h => by cases h
  str := fun s h => by cases h; exact Tryz.underlying9
  bool := fun b h => by cases h
  eqs := fun h => by cases h
  flds := fun h => by cases h

def yi12 : TyI := ⟨[.s (.int .u64 0)], false, 0, [], none, 0, false⟩
set_option maxRecDepth 20000 in
theorem ok12 : TyOk Tryz.prog 12 yi12 where
  info := ⟨_, _, Tryz.type12, rfl, rfl, rfl, ZC.arr (.s rfl .nil) rfl⟩
  agg := Tryz.isAgg12
  offs := fun f q h => by cases h
  elem := fun e h => by cases h
  kind := fun k n h => by cases h; exact Tryz.underlying12
  str := fun s h => by cases h
  bool := fun b h => by cases h
  eqs := fun h => by cases h
  flds := fun h => by cases h

def yi13 : TyI := ⟨[.s (.string .empty), .s (.int .u64 0)], true, 0, [(0, 1), (1, 1)], none, 0, false⟩
set_option maxRecDepth 20000 in
theorem ok13 : TyOk Tryz.prog 13 yi13 where
  info := ⟨_, _, Tryz.type13, rfl, rfl, rfl, ZC.arr (.s rfl (.s rfl .nil)) rfl⟩
  agg := Tryz.isAgg13
  offs := fun f q h => by
    match f, h with
    | 0, h => cases h; exact ⟨_, _, _, Tryz.underlying13, rfl, rfl, Tryz.type9, rfl, by decide⟩
    | 1, h => cases h; exact ⟨_, _, _, Tryz.underlying13, rfl, rfl, Tryz.type12, rfl, by decide⟩
    | n + 2, h => cases h
  elem := fun e h => by cases h
  kind := fun k n h => by cases h
  str := fun s h => by cases h
  bool := fun b h => by cases h
  eqs := fun h => by cases h
  flds := fun _ => ⟨_, Tryz.underlying13, rfl, fun f fd h => by
    match f, h with
    | 0, h => cases h; exact ⟨_, Tryz.type9, rfl⟩
    | 1, h => cases h; exact ⟨_, Tryz.type12, rfl⟩
    | n + 2, h => cases h⟩

def yi21 : TyI := ⟨[.s (.int .i32 0)], false, 0, [], none, 0, false⟩
set_option maxRecDepth 20000 in
theorem ok21 : TyOk Tryz.prog 21 yi21 where
  info := ⟨_, _, Tryz.type21, rfl, rfl, rfl, ZC.arr (.s rfl .nil) rfl⟩
  agg := Tryz.isAgg21
  offs := fun f q h => by cases h
  elem := fun e h => by cases h
  kind := fun k n h => by cases h; exact Tryz.underlying21
  str := fun s h => by cases h
  bool := fun b h => by cases h
  eqs := fun h => by cases h
  flds := fun h => by cases h

def yi22 : TyI := ⟨[.nl 1], false, 1, [], (some 5), 1, false⟩
set_option maxRecDepth 20000 in
theorem ok22 : TyOk Tryz.prog 22 yi22 where
  info := ⟨_, _, Tryz.type22, rfl, rfl, rfl, ZC.arr (.nl .nil) rfl⟩
  agg := Tryz.isAgg22
  offs := fun f q h => by cases h
  elem := fun e h => by cases h; exact ⟨Tryz.underlying22, _, Tryz.type5, rfl, rfl⟩
  kind := fun k n h => by cases h
  str := fun s h => by cases h
  bool := fun b h => by cases h
  eqs := fun h => by cases h
  flds := fun h => by cases h

def yi24 : TyI := ⟨[.nl 1], false, 24, [], (some 113), 1, false⟩
set_option maxRecDepth 20000 in
theorem ok24 : TyOk Tryz.prog 24 yi24 where
  info := ⟨_, _, Tryz.type24, rfl, rfl, rfl, ZC.arr (.nl .nil) rfl⟩
  agg := Tryz.isAgg24
  offs := fun f q h => by cases h
  elem := fun e h => by cases h; exact ⟨Tryz.underlying24, _, Tryz.type113, rfl, rfl⟩
  kind := fun k n h => by cases h
  str := fun s h => by cases h
  bool := fun b h => by cases h
  eqs := fun h => by cases h
  flds := fun h => by cases h

def yi25 : TyI := ⟨[.nl 4], false, 64, [], (some 175), 4, false⟩
set_option maxRecDepth 20000 in
theorem ok25 : TyOk Tryz.prog 25 yi25 where
  info := ⟨_, _, Tryz.type25, rfl, rfl, rfl, ZC.arr (.nl .nil) rfl⟩
  agg := Tryz.isAgg25
  offs := fun f q h => by cases h
  elem := fun e h => by cases h; exact ⟨Tryz.underlying25, _, Tryz.type175, rfl, rfl⟩
  kind := fun k n h => by cases h
  str := fun s h => by cases h
  bool := fun b h => by cases h
  eqs := fun h => by cases h
  flds := fun h => by cases h

def yi26 : TyI := ⟨[.nl 1], false, 24, [], (some 77), 1, false⟩
set_option maxRecDepth 20000 in
theorem ok26 : TyOk Tryz.prog 26 yi26 where
  info := ⟨_, _, Tryz.type26, rfl, rfl, rfl, ZC.arr (.nl .nil) rfl⟩
  agg := Tryz.isAgg26
  offs := fun f q h => by cases h
  elem := fun e h => by cases h; exact ⟨Tryz.underlying26, _, Tryz.type77, rfl, rfl⟩
  kind := fun k n h => by cases h
  str := fun s h => by cases h
  bool := fun b h => by cases h
  eqs := fun h => by cases h
  flds := fun h => by cases h

def yi27 : TyI := ⟨[.nl 1], false, 24, [], (some 36), 1, false⟩
set_option maxRecDepth 20000 in
theorem ok27 : TyOk Tryz.prog 27 yi27 where
  info := ⟨_, _, Tryz.type27, rfl, rfl, rfl, ZC.arr (.nl .nil) rfl⟩
  agg := Tryz.isAgg27
  offs := fun f q h => by cases h
  elem := fun e h => by cases h; exact ⟨Tryz.underlying27, _, Tryz.type36, rfl, rfl⟩
  kind := fun k n h => by cases h
  str := fun s h => by cases h
  bool := fun b h => by cases h
  eqs := fun h => by cases h
  flds := fun h => by cases h

def yi28 : TyI := ⟨[.nl 1, .nl 4, .nl 1, .nl 1], true, 0, [(0, 1), (1, 1), (2, 1), (3, 1)], none, 0, false⟩
set_option maxRecDepth 20000 in
theorem ok28 : TyOk Tryz.prog 28 yi28 where
  info := ⟨_, _, Tryz.type28, rfl, rfl, rfl, ZC.arr (.nl (.nl (.nl (.nl .nil)))) rfl⟩
  agg := Tryz.isAgg28
  offs := fun f q h => by
    match f, h with
    | 0, h => cases h; exact ⟨_, _, _, Tryz.underlying28, rfl, rfl, Tryz.type24, rfl, by decide⟩
    | 1, h => cases h; exact ⟨_, _, _, Tryz.underlying28, rfl, rfl, Tryz.type25, rfl, by decide⟩
    | 2, h => cases h; exact ⟨_, _, _, Tryz.underlying28, rfl, rfl, Tryz.type26, rfl, by decide⟩
    | 3, h => cases h; exact ⟨_, _, _, Tryz.underlying28, rfl, rfl, Tryz.type27, rfl, by decide⟩
    | n + 4, h => cases h
  elem := fun e h => by cases h
  kind := fun k n h => by cases h
  str := fun s h => by cases h
  bool := fun b h => by cases h
  eqs := fun h => by cases h
  flds := fun _ => ⟨_, Tryz.underlying28, rfl, fun f fd h => by
    match f, h with
    | 0, h => cases h; exact ⟨_, Tryz.type24, rfl⟩
    | 1, h => cases h; exact ⟨_, Tryz.type25, rfl⟩
    | 2, h => cases h; exact ⟨_, Tryz.type26, rfl⟩
    | 3, h => cases h; exact ⟨_, Tryz.type27, rfl⟩
    | n + 4, h => cases h⟩

def yi29 : TyI := ⟨[.nl 1, .nl 4, .nl 1, .nl 1], true, 0, [(0, 1), (1, 1), (2, 1), (3, 1)], none, 0, false⟩
set_option maxRecDepth 20000 in
theorem ok29 : TyOk Tryz.prog 29 yi29 where
  info := ⟨_, _, Tryz.type29, rfl, rfl, rfl, ZC.arr (.nl (.nl (.nl (.nl .nil)))) rfl⟩
  agg := Tryz.isAgg29
  offs := fun f q h => by
    match f, h with
    | 0, h => cases h; exact ⟨_, _, _, Tryz.underlying29, rfl, rfl, Tryz.type24, rfl, by decide⟩
    | 1, h => cases h; exact ⟨_, _, _, Tryz.underlying29, rfl, rfl, Tryz.type25, rfl, by decide⟩
    | 2, h => cases h; exact ⟨_, _, _, Tryz.underlying29, rfl, rfl, Tryz.type26, rfl, by decide⟩
    | 3, h => cases h; exact ⟨_, _, _, Tryz.underlying29, rfl, rfl, Tryz.type27, rfl, by decide⟩
    | n + 4, h => cases h
  elem := fun e h => by cases h
  kind := fun k n h => by cases h
  str := fun s h => by cases h
  bool := fun b h => by cases h
  eqs := fun h => by cases h
  flds := fun _ => ⟨_, Tryz.underlying29, rfl, fun f fd h => by
    match f, h with
    | 0, h => cases h; exact ⟨_, Tryz.type24, rfl⟩
    | 1, h => cases h; exact ⟨_, Tryz.type25, rfl⟩
    | 2, h => cases h; exact ⟨_, Tryz.type26, rfl⟩
    | 3, h => cases h; exact ⟨_, Tryz.type27, rfl⟩
    | n + 4, h => cases h⟩

def yi36 : TyI := ⟨[.nl 3], false, 24, [], (some 85), 3, false⟩
set_option maxRecDepth 20000 in
theorem ok36 : TyOk Tryz.prog 36 yi36 where
  info := ⟨_, _, Tryz.type36, rfl, rfl, rfl, ZC.arr (.nl .nil) rfl⟩
  agg := Tryz.isAgg36
  offs := fun f q h => by cases h
  elem := fun e h => by cases h; exact ⟨Tryz.underlying36, _, Tryz.type85, rfl, rfl⟩
  kind := fun k n h => by cases h
  str := fun s h => by cases h
  bool := fun b h => by cases h
  eqs := fun h => by cases h
  flds := fun h => by cases h

def yi38 : TyI := ⟨[.nl 1], false, 8, [], (some 3), 1, false⟩
set_option maxRecDepth 20000 in
theorem ok38 : TyOk Tryz.prog 38 yi38 where
  info := ⟨_, _, Tryz.type38, rfl, rfl, rfl, ZC.arr (.nl .nil) rfl⟩
  agg := Tryz.isAgg38
  offs := fun f q h => by cases h
  elem := fun e h => by cases h; exact ⟨Tryz.underlying38, _, Tryz.type3, rfl, rfl⟩
  kind := fun k n h => by cases h
  str := fun s h => by cases h
  bool := fun b h => by cases h
  eqs := fun h => by cases h
  flds := fun h => by cases h

def yi39 : TyI := ⟨[.nl 1], false, 1, [], (some 4), 1, false⟩
set_option maxRecDepth 20000 in
theorem ok39 : TyOk Tryz.prog 39 yi39 where
  info := ⟨_, _, Tryz.type39, rfl, rfl, rfl, ZC.arr (.nl .nil) rfl⟩
  agg := Tryz.isAgg39
  offs := fun f q h => by cases h
  elem := fun e h => by cases h; exact ⟨Tryz.underlying39, _, Tryz.type4, rfl, rfl⟩
  kind := fun k n h => by cases h
  str := fun s h => by cases h
  bool := fun b h => by cases h
  eqs := fun h => by cases h
  flds := fun h => by cases h

def yi40 : TyI := ⟨[.nl 1], false, 24, [], (some 38), 1, false⟩
set_option maxRecDepth 20000 in
theorem ok40 : TyOk Tryz.prog 40 yi40 where
  info := ⟨_, _, Tryz.type40, rfl, rfl, rfl, ZC.arr (.nl .nil) rfl⟩
  agg := Tryz.isAgg40
  offs := fun f q h => by cases h
  elem := fun e h => by cases h; exact ⟨Tryz.underlying40, _, Tryz.type38, rfl, rfl⟩
  kind := fun k n h => by cases h
  str := fun s h => by cases h
  bool := fun b h => by cases h
  eqs := fun h => by cases h
  flds := fun h => by cases h

def yi41 : TyI := ⟨[.s (.bool false), .nl 1, .nl 1, .nl 1], true, 0, [(0, 1), (1, 1), (2, 1), (3, 1)], none, 0, false⟩
set_option maxRecDepth 20000 in
theorem ok41 : TyOk Tryz.prog 41 yi41 where
  info := ⟨_, _, Tryz.type41, rfl, rfl, rfl, ZC.arr (.s rfl (.nl (.nl (.nl .nil)))) rfl⟩
  agg := Tryz.isAgg41
  offs := fun f q h => by
    match f, h with
    | 0, h => cases h; exact ⟨_, _, _, Tryz.underlying41, rfl, rfl, Tryz.type4, rfl, by decide⟩
    | 1, h => cases h; exact ⟨_, _, _, Tryz.underlying41, rfl, rfl, Tryz.type38, rfl, by decide⟩
    | 2, h => cases h; exact ⟨_, _, _, Tryz.underlying41, rfl, rfl, Tryz.type39, rfl, by decide⟩
    | 3, h => cases h; exact ⟨_, _, _, Tryz.underlying41, rfl, rfl, Tryz.type40, rfl, by decide⟩
    | n + 4, h => cases h
  elem := fun e h => by cases h
  kind := fun k n h => by cases h
  str := fun s h => by cases h
  bool := fun b h => by cases h
  eqs := fun h => by cases h
  flds := fun _ => ⟨_, Tryz.underlying41, rfl, fun f fd h => by
    match f, h with
    | 0, h => cases h; exact ⟨_, Tryz.type4, rfl⟩
    | 1, h => cases h; exact ⟨_, Tryz.type38, rfl⟩
    | 2, h => cases h; exact ⟨_, Tryz.type39, rfl⟩
    | 3, h => cases h; exact ⟨_, Tryz.type40, rfl⟩
    | n + 4, h => cases h⟩

def yi42 : TyI := ⟨[.s (.bool false), .nl 1, .nl 1, .nl 1], true, 0, [(0, 1), (1, 1), (2, 1), (3, 1)], none, 0, false⟩
set_option maxRecDepth 20000 in
theorem ok42 : TyOk Tryz.prog 42 yi42 where
  info := ⟨_, _, Tryz.type42, rfl, rfl, rfl, ZC.arr (.s rfl (.nl (.nl (.nl .nil)))) rfl⟩
  agg := Tryz.isAgg42
  offs := fun f q h => by
    match f, h with
    | 0, h => cases h; exact ⟨_, _, _, Tryz.underlying42, rfl, rfl, Tryz.type4, rfl, by decide⟩
    | 1, h => cases h; exact ⟨_, _, _, Tryz.underlying42, rfl, rfl, Tryz.type38, rfl, by decide⟩
    | 2, h => cases h; exact ⟨_, _, _, Tryz.underlying42, rfl, rfl, Tryz.type39, rfl, by decide⟩
    | 3, h => cases h; exact ⟨_, _, _, Tryz.underlying42, rfl, rfl, Tryz.type40, rfl, by decide⟩
    | n + 4, h => cases h
  elem := fun e h => by cases h
  kind := fun k n h => by cases h
  str := fun s h => by cases h
  bool := fun b h => by cases h
  eqs := fun h => by cases h
  flds := fun _ => ⟨_, Tryz.underlying42, rfl, fun f fd h => by
    match f, h with
    | 0, h => cases h; exact ⟨_, Tryz.type4, rfl⟩
    | 1, h => cases h; exact ⟨_, Tryz.type38, rfl⟩
    | 2, h => cases h; exact ⟨_, Tryz.type39, rfl⟩
    | 3, h => cases h; exact ⟨_, Tryz.type40, rfl⟩
    | n + 4, h => cases h⟩

def yi43 : TyI := ⟨[.nl 1, .nl 4, .nl 1, .nl 1, .s (.bool false), .nl 1, .nl 1, .nl 1], true, 0, [(0, 4), (4, 4)], none, 0, false⟩
set_option maxRecDepth 20000 in
theorem ok43 : TyOk Tryz.prog 43 yi43 where
  info := ⟨_, _, Tryz.type43, rfl, rfl, rfl, ZC.arr (.nl (.nl (.nl (.nl (.s rfl (.nl (.nl (.nl .nil)))))))) rfl⟩
  agg := Tryz.isAgg43
  offs := fun f q h => by
    match f, h with
    | 0, h => cases h; exact ⟨_, _, _, Tryz.underlying43, rfl, rfl, Tryz.type29, rfl, by decide⟩
    | 1, h => cases h; exact ⟨_, _, _, Tryz.underlying43, rfl, rfl, Tryz.type42, rfl, by decide⟩
    | n + 2, h => cases h
  elem := fun e h => by cases h
  kind := fun k n h => by cases h
  str := fun s h => by cases h
  bool := fun b h => by cases h
  eqs := fun h => by cases h
  flds := fun _ => ⟨_, Tryz.underlying43, rfl, fun f fd h => by
    match f, h with
    | 0, h => cases h; exact ⟨_, Tryz.type29, rfl⟩
    | 1, h => cases h; exact ⟨_, Tryz.type42, rfl⟩
    | n + 2, h => cases h⟩

def yi44 : TyI := ⟨[.nl 1, .nl 4, .nl 1, .nl 1, .s (.bool false), .nl 1, .nl 1, .nl 1], true, 0, [(0, 4), (4, 4)], none, 0, false⟩
set_option maxRecDepth 20000 in
theorem ok44 : TyOk Tryz.prog 44 yi44 where
  info := ⟨_, _, Tryz.type44, rfl, rfl, rfl, ZC.arr (.nl (.nl (.nl (.nl (.s rfl (.nl (.nl (.nl .nil)))))))) rfl⟩
  agg := Tryz.isAgg44
  offs := fun f q h => by
    match f, h with
    | 0, h => cases h; exact ⟨_, _, _, Tryz.underlying44, rfl, rfl, Tryz.type29, rfl, by decide⟩
    | 1, h => cases h; exact ⟨_, _, _, Tryz.underlying44, rfl, rfl, Tryz.type42, rfl, by decide⟩
    | n + 2, h => cases h
  elem := fun e h => by cases h
  kind := fun k n h => by cases h
  str := fun s h => by cases h
  bool := fun b h => by cases h
  eqs := fun h => by cases h
  flds := fun _ => ⟨_, Tryz.underlying44, rfl, fun f fd h => by
    match f, h with
    | 0, h => cases h; exact ⟨_, Tryz.type29, rfl⟩
    | 1, h => cases h; exact ⟨_, Tryz.type42, rfl⟩
    | n + 2, h => cases h⟩

def yi53 : TyI := ⟨[.nl 2], false, 16, [], (some 60), 2, false⟩
set_option maxRecDepth 20000 in
theorem ok53 : TyOk Tryz.prog 53 yi53 where
  info := ⟨_, _, Tryz.type53, rfl, rfl, rfl, ZC.arr (.nl .nil) rfl⟩
  agg := Tryz.isAgg53
  offs := fun f q h => by cases h
  elem := fun e h => by cases h; exact ⟨Tryz.underlying53, _, Tryz.type60, rfl, rfl⟩
  kind := fun k n h => by cases h
  str := fun s h => by cases h
  bool := fun b h => by cases h
  eqs := fun h => by cases h
  flds := fun h => by cases h

def yi59 : TyI := ⟨[.s (.int .i64 0), .s (.int .i64 0)], true, 0, [(0, 1), (1, 1)], none, 0, true⟩
set_option maxRecDepth 20000 in
theorem ok59 : TyOk Tryz.prog 59 yi59 where
  info := ⟨_, _, Tryz.type59, rfl, rfl, rfl, ZC.arr (.s rfl (.s rfl .nil)) rfl⟩
  agg := Tryz.isAgg59
  offs := fun f q h => by
    match f, h with
    | 0, h => cases h; exact ⟨_, _, _, Tryz.underlying59, rfl, rfl, Tryz.type3, rfl, by decide⟩
    | 1, h => cases h; exact ⟨_, _, _, Tryz.underlying59, rfl, rfl, Tryz.type3, rfl, by decide⟩
    | n + 2, h => cases h
  elem := fun e h => by cases h
  kind := fun k n h => by cases h
  str := fun s h => by cases h
  bool := fun b h => by cases h
  eqs := fun _ => eqOk_flat Tryz.eqGuardType59 Tryz.underlying59 (by kernel_rfl) (.cons rfl rfl Tryz.underlying3 Tryz.isAgg3 (.cons rfl rfl Tryz.underlying3 Tryz.isAgg3 .nil)) rfl
  flds := fun _ => ⟨_, Tryz.underlying59, rfl, fun f fd h => by
    match f, h with
    | 0, h => cases h; exact ⟨_, Tryz.type3, rfl⟩
    | 1, h => cases h; exact ⟨_, Tryz.type3, rfl⟩
    | n + 2, h => cases h⟩

def yi60 : TyI := ⟨[.s (.int .i64 0), .s (.int .i64 0)], true, 0, [(0, 1), (1, 1)], none, 0, true⟩
set_option maxRecDepth 20000 in
theorem ok60 : TyOk Tryz.prog 60 yi60 where
  info := ⟨_, _, Tryz.type60, rfl, rfl, rfl, ZC.arr (.s rfl (.s rfl .nil)) rfl⟩
  agg := Tryz.isAgg60
  offs := fun f q h => by
    match f, h with
    | 0, h => cases h; exact ⟨_, _, _, Tryz.underlying60, rfl, rfl, Tryz.type3, rfl, by decide⟩
    | 1, h => cases h; exact ⟨_, _, _, Tryz.underlying60, rfl, rfl, Tryz.type3, rfl, by decide⟩
    | n + 2, h => cases h
  elem := fun e h => by cases h
  kind := fun k n h => by cases h
  str := fun s h => by cases h
  bool := fun b h => by cases h
  eqs := fun _ => eqOk_flat Tryz.eqGuardType60 Tryz.underlying60 (by kernel_rfl) (.cons rfl rfl Tryz.underlying3 Tryz.isAgg3 (.cons rfl rfl Tryz.underlying3 Tryz.isAgg3 .nil)) rfl
  flds := fun _ => ⟨_, Tryz.underlying60, rfl, fun f fd h => by
    match f, h with
    | 0, h => cases h; exact ⟨_, Tryz.type3, rfl⟩
    | 1, h => cases h; exact ⟨_, Tryz.type3, rfl⟩
    | n + 2, h => cases h⟩

def yi61 : TyI := ⟨[.nl 1], false, 24, [], (some 219), 1, false⟩
set_option maxRecDepth 20000 in
theorem ok61 : TyOk Tryz.prog 61 yi61 where
  info := ⟨_, _, Tryz.type61, rfl, rfl, rfl, ZC.arr (.nl .nil) rfl⟩
  agg := Tryz.isAgg61
  offs := fun f q h => by cases h
  elem := fun e h => by cases h; exact ⟨Tryz.underlying61, _, Tryz.type219, rfl, rfl⟩
  kind := fun k n h => by cases h
  str := fun s h => by cases h
  bool := fun b h => by cases h
  eqs := fun h => by cases h
  flds := fun h => by cases h

def yi62 : TyI := ⟨[.nl 4], false, 64, [], (some 221), 4, false⟩
set_option maxRecDepth 20000 in
theorem ok62 : TyOk Tryz.prog 62 yi62 where
  info := ⟨_, _, Tryz.type62, rfl, rfl, rfl, ZC.arr (.nl .nil) rfl⟩
  agg := Tryz.isAgg62
  offs := fun f q h => by cases h
  elem := fun e h => by cases h; exact ⟨Tryz.underlying62, _, Tryz.type221, rfl, rfl⟩
  kind := fun k n h => by cases h
  str := fun s h => by cases h
  bool := fun b h => by cases h
  eqs := fun h => by cases h
  flds := fun h => by cases h

def yi63 : TyI := ⟨[.nl 1], false, 24, [], (some 223), 1, false⟩
set_option maxRecDepth 20000 in
theorem ok63 : TyOk Tryz.prog 63 yi63 where
  info := ⟨_, _, Tryz.type63, rfl, rfl, rfl, ZC.arr (.nl .nil) rfl⟩
  agg := Tryz.isAgg63
  offs := fun f q h => by cases h
  elem := fun e h => by cases h; exact ⟨Tryz.underlying63, _, Tryz.type223, rfl, rfl⟩
  kind := fun k n h => by cases h
  str := fun s h => by cases h
  bool := fun b h => by cases h
  eqs := fun h => by cases h
  flds := fun h => by cases h

def yi64 : TyI := ⟨[.nl 1], false, 24, [], (some 225), 1, false⟩
set_option maxRecDepth 20000 in
theorem ok64 : TyOk Tryz.prog 64 yi64 where
  info := ⟨_, _, Tryz.type64, rfl, rfl, rfl, ZC.arr (.nl .nil) rfl⟩
  agg := Tryz.isAgg64
  offs := fun f q h => by cases h
  elem := fun e h => by cases h; exact ⟨Tryz.underlying64, _, Tryz.type225, rfl, rfl⟩
  kind := fun k n h => by cases h
  str := fun s h => by cases h
  bool := fun b h => by cases h
  eqs := fun h => by cases h
  flds := fun h => by cases h

def yi65 : TyI := ⟨[.nl 1, .nl 4, .nl 1, .nl 1], true, 0, [(0, 1), (1, 1), (2, 1), (3, 1)], none, 0, false⟩
set_option maxRecDepth 20000 in
theorem ok65 : TyOk Tryz.prog 65 yi65 where
  info := ⟨_, _, Tryz.type65, rfl, rfl, rfl, ZC.arr (.nl (.nl (.nl (.nl .nil)))) rfl⟩
  agg := Tryz.isAgg65
  offs := fun f q h => by
    match f, h with
    | 0, h => cases h; exact ⟨_, _, _, Tryz.underlying65, rfl, rfl, Tryz.type61, rfl, by decide⟩
    | 1, h => cases h; exact ⟨_, _, _, Tryz.underlying65, rfl, rfl, Tryz.type62, rfl, by decide⟩
    | 2, h => cases h; exact ⟨_, _, _, Tryz.underlying65, rfl, rfl, Tryz.type63, rfl, by decide⟩
    | 3, h => cases h; exact ⟨_, _, _, Tryz.underlying65, rfl, rfl, Tryz.type64, rfl, by decide⟩
    | n + 4, h => cases h
  elem := fun e h => by cases h
  kind := fun k n h => by cases h
  str := fun s h => by cases h
  bool := fun b h => by cases h
  eqs := fun h => by cases h
  flds := fun _ => ⟨_, Tryz.underlying65, rfl, fun f fd h => by
    match f, h with
    | 0, h => cases h; exact ⟨_, Tryz.type61, rfl⟩
    | 1, h => cases h; exact ⟨_, Tryz.type62, rfl⟩
    | 2, h => cases h; exact ⟨_, Tryz.type63, rfl⟩
    | 3, h => cases h; exact ⟨_, Tryz.type64, rfl⟩
    | n + 4, h => cases h⟩

def yi66 : TyI := ⟨[.nl 1, .nl 4, .nl 1, .nl 1], true, 0, [(0, 1), (1, 1), (2, 1), (3, 1)], none, 0, false⟩
set_option maxRecDepth 20000 in
theorem ok66 : TyOk Tryz.prog 66 yi66 where
  info := ⟨_, _, Tryz.type66, rfl, rfl, rfl, ZC.arr (.nl (.nl (.nl (.nl .nil)))) rfl⟩
  agg := Tryz.isAgg66
  offs := fun f q h => by
    match f, h with
    | 0, h => cases h; exact ⟨_, _, _, Tryz.underlying66, rfl, rfl, Tryz.type61, rfl, by decide⟩
    | 1, h => cases h; exact ⟨_, _, _, Tryz.underlying66, rfl, rfl, Tryz.type62, rfl, by decide⟩
    | 2, h => cases h; exact ⟨_, _, _, Tryz.underlying66, rfl, rfl, Tryz.type63, rfl, by decide⟩
    | 3, h => cases h; exact ⟨_, _, _, Tryz.underlying66, rfl, rfl, Tryz.type64, rfl, by decide⟩
    | n + 4, h => cases h
  elem := fun e h => by cases h
  kind := fun k n h => by cases h
  str := fun s h => by cases h
  bool := fun b h => by cases h
  eqs := fun h => by cases h
  flds := fun _ => ⟨_, Tryz.underlying66, rfl, fun f fd h => by
    match f, h with
    | 0, h => cases h; exact ⟨_, Tryz.type61, rfl⟩
    | 1, h => cases h; exact ⟨_, Tryz.type62, rfl⟩
    | 2, h => cases h; exact ⟨_, Tryz.type63, rfl⟩
    | 3, h => cases h; exact ⟨_, Tryz.type64, rfl⟩
    | n + 4, h => cases h⟩

def yi77 : TyI := ⟨[.nl 2], false, 16, [], (some 80), 2, false⟩
set_option maxRecDepth 20000 in
theorem ok77 : TyOk Tryz.prog 77 yi77 where
  info := ⟨_, _, Tryz.type77, rfl, rfl, rfl, ZC.arr (.nl .nil) rfl⟩
  agg := Tryz.isAgg77
  offs := fun f q h => by cases h
  elem := fun e h => by cases h; exact ⟨Tryz.underlying77, _, Tryz.type80, rfl, rfl⟩
  kind := fun k n h => by cases h
  str := fun s h => by cases h
  bool := fun b h => by cases h
  eqs := fun h => by cases h
  flds := fun h => by cases h

def yi79 : TyI := ⟨[.s (.bool false), .s (.int .i64 0)], true, 0, [(0, 1), (1, 1)], none, 0, false⟩
set_option maxRecDepth 20000 in
theorem ok79 : TyOk Tryz.prog 79 yi79 where
  info := ⟨_, _, Tryz.type79, rfl, rfl, rfl, ZC.arr (.s rfl (.s rfl .nil)) rfl⟩
  agg := Tryz.isAgg79
  offs := fun f q h => by
    match f, h with
    | 0, h => cases h; exact ⟨_, _, _, Tryz.underlying79, rfl, rfl, Tryz.type4, rfl, by decide⟩
    | 1, h => cases h; exact ⟨_, _, _, Tryz.underlying79, rfl, rfl, Tryz.type3, rfl, by decide⟩
    | n + 2, h => cases h
  elem := fun e h => by cases h
  kind := fun k n h => by cases h
  str := fun s h => by cases h
  bool := fun b h => by cases h
  eqs := fun h => by cases h
  flds := fun _ => ⟨_, Tryz.underlying79, rfl, fun f fd h => by
    match f, h with
    | 0, h => cases h; exact ⟨_, Tryz.type4, rfl⟩
    | 1, h => cases h; exact ⟨_, Tryz.type3, rfl⟩
    | n + 2, h => cases h⟩

def yi80 : TyI := ⟨[.s (.bool false), .s (.int .i64 0)], true, 0, [(0, 1), (1, 1)], none, 0, false⟩
set_option maxRecDepth 20000 in
theorem ok80 : TyOk Tryz.prog 80 yi80 where
  info := ⟨_, _, Tryz.type80, rfl, rfl, rfl, ZC.arr (.s rfl (.s rfl .nil)) rfl⟩
  agg := Tryz.isAgg80
  offs := fun f q h => by
    match f, h with
    | 0, h => cases h; exact ⟨_, _, _, Tryz.underlying80, rfl, rfl, Tryz.type4, rfl, by decide⟩
    | 1, h => cases h; exact ⟨_, _, _, Tryz.underlying80, rfl, rfl, Tryz.type3, rfl, by decide⟩
    | n + 2, h => cases h
  elem := fun e h => by cases h
  kind := fun k n h => by cases h
  str := fun s h => by cases h
  bool := fun b h => by cases h
  eqs := fun h => by cases h
  flds := fun _ => ⟨_, Tryz.underlying80, rfl, fun f fd h => by
    match f, h with
    | 0, h => cases h; exact ⟨_, Tryz.type4, rfl⟩
    | 1, h => cases h; exact ⟨_, Tryz.type3, rfl⟩
    | n + 2, h => cases h⟩

def yi84 : TyI := ⟨[.s (.int .i64 0), .s (.int .i64 0), .s (.int .i64 0)], true, 0, [(0, 1), (1, 1), (2, 1)], none, 0, true⟩
set_option maxRecDepth 20000 in
theorem ok84 : TyOk Tryz.prog 84 yi84 where
  info := ⟨_, _, Tryz.type84, rfl, rfl, rfl, ZC.arr (.s rfl (.s rfl (.s rfl .nil))) rfl⟩
  agg := Tryz.isAgg84
  offs := fun f q h => by
    match f, h with
    | 0, h => cases h; exact ⟨_, _, _, Tryz.underlying84, rfl, rfl, Tryz.type3, rfl, by decide⟩
    | 1, h => cases h; exact ⟨_, _, _, Tryz.underlying84, rfl, rfl, Tryz.type3, rfl, by decide⟩
    | 2, h => cases h; exact ⟨_, _, _, Tryz.underlying84, rfl, rfl, Tryz.type3, rfl, by decide⟩
    | n + 3, h => cases h
  elem := fun e h => by cases h
  kind := fun k n h => by cases h
  str := fun s h => by cases h
  bool := fun b h => by cases h
  eqs := fun _ => eqOk_flat Tryz.eqGuardType84 Tryz.underlying84 (by kernel_rfl) (.cons rfl rfl Tryz.underlying3 Tryz.isAgg3 (.cons rfl rfl Tryz.underlying3 Tryz.isAgg3 (.cons rfl rfl Tryz.underlying3 Tryz.isAgg3 .nil))) rfl
  flds := fun _ => ⟨_, Tryz.underlying84, rfl, fun f fd h => by
    match f, h with
    | 0, h => cases h; exact ⟨_, Tryz.type3, rfl⟩
    | 1, h => cases h; exact ⟨_, Tryz.type3, rfl⟩
    | 2, h => cases h; exact ⟨_, Tryz.type3, rfl⟩
    | n + 3, h => cases h⟩

def yi85 : TyI := ⟨[.s (.int .i64 0), .s (.int .i64 0), .s (.int .i64 0)], true, 0, [(0, 1), (1, 1), (2, 1)], none, 0, true⟩
set_option maxRecDepth 20000 in
theorem ok85 : TyOk Tryz.prog 85 yi85 where
  info := ⟨_, _, Tryz.type85, rfl, rfl, rfl, ZC.arr (.s rfl (.s rfl (.s rfl .nil))) rfl⟩
  agg := Tryz.isAgg85
  offs := fun f q h => by
    match f, h with
    | 0, h => cases h; exact ⟨_, _, _, Tryz.underlying85, rfl, rfl, Tryz.type3, rfl, by decide⟩
    | 1, h => cases h; exact ⟨_, _, _, Tryz.underlying85, rfl, rfl, Tryz.type3, rfl, by decide⟩
    | 2, h => cases h; exact ⟨_, _, _, Tryz.underlying85, rfl, rfl, Tryz.type3, rfl, by decide⟩
    | n + 3, h => cases h
  elem := fun e h => by cases h
  kind := fun k n h => by cases h
  str := fun s h => by cases h
  bool := fun b h => by cases h
  eqs := fun _ => eqOk_flat Tryz.eqGuardType85 Tryz.underlying85 (by kernel_rfl) (.cons rfl rfl Tryz.underlying3 Tryz.isAgg3 (.cons rfl rfl Tryz.underlying3 Tryz.isAgg3 (.cons rfl rfl Tryz.underlying3 Tryz.isAgg3 .nil))) rfl
  flds := fun _ => ⟨_, Tryz.underlying85, rfl, fun f fd h => by
    match f, h with
    | 0, h => cases h; exact ⟨_, Tryz.type3, rfl⟩
    | 1, h => cases h; exact ⟨_, Tryz.type3, rfl⟩
    | 2, h => cases h; exact ⟨_, Tryz.type3, rfl⟩
    | n + 3, h => cases h⟩

def yi89 : TyI := ⟨[.nl 2], false, 16, [], (some 182), 2, false⟩
set_option maxRecDepth 20000 in
theorem ok89 : TyOk Tryz.prog 89 yi89 where
  info := ⟨_, _, Tryz.type89, rfl, rfl, rfl, ZC.arr (.nl .nil) rfl⟩
  agg := Tryz.isAgg89
  offs := fun f q h => by cases h
  elem := fun e h => by cases h; exact ⟨Tryz.underlying89, _, Tryz.type182, rfl, rfl⟩
  kind := fun k n h => by cases h
  str := fun s h => by cases h
  bool := fun b h => by cases h
  eqs := fun h => by cases h
  flds := fun h => by cases h

def yi113 : TyI := ⟨[.nl 5], false, 40, [], (some 116), 5, false⟩
set_option maxRecDepth 20000 in
theorem ok113 : TyOk Tryz.prog 113 yi113 where
  info := ⟨_, _, Tryz.type113, rfl, rfl, rfl, ZC.arr (.nl .nil) rfl⟩
  agg := Tryz.isAgg113
  offs := fun f q h => by cases h
  elem := fun e h => by cases h; exact ⟨Tryz.underlying113, _, Tryz.type116, rfl, rfl⟩
  kind := fun k n h => by cases h
  str := fun s h => by cases h
  bool := fun b h => by cases h
  eqs := fun h => by cases h
  flds := fun h => by cases h

def yi115 : TyI := ⟨[.s (.int .i64 0), .s (.int .i64 0), .s (.int .i64 0), .s (.int .i64 0), .s (.int .i64 0)], true, 0, [(0, 1), (1, 1), (2, 1), (3, 1), (4, 1)], none, 0, true⟩
set_option maxRecDepth 20000 in
theorem ok115 : TyOk Tryz.prog 115 yi115 where
  info := ⟨_, _, Tryz.type115, rfl, rfl, rfl, ZC.arr (.s rfl (.s rfl (.s rfl (.s rfl (.s rfl .nil))))) rfl⟩
  agg := Tryz.isAgg115
  offs := fun f q h => by
    match f, h with
    | 0, h => cases h; exact ⟨_, _, _, Tryz.underlying115, rfl, rfl, Tryz.type3, rfl, by decide⟩
    | 1, h => cases h; exact ⟨_, _, _, Tryz.underlying115, rfl, rfl, Tryz.type3, rfl, by decide⟩
    | 2, h => cases h; exact ⟨_, _, _, Tryz.underlying115, rfl, rfl, Tryz.type3, rfl, by decide⟩
    | 3, h => cases h; exact ⟨_, _, _, Tryz.underlying115, rfl, rfl, Tryz.type3, rfl, by decide⟩
    | 4, h => cases h; exact ⟨_, _, _, Tryz.underlying115, rfl, rfl, Tryz.type3, rfl, by decide⟩
    | n + 5, h => cases h
  elem := fun e h => by cases h
  kind := fun k n h => by cases h
  str := fun s h => by cases h
  bool := fun b h => by cases h
  eqs := fun _ => eqOk_flat Tryz.eqGuardType115 Tryz.underlying115 (by kernel_rfl) (.cons rfl rfl Tryz.underlying3 Tryz.isAgg3 (.cons rfl rfl Tryz.underlying3 Tryz.isAgg3 (.cons rfl rfl Tryz.underlying3 Tryz.isAgg3 (.cons rfl rfl Tryz.underlying3 Tryz.isAgg3 (.cons rfl rfl Tryz.underlying3 Tryz.isAgg3 .nil))))) rfl
  flds := fun _ => ⟨_, Tryz.underlying115, rfl, fun f fd h => by
    match f, h with
    | 0, h => cases h; exact ⟨_, Tryz.type3, rfl⟩
    | 1, h => cases h; exact ⟨_, Tryz.type3, rfl⟩
    | 2, h => cases h; exact ⟨_, Tryz.type3, rfl⟩
    | 3, h => cases h; exact ⟨_, Tryz.type3, rfl⟩
    | 4, h => cases h; exact ⟨_, Tryz.type3, rfl⟩
    | n + 5, h => cases h⟩

def yi116 : TyI := ⟨[.s (.int .i64 0), .s (.int .i64 0), .s (.int .i64 0), .s (.int .i64 0), .s (.int .i64 0)], true, 0, [(0, 1), (1, 1), (2, 1), (3, 1), (4, 1)], none, 0, true⟩
set_option maxRecDepth 20000 in
theorem ok116 : TyOk Tryz.prog 116 yi116 where
  info := ⟨_, _, Tryz.type116, rfl, rfl, rfl, ZC.arr (.s rfl (.s rfl (.s rfl (.s rfl (.s rfl .nil))))) rfl⟩
  agg := Tryz.isAgg116
  offs := fun f q h => by
    match f, h with
    | 0, h => cases h; exact ⟨_, _, _, Tryz.underlying116, rfl, rfl, Tryz.type3, rfl, by decide⟩
    | 1, h => cases h; exact ⟨_, _, _, Tryz.underlying116, rfl, rfl, Tryz.type3, rfl, by decide⟩
    | 2, h => cases h; exact ⟨_, _, _, Tryz.underlying116, rfl, rfl, Tryz.type3, rfl, by decide⟩
    | 3, h => cases h; exact ⟨_, _, _, Tryz.underlying116, rfl, rfl, Tryz.type3, rfl, by decide⟩
    | 4, h => cases h; exact ⟨_, _, _, Tryz.underlying116, rfl, rfl, Tryz.type3, rfl, by decide⟩
    | n + 5, h => cases h
  elem := fun e h => by cases h
  kind := fun k n h => by cases h
  str := fun s h => by cases h
  bool := fun b h => by cases h
  eqs := fun _ => eqOk_flat Tryz.eqGuardType116 Tryz.underlying116 (by kernel_rfl) (.cons rfl rfl Tryz.underlying3 Tryz.isAgg3 (.cons rfl rfl Tryz.underlying3 Tryz.isAgg3 (.cons rfl rfl Tryz.underlying3 Tryz.isAgg3 (.cons rfl rfl Tryz.underlying3 Tryz.isAgg3 (.cons rfl rfl Tryz.underlying3 Tryz.isAgg3 .nil))))) rfl
  flds := fun _ => ⟨_, Tryz.underlying116, rfl, fun f fd h => by
    match f, h with
    | 0, h => cases h; exact ⟨_, Tryz.type3, rfl⟩
    | 1, h => cases h; exact ⟨_, Tryz.type3, rfl⟩
    | 2, h => cases h; exact ⟨_, Tryz.type3, rfl⟩
    | 3, h => cases h; exact ⟨_, Tryz.type3, rfl⟩
    | 4, h => cases h; exact ⟨_, Tryz.type3, rfl⟩
    | n + 5, h => cases h⟩

def yi117 : TyI := ⟨[.nl 1], false, 24, [], (some 40), 1, false⟩
set_option maxRecDepth 20000 in
theorem ok117 : TyOk Tryz.prog 117 yi117 where
  info := ⟨_, _, Tryz.type117, rfl, rfl, rfl, ZC.arr (.nl .nil) rfl⟩
  agg := Tryz.isAgg117
  offs := fun f q h => by cases h
  elem := fun e h => by cases h; exact ⟨Tryz.underlying117, _, Tryz.type40, rfl, rfl⟩
  kind := fun k n h => by cases h
  str := fun s h => by cases h
  bool := fun b h => by cases h
  eqs := fun h => by cases h
  flds := fun h => by cases h

def yi121 : TyI := ⟨[.s (.pointer none)], false, 0, [], none, 0, false⟩
set_option maxRecDepth 20000 in
theorem ok121 : TyOk Tryz.prog 121 yi121 where
  info := ⟨_, _, Tryz.type121, rfl, rfl, rfl, ZC.arr (.s rfl .nil) rfl⟩
  agg := Tryz.isAgg121
  offs := fun f q h => by cases h
  elem := fun e h => by cases h
  kind := fun k n h => by cases h
  str := fun s h => by cases h
  bool := fun b h => by cases h
  eqs := fun h => by cases h
  flds := fun h => by cases h

def yi162 : TyI := ⟨[.s (.int .i64 0), .s (.int .i64 0)], true, 0, [(0, 1), (1, 1)], none, 0, true⟩
set_option maxRecDepth 20000 in
theorem ok162 : TyOk Tryz.prog 162 yi162 where
  info := ⟨_, _, Tryz.type162, rfl, rfl, rfl, ZC.arr (.s rfl (.s rfl .nil)) rfl⟩
  agg := Tryz.isAgg162
  offs := fun f q h => by
    match f, h with
    | 0, h => cases h; exact ⟨_, _, _, Tryz.underlying162, rfl, rfl, Tryz.type3, rfl, by decide⟩
    | 1, h => cases h; exact ⟨_, _, _, Tryz.underlying162, rfl, rfl, Tryz.type3, rfl, by decide⟩
    | n + 2, h => cases h
  elem := fun e h => by cases h
  kind := fun k n h => by cases h
  str := fun s h => by cases h
  bool := fun b h => by cases h
  eqs := fun _ => eqOk_flat Tryz.eqGuardType162 Tryz.underlying162 (by kernel_rfl) (.cons rfl rfl Tryz.underlying3 Tryz.isAgg3 (.cons rfl rfl Tryz.underlying3 Tryz.isAgg3 .nil)) rfl
  flds := fun _ => ⟨_, Tryz.underlying162, rfl, fun f fd h => by
    match f, h with
    | 0, h => cases h; exact ⟨_, Tryz.type3, rfl⟩
    | 1, h => cases h; exact ⟨_, Tryz.type3, rfl⟩
    | n + 2, h => cases h⟩

def yi163 : TyI := ⟨[.s (.int .i64 0), .s (.int .i64 0)], true, 0, [(0, 1), (1, 1)], none, 0, true⟩
set_option maxRecDepth 20000 in
theorem ok163 : TyOk Tryz.prog 163 yi163 where
  info := ⟨_, _, Tryz.type163, rfl, rfl, rfl, ZC.arr (.s rfl (.s rfl .nil)) rfl⟩
  agg := Tryz.isAgg163
  offs := fun f q h => by
    match f, h with
    | 0, h => cases h; exact ⟨_, _, _, Tryz.underlying163, rfl, rfl, Tryz.type3, rfl, by decide⟩
    | 1, h => cases h; exact ⟨_, _, _, Tryz.underlying163, rfl, rfl, Tryz.type3, rfl, by decide⟩
    | n + 2, h => cases h
  elem := fun e h => by cases h
  kind := fun k n h => by cases h
  str := fun s h => by cases h
  bool := fun b h => by cases h
  eqs := fun _ => eqOk_flat Tryz.eqGuardType163 Tryz.underlying163 (by kernel_rfl) (.cons rfl rfl Tryz.underlying3 Tryz.isAgg3 (.cons rfl rfl Tryz.underlying3 Tryz.isAgg3 .nil)) rfl
  flds := fun _ => ⟨_, Tryz.underlying163, rfl, fun f fd h => by
    match f, h with
    | 0, h => cases h; exact ⟨_, Tryz.type3, rfl⟩
    | 1, h => cases h; exact ⟨_, Tryz.type3, rfl⟩
    | n + 2, h => cases h⟩

def yi167 : TyI := ⟨[.s (.pointer none)], false, 0, [], none, 0, false⟩
set_option maxRecDepth 20000 in
theorem ok167 : TyOk Tryz.prog 167 yi167 where
  info := ⟨_, _, Tryz.type167, rfl, rfl, rfl, ZC.arr (.s rfl .nil) rfl⟩
  agg := Tryz.isAgg167
  offs := fun f q h => by cases h
  elem := fun e h => by cases h
  kind := fun k n h => by cases h
  str := fun s h => by cases h
  bool := fun b h => by cases h
  eqs := fun h => by cases h
  flds := fun h => by cases h

def yi168 : TyI := ⟨[.nl 1, .s (.int .i64 0), .s (.bool false)], true, 0, [(0, 1), (1, 1), (2, 1)], none, 0, false⟩
set_option maxRecDepth 20000 in
theorem ok168 : TyOk Tryz.prog 168 yi168 where
  info := ⟨_, _, Tryz.type168, rfl, rfl, rfl, ZC.arr (.nl (.s rfl (.s rfl .nil))) rfl⟩
  agg := Tryz.isAgg168
  offs := fun f q h => by
    match f, h with
    | 0, h => cases h; exact ⟨_, _, _, Tryz.underlying168, rfl, rfl, Tryz.type22, rfl, by decide⟩
    | 1, h => cases h; exact ⟨_, _, _, Tryz.underlying168, rfl, rfl, Tryz.type3, rfl, by decide⟩
    | 2, h => cases h; exact ⟨_, _, _, Tryz.underlying168, rfl, rfl, Tryz.type4, rfl, by decide⟩
    | n + 3, h => cases h
  elem := fun e h => by cases h
  kind := fun k n h => by cases h
  str := fun s h => by cases h
  bool := fun b h => by cases h
  eqs := fun h => by cases h
  flds := fun _ => ⟨_, Tryz.underlying168, rfl, fun f fd h => by
    match f, h with
    | 0, h => cases h; exact ⟨_, Tryz.type22, rfl⟩
    | 1, h => cases h; exact ⟨_, Tryz.type3, rfl⟩
    | 2, h => cases h; exact ⟨_, Tryz.type4, rfl⟩
    | n + 3, h => cases h⟩

def yi169 : TyI := ⟨[.nl 1, .s (.int .i64 0), .s (.bool false)], true, 0, [(0, 1), (1, 1), (2, 1)], none, 0, false⟩
set_option maxRecDepth 20000 in
theorem ok169 : TyOk Tryz.prog 169 yi169 where
  info := ⟨_, _, Tryz.type169, rfl, rfl, rfl, ZC.arr (.nl (.s rfl (.s rfl .nil))) rfl⟩
  agg := Tryz.isAgg169
  offs := fun f q h => by
    match f, h with
    | 0, h => cases h; exact ⟨_, _, _, Tryz.underlying169, rfl, rfl, Tryz.type22, rfl, by decide⟩
    | 1, h => cases h; exact ⟨_, _, _, Tryz.underlying169, rfl, rfl, Tryz.type3, rfl, by decide⟩
    | 2, h => cases h; exact ⟨_, _, _, Tryz.underlying169, rfl, rfl, Tryz.type4, rfl, by decide⟩
    | n + 3, h => cases h
  elem := fun e h => by cases h
  kind := fun k n h => by cases h
  str := fun s h => by cases h
  bool := fun b h => by cases h
  eqs := fun h => by cases h
  flds := fun _ => ⟨_, Tryz.underlying169, rfl, fun f fd h => by
    match f, h with
    | 0, h => cases h; exact ⟨_, Tryz.type22, rfl⟩
    | 1, h => cases h; exact ⟨_, Tryz.type3, rfl⟩
    | 2, h => cases h; exact ⟨_, Tryz.type4, rfl⟩
    | n + 3, h => cases h⟩

def yi174 : TyI := ⟨[.s (.int .i64 0), .nl 1, .nl 1, .s (.int .i64 0)], true, 0, [(0, 1), (1, 1), (2, 1), (3, 1)], none, 0, false⟩
set_option maxRecDepth 20000 in
theorem ok174 : TyOk Tryz.prog 174 yi174 where
  info := ⟨_, _, Tryz.type174, rfl, rfl, rfl, ZC.arr (.s rfl (.nl (.nl (.s rfl .nil)))) rfl⟩
  agg := Tryz.isAgg174
  offs := fun f q h => by
    match f, h with
    | 0, h => cases h; exact ⟨_, _, _, Tryz.underlying174, rfl, rfl, Tryz.type3, rfl, by decide⟩
    | 1, h => cases h; exact ⟨_, _, _, Tryz.underlying174, rfl, rfl, Tryz.type38, rfl, by decide⟩
    | 2, h => cases h; exact ⟨_, _, _, Tryz.underlying174, rfl, rfl, Tryz.type38, rfl, by decide⟩
    | 3, h => cases h; exact ⟨_, _, _, Tryz.underlying174, rfl, rfl, Tryz.type3, rfl, by decide⟩
    | n + 4, h => cases h
  elem := fun e h => by cases h
  kind := fun k n h => by cases h
  str := fun s h => by cases h
  bool := fun b h => by cases h
  eqs := fun h => by cases h
  flds := fun _ => ⟨_, Tryz.underlying174, rfl, fun f fd h => by
    match f, h with
    | 0, h => cases h; exact ⟨_, Tryz.type3, rfl⟩
    | 1, h => cases h; exact ⟨_, Tryz.type38, rfl⟩
    | 2, h => cases h; exact ⟨_, Tryz.type38, rfl⟩
    | 3, h => cases h; exact ⟨_, Tryz.type3, rfl⟩
    | n + 4, h => cases h⟩

def yi175 : TyI := ⟨[.s (.int .i64 0), .nl 1, .nl 1, .s (.int .i64 0)], true, 0, [(0, 1), (1, 1), (2, 1), (3, 1)], none, 0, false⟩
set_option maxRecDepth 20000 in
theorem ok175 : TyOk Tryz.prog 175 yi175 where
  info := ⟨_, _, Tryz.type175, rfl, rfl, rfl, ZC.arr (.s rfl (.nl (.nl (.s rfl .nil)))) rfl⟩
  agg := Tryz.isAgg175
  offs := fun f q h => by
    match f, h with
    | 0, h => cases h; exact ⟨_, _, _, Tryz.underlying175, rfl, rfl, Tryz.type3, rfl, by decide⟩
    | 1, h => cases h; exact ⟨_, _, _, Tryz.underlying175, rfl, rfl, Tryz.type38, rfl, by decide⟩
    | 2, h => cases h; exact ⟨_, _, _, Tryz.underlying175, rfl, rfl, Tryz.type38, rfl, by decide⟩
    | 3, h => cases h; exact ⟨_, _, _, Tryz.underlying175, rfl, rfl, Tryz.type3, rfl, by decide⟩
    | n + 4, h => cases h
  elem := fun e h => by cases h
  kind := fun k n h => by cases h
  str := fun s h => by cases h
  bool := fun b h => by cases h
  eqs := fun h => by cases h
  flds := fun _ => ⟨_, Tryz.underlying175, rfl, fun f fd h => by
    match f, h with
    | 0, h => cases h; exact ⟨_, Tryz.type3, rfl⟩
    | 1, h => cases h; exact ⟨_, Tryz.type38, rfl⟩
    | 2, h => cases h; exact ⟨_, Tryz.type38, rfl⟩
    | 3, h => cases h; exact ⟨_, Tryz.type3, rfl⟩
    | n + 4, h => cases h⟩

def yi176 : TyI := ⟨[.s (.pointer none)], false, 0, [], none, 0, false⟩
set_option maxRecDepth 20000 in
theorem ok176 : TyOk Tryz.prog 176 yi176 where
  info := ⟨_, _, Tryz.type176, rfl, rfl, rfl, ZC.arr (.s rfl .nil) rfl⟩
  agg := Tryz.isAgg176
  offs := fun f q h => by cases h
  elem := fun e h => by cases h
  kind := fun k n h => by cases h
  str := fun s h => by cases h
  bool := fun b h => by cases h
  eqs := fun h => by cases h
  flds := fun h => by cases h

def yi177 : TyI := ⟨[.nl 1, .s (.int .i64 0), .s (.bool false)], true, 0, [(0, 1), (1, 1), (2, 1)], none, 0, false⟩
set_option maxRecDepth 20000 in
theorem ok177 : TyOk Tryz.prog 177 yi177 where
  info := ⟨_, _, Tryz.type177, rfl, rfl, rfl, ZC.arr (.nl (.s rfl (.s rfl .nil))) rfl⟩
  agg := Tryz.isAgg177
  offs := fun f q h => by
    match f, h with
    | 0, h => cases h; exact ⟨_, _, _, Tryz.underlying177, rfl, rfl, Tryz.type22, rfl, by decide⟩
    | 1, h => cases h; exact ⟨_, _, _, Tryz.underlying177, rfl, rfl, Tryz.type3, rfl, by decide⟩
    | 2, h => cases h; exact ⟨_, _, _, Tryz.underlying177, rfl, rfl, Tryz.type4, rfl, by decide⟩
    | n + 3, h => cases h
  elem := fun e h => by cases h
  kind := fun k n h => by cases h
  str := fun s h => by cases h
  bool := fun b h => by cases h
  eqs := fun h => by cases h
  flds := fun _ => ⟨_, Tryz.underlying177, rfl, fun f fd h => by
    match f, h with
    | 0, h => cases h; exact ⟨_, Tryz.type22, rfl⟩
    | 1, h => cases h; exact ⟨_, Tryz.type3, rfl⟩
    | 2, h => cases h; exact ⟨_, Tryz.type4, rfl⟩
    | n + 3, h => cases h⟩

def yi178 : TyI := ⟨[.nl 1, .s (.int .i64 0), .s (.bool false)], true, 0, [(0, 1), (1, 1), (2, 1)], none, 0, false⟩
set_option maxRecDepth 20000 in
theorem ok178 : TyOk Tryz.prog 178 yi178 where
  info := ⟨_, _, Tryz.type178, rfl, rfl, rfl, ZC.arr (.nl (.s rfl (.s rfl .nil))) rfl⟩
  agg := Tryz.isAgg178
  offs := fun f q h => by
    match f, h with
    | 0, h => cases h; exact ⟨_, _, _, Tryz.underlying178, rfl, rfl, Tryz.type22, rfl, by decide⟩
    | 1, h => cases h; exact ⟨_, _, _, Tryz.underlying178, rfl, rfl, Tryz.type3, rfl, by decide⟩
    | 2, h => cases h; exact ⟨_, _, _, Tryz.underlying178, rfl, rfl, Tryz.type4, rfl, by decide⟩
    | n + 3, h => cases h
  elem := fun e h => by cases h
  kind := fun k n h => by cases h
  str := fun s h => by cases h
  bool := fun b h => by cases h
  eqs := fun h => by cases h
  flds := fun _ => ⟨_, Tryz.underlying178, rfl, fun f fd h => by
    match f, h with
    | 0, h => cases h; exact ⟨_, Tryz.type22, rfl⟩
    | 1, h => cases h; exact ⟨_, Tryz.type3, rfl⟩
    | 2, h => cases h; exact ⟨_, Tryz.type4, rfl⟩
    | n + 3, h => cases h⟩

def yi182 : TyI := ⟨[.s (.int .i64 0), .s (.int .i64 0)], true, 0, [(0, 1), (1, 1)], none, 0, true⟩
set_option maxRecDepth 20000 in
theorem ok182 : TyOk Tryz.prog 182 yi182 where
  info := ⟨_, _, Tryz.type182, rfl, rfl, rfl, ZC.arr (.s rfl (.s rfl .nil)) rfl⟩
  agg := Tryz.isAgg182
  offs := fun f q h => by
    match f, h with
    | 0, h => cases h; exact ⟨_, _, _, Tryz.underlying182, rfl, rfl, Tryz.type3, rfl, by decide⟩
    | 1, h => cases h; exact ⟨_, _, _, Tryz.underlying182, rfl, rfl, Tryz.type3, rfl, by decide⟩
    | n + 2, h => cases h
  elem := fun e h => by cases h
  kind := fun k n h => by cases h
  str := fun s h => by cases h
  bool := fun b h => by cases h
  eqs := fun _ => eqOk_flat Tryz.eqGuardType182 Tryz.underlying182 (by kernel_rfl) (.cons rfl rfl Tryz.underlying3 Tryz.isAgg3 (.cons rfl rfl Tryz.underlying3 Tryz.isAgg3 .nil)) rfl
  flds := fun _ => ⟨_, Tryz.underlying182, rfl, fun f fd h => by
    match f, h with
    | 0, h => cases h; exact ⟨_, Tryz.type3, rfl⟩
    | 1, h => cases h; exact ⟨_, Tryz.type3, rfl⟩
    | n + 2, h => cases h⟩

def yi210 : TyI := ⟨[.nl 1, .s (.int .i64 0), .s (.int .i64 0)], true, 0, [(0, 1), (1, 1), (2, 1)], none, 0, false⟩
set_option maxRecDepth 20000 in
theorem ok210 : TyOk Tryz.prog 210 yi210 where
  info := ⟨_, _, Tryz.type210, rfl, rfl, rfl, ZC.arr (.nl (.s rfl (.s rfl .nil))) rfl⟩
  agg := Tryz.isAgg210
  offs := fun f q h => by
    match f, h with
    | 0, h => cases h; exact ⟨_, _, _, Tryz.underlying210, rfl, rfl, Tryz.type22, rfl, by decide⟩
    | 1, h => cases h; exact ⟨_, _, _, Tryz.underlying210, rfl, rfl, Tryz.type3, rfl, by decide⟩
    | 2, h => cases h; exact ⟨_, _, _, Tryz.underlying210, rfl, rfl, Tryz.type3, rfl, by decide⟩
    | n + 3, h => cases h
  elem := fun e h => by cases h
  kind := fun k n h => by cases h
  str := fun s h => by cases h
  bool := fun b h => by cases h
  eqs := fun h => by cases h
  flds := fun _ => ⟨_, Tryz.underlying210, rfl, fun f fd h => by
    match f, h with
    | 0, h => cases h; exact ⟨_, Tryz.type22, rfl⟩
    | 1, h => cases h; exact ⟨_, Tryz.type3, rfl⟩
    | 2, h => cases h; exact ⟨_, Tryz.type3, rfl⟩
    | n + 3, h => cases h⟩

def yi211 : TyI := ⟨[.nl 1, .s (.int .i64 0), .s (.int .i64 0)], true, 0, [(0, 1), (1, 1), (2, 1)], none, 0, false⟩
set_option maxRecDepth 20000 in
theorem ok211 : TyOk Tryz.prog 211 yi211 where
  info := ⟨_, _, Tryz.type211, rfl, rfl, rfl, ZC.arr (.nl (.s rfl (.s rfl .nil))) rfl⟩
  agg := Tryz.isAgg211
  offs := fun f q h => by
    match f, h with
    | 0, h => cases h; exact ⟨_, _, _, Tryz.underlying211, rfl, rfl, Tryz.type22, rfl, by decide⟩
    | 1, h => cases h; exact ⟨_, _, _, Tryz.underlying211, rfl, rfl, Tryz.type3, rfl, by decide⟩
    | 2, h => cases h; exact ⟨_, _, _, Tryz.underlying211, rfl, rfl, Tryz.type3, rfl, by decide⟩
    | n + 3, h => cases h
  elem := fun e h => by cases h
  kind := fun k n h => by cases h
  str := fun s h => by cases h
  bool := fun b h => by cases h
  eqs := fun h => by cases h
  flds := fun _ => ⟨_, Tryz.underlying211, rfl, fun f fd h => by
    match f, h with
    | 0, h => cases h; exact ⟨_, Tryz.type22, rfl⟩
    | 1, h => cases h; exact ⟨_, Tryz.type3, rfl⟩
    | 2, h => cases h; exact ⟨_, Tryz.type3, rfl⟩
    | n + 3, h => cases h⟩

def yi219 : TyI := ⟨[.nl 5], false, 40, [], (some 267), 5, false⟩
set_option maxRecDepth 20000 in
theorem ok219 : TyOk Tryz.prog 219 yi219 where
  info := ⟨_, _, Tryz.type219, rfl, rfl, rfl, ZC.arr (.nl .nil) rfl⟩
  agg := Tryz.isAgg219
  offs := fun f q h => by cases h
  elem := fun e h => by cases h; exact ⟨Tryz.underlying219, _, Tryz.type267, rfl, rfl⟩
  kind := fun k n h => by cases h
  str := fun s h => by cases h
  bool := fun b h => by cases h
  eqs := fun h => by cases h
  flds := fun h => by cases h

def yi221 : TyI := ⟨[.s (.int .i64 0), .nl 1, .nl 1, .s (.int .i64 0)], true, 0, [(0, 1), (1, 1), (2, 1), (3, 1)], none, 0, false⟩
set_option maxRecDepth 20000 in
theorem ok221 : TyOk Tryz.prog 221 yi221 where
  info := ⟨_, _, Tryz.type221, rfl, rfl, rfl, ZC.arr (.s rfl (.nl (.nl (.s rfl .nil)))) rfl⟩
  agg := Tryz.isAgg221
  offs := fun f q h => by
    match f, h with
    | 0, h => cases h; exact ⟨_, _, _, Tryz.underlying221, rfl, rfl, Tryz.type3, rfl, by decide⟩
    | 1, h => cases h; exact ⟨_, _, _, Tryz.underlying221, rfl, rfl, Tryz.type38, rfl, by decide⟩
    | 2, h => cases h; exact ⟨_, _, _, Tryz.underlying221, rfl, rfl, Tryz.type38, rfl, by decide⟩
    | 3, h => cases h; exact ⟨_, _, _, Tryz.underlying221, rfl, rfl, Tryz.type3, rfl, by decide⟩
    | n + 4, h => cases h
  elem := fun e h => by cases h
  kind := fun k n h => by cases h
  str := fun s h => by cases h
  bool := fun b h => by cases h
  eqs := fun h => by cases h
  flds := fun _ => ⟨_, Tryz.underlying221, rfl, fun f fd h => by
    match f, h with
    | 0, h => cases h; exact ⟨_, Tryz.type3, rfl⟩
    | 1, h => cases h; exact ⟨_, Tryz.type38, rfl⟩
    | 2, h => cases h; exact ⟨_, Tryz.type38, rfl⟩
    | 3, h => cases h; exact ⟨_, Tryz.type3, rfl⟩
    | n + 4, h => cases h⟩

def yi223 : TyI := ⟨[.nl 2], false, 16, [], (some 269), 2, false⟩
set_option maxRecDepth 20000 in
theorem ok223 : TyOk Tryz.prog 223 yi223 where
  info := ⟨_, _, Tryz.type223, rfl, rfl, rfl, ZC.arr (.nl .nil) rfl⟩
  agg := Tryz.isAgg223
  offs := fun f q h => by cases h
  elem := fun e h => by cases h; exact ⟨Tryz.underlying223, _, Tryz.type269, rfl, rfl⟩
  kind := fun k n h => by cases h
  str := fun s h => by cases h
  bool := fun b h => by cases h
  eqs := fun h => by cases h
  flds := fun h => by cases h

def yi225 : TyI := ⟨[.nl 3], false, 24, [], (some 271), 3, false⟩
set_option maxRecDepth 20000 in
theorem ok225 : TyOk Tryz.prog 225 yi225 where
  info := ⟨_, _, Tryz.type225, rfl, rfl, rfl, ZC.arr (.nl .nil) rfl⟩
  agg := Tryz.isAgg225
  offs := fun f q h => by cases h
  elem := fun e h => by cases h; exact ⟨Tryz.underlying225, _, Tryz.type271, rfl, rfl⟩
  kind := fun k n h => by cases h
  str := fun s h => by cases h
  bool := fun b h => by cases h
  eqs := fun h => by cases h
  flds := fun h => by cases h

def yi234 : TyI := ⟨[.nl 2], false, 16, [], (some 163), 2, false⟩
set_option maxRecDepth 20000 in
theorem ok234 : TyOk Tryz.prog 234 yi234 where
  info := ⟨_, _, Tryz.type234, rfl, rfl, rfl, ZC.arr (.nl .nil) rfl⟩
  agg := Tryz.isAgg234
  offs := fun f q h => by cases h
  elem := fun e h => by cases h; exact ⟨Tryz.underlying234, _, Tryz.type163, rfl, rfl⟩
  kind := fun k n h => by cases h
  str := fun s h => by cases h
  bool := fun b h => by cases h
  eqs := fun h => by cases h
  flds := fun h => by cases h

def yi239 : TyI := ⟨[.s (.pointer none)], false, 0, [], none, 0, false⟩
set_option maxRecDepth 20000 in
theorem ok239 : TyOk Tryz.prog 239 yi239 where
  info := ⟨_, _, Tryz.type239, rfl, rfl, rfl, ZC.arr (.s rfl .nil) rfl⟩
  agg := Tryz.isAgg239
  offs := fun f q h => by cases h
  elem := fun e h => by cases h
  kind := fun k n h => by cases h
  str := fun s h => by cases h
  bool := fun b h => by cases h
  eqs := fun h => by cases h
  flds := fun h => by cases h

def yi250 : TyI := ⟨[.s (.int .u64 0)], false, 0, [], none, 0, false⟩
set_option maxRecDepth 20000 in
theorem ok250 : TyOk Tryz.prog 250 yi250 where
  info := ⟨_, _, Tryz.type250, rfl, rfl, rfl, ZC.arr (.s rfl .nil) rfl⟩
  agg := Tryz.isAgg250
  offs := fun f q h => by cases h
  elem := fun e h => by cases h
  kind := fun k n h => by cases h; exact Tryz.underlying250
  str := fun s h => by cases h
  bool := fun b h => by cases h
  eqs := fun h => by cases h
  flds := fun h => by cases h

def yi267 : TyI := ⟨[.s (.int .i64 0), .s (.int .i64 0), .s (.int .i64 0), .s (.int .i64 0), .s (.int .i64 0)], true, 0, [(0, 1), (1, 1), (2, 1), (3, 1), (4, 1)], none, 0, true⟩
set_option maxRecDepth 20000 in
theorem ok267 : TyOk Tryz.prog 267 yi267 where
  info := ⟨_, _, Tryz.type267, rfl, rfl, rfl, ZC.arr (.s rfl (.s rfl (.s rfl (.s rfl (.s rfl .nil))))) rfl⟩
  agg := Tryz.isAgg267
  offs := fun f q h => by
    match f, h with
    | 0, h => cases h; exact ⟨_, _, _, Tryz.underlying267, rfl, rfl, Tryz.type3, rfl, by decide⟩
    | 1, h => cases h; exact ⟨_, _, _, Tryz.underlying267, rfl, rfl, Tryz.type3, rfl, by decide⟩
    | 2, h => cases h; exact ⟨_, _, _, Tryz.underlying267, rfl, rfl, Tryz.type3, rfl, by decide⟩
    | 3, h => cases h; exact ⟨_, _, _, Tryz.underlying267, rfl, rfl, Tryz.type3, rfl, by decide⟩
    | 4, h => cases h; exact ⟨_, _, _, Tryz.underlying267, rfl, rfl, Tryz.type3, rfl, by decide⟩
    | n + 5, h => cases h
  elem := fun e h => by cases h
  kind := fun k n h => by cases h
  str := fun s h => by cases h
  bool := fun b h => by cases h
  eqs := fun _ => eqOk_flat Tryz.eqGuardType267 Tryz.underlying267 (by kernel_rfl) (.cons rfl rfl Tryz.underlying3 Tryz.isAgg3 (.cons rfl rfl Tryz.underlying3 Tryz.isAgg3 (.cons rfl rfl Tryz.underlying3 Tryz.isAgg3 (.cons rfl rfl Tryz.underlying3 Tryz.isAgg3 (.cons rfl rfl Tryz.underlying3 Tryz.isAgg3 .nil))))) rfl
  flds := fun _ => ⟨_, Tryz.underlying267, rfl, fun f fd h => by
    match f, h with
    | 0, h => cases h; exact ⟨_, Tryz.type3, rfl⟩
    | 1, h => cases h; exact ⟨_, Tryz.type3, rfl⟩
    | 2, h => cases h; exact ⟨_, Tryz.type3, rfl⟩
    | 3, h => cases h; exact ⟨_, Tryz.type3, rfl⟩
    | 4, h => cases h; exact ⟨_, Tryz.type3, rfl⟩
    | n + 5, h => cases h⟩

def yi269 : TyI := ⟨[.s (.bool false), .s (.int .i64 0)], true, 0, [(0, 1), (1, 1)], none, 0, false⟩
set_option maxRecDepth 20000 in
theorem ok269 : TyOk Tryz.prog 269 yi269 where
  info := ⟨_, _, Tryz.type269, rfl, rfl, rfl, ZC.arr (.s rfl (.s rfl .nil)) rfl⟩
  agg := Tryz.isAgg269
  offs := fun f q h => by
    match f, h with
    | 0, h => cases h; exact ⟨_, _, _, Tryz.underlying269, rfl, rfl, Tryz.type4, rfl, by decide⟩
    | 1, h => cases h; exact ⟨_, _, _, Tryz.underlying269, rfl, rfl, Tryz.type3, rfl, by decide⟩
    | n + 2, h => cases h
  elem := fun e h => by cases h
  kind := fun k n h => by cases h
  str := fun s h => by cases h
  bool := fun b h => by cases h
  eqs := fun h => by cases h
  flds := fun _ => ⟨_, Tryz.underlying269, rfl, fun f fd h => by
    match f, h with
    | 0, h => cases h; exact ⟨_, Tryz.type4, rfl⟩
    | 1, h => cases h; exact ⟨_, Tryz.type3, rfl⟩
    | n + 2, h => cases h⟩

def yi271 : TyI := ⟨[.s (.int .i64 0), .s (.int .i64 0), .s (.int .i64 0)], true, 0, [(0, 1), (1, 1), (2, 1)], none, 0, true⟩
set_option maxRecDepth 20000 in
theorem ok271 : TyOk Tryz.prog 271 yi271 where
  info := ⟨_, _, Tryz.type271, rfl, rfl, rfl, ZC.arr (.s rfl (.s rfl (.s rfl .nil))) rfl⟩
  agg := Tryz.isAgg271
  offs := fun f q h => by
    match f, h with
    | 0, h => cases h; exact ⟨_, _, _, Tryz.underlying271, rfl, rfl, Tryz.type3, rfl, by decide⟩
    | 1, h => cases h; exact ⟨_, _, _, Tryz.underlying271, rfl, rfl, Tryz.type3, rfl, by decide⟩
    | 2, h => cases h; exact ⟨_, _, _, Tryz.underlying271, rfl, rfl, Tryz.type3, rfl, by decide⟩
    | n + 3, h => cases h
  elem := fun e h => by cases h
  kind := fun k n h => by cases h
  str := fun s h => by cases h
  bool := fun b h => by cases h
  eqs := fun _ => eqOk_flat Tryz.eqGuardType271 Tryz.underlying271 (by kernel_rfl) (.cons rfl rfl Tryz.underlying3 Tryz.isAgg3 (.cons rfl rfl Tryz.underlying3 Tryz.isAgg3 (.cons rfl rfl Tryz.underlying3 Tryz.isAgg3 .nil))) rfl
  flds := fun _ => ⟨_, Tryz.underlying271, rfl, fun f fd h => by
    match f, h with
    | 0, h => cases h; exact ⟨_, Tryz.type3, rfl⟩
    | 1, h => cases h; exact ⟨_, Tryz.type3, rfl⟩
    | 2, h => cases h; exact ⟨_, Tryz.type3, rfl⟩
    | n + 3, h => cases h⟩

def yi279 : TyI := ⟨[.s (.int .u32 0)], false, 0, [], none, 0, false⟩
set_option maxRecDepth 20000 in
theorem ok279 : TyOk Tryz.prog 279 yi279 where
  info := ⟨_, _, Tryz.type279, rfl, rfl, rfl, ZC.arr (.s rfl .nil) rfl⟩
  agg := Tryz.isAgg279
  offs := fun f q h => by cases h
  elem := fun e h => by cases h
  kind := fun k n h => by cases h; exact Tryz.underlying279
  str := fun s h => by cases h
  bool := fun b h => by cases h
  eqs := fun h => by cases h
  flds := fun h => by cases h

def yi282 : TyI := ⟨[.s (.int .u64 0)], false, 0, [], none, 0, false⟩
set_option maxRecDepth 20000 in
theorem ok282 : TyOk Tryz.prog 282 yi282 where
  info := ⟨_, _, Tryz.type282, rfl, rfl, rfl, ZC.arr (.s rfl .nil) rfl⟩
  agg := Tryz.isAgg282
  offs := fun f q h => by cases h
  elem := fun e h => by cases h
  kind := fun k n h => by cases h; exact Tryz.underlying282
  str := fun s h => by cases h
  bool := fun b h => by cases h
  eqs := fun h => by cases h
  flds := fun h => by cases h

def yi304 : TyI := ⟨[.s (.pointer none)], false, 0, [], none, 0, false⟩
set_option maxRecDepth 20000 in
theorem ok304 : TyOk Tryz.prog 304 yi304 where
  info := ⟨_, _, Tryz.type304, rfl, rfl, rfl, ZC.arr (.s rfl .nil) rfl⟩
  agg := Tryz.isAgg304
  offs := fun f q h => by cases h
  elem := fun e h => by cases h
  kind := fun k n h => by cases h
  str := fun s h => by cases h
  bool := fun b h => by cases h
  eqs := fun h => by cases h
  flds := fun h => by cases h

def tys : TypeId → Option TyI
  | 2 => some yi2
  | 3 => some yi3
  | 4 => some yi4
  | 5 => some yi5
  | 9 => some yi9
  | 12 => some yi12
  | 13 => some yi13
  | 21 => some yi21
  | 22 => some yi22
  | 24 => some yi24
  | 25 => some yi25
  | 26 => some yi26
  | 27 => some yi27
  | 28 => some yi28
  | 29 => some yi29
  | 36 => some yi36
  | 38 => some yi38
  | 39 => some yi39
  | 40 => some yi40
  | 41 => some yi41
  | 42 => some yi42
  | 43 => some yi43
  | 44 => some yi44
  | 53 => some yi53
  | 59 => some yi59
  | 60 => some yi60
  | 61 => some yi61
  | 62 => some yi62
  | 63 => some yi63
  | 64 => some yi64
  | 65 => some yi65
  | 66 => some yi66
  | 77 => some yi77
  | 79 => some yi79
  | 80 => some yi80
  | 84 => some yi84
  | 85 => some yi85
  | 89 => some yi89
  | 113 => some yi113
  | 115 => some yi115
  | 116 => some yi116
  | 117 => some yi117
  | 121 => some yi121
  | 162 => some yi162
  | 163 => some yi163
  | 167 => some yi167
  | 168 => some yi168
  | 169 => some yi169
  | 174 => some yi174
  | 175 => some yi175
  | 176 => some yi176
  | 177 => some yi177
  | 178 => some yi178
  | 182 => some yi182
  | 210 => some yi210
  | 211 => some yi211
  | 219 => some yi219
  | 221 => some yi221
  | 223 => some yi223
  | 225 => some yi225
  | 234 => some yi234
  | 239 => some yi239
  | 250 => some yi250
  | 267 => some yi267
  | 269 => some yi269
  | 271 => some yi271
  | 279 => some yi279
  | 282 => some yi282
  | 304 => some yi304
  | _ => none
theorem tys_ok : ∀ t i, tys t = some i → TyOk Tryz.prog t i := by
  intro t i h
  unfold tys at h
  split at h
  · cases h; exact ok2
  · cases h; exact ok3
  · cases h; exact ok4
  · cases h; exact ok5
  · cases h; exact ok9
  · cases h; exact ok12
  · cases h; exact ok13
  · cases h; exact ok21
  · cases h; exact ok22
  · cases h; exact ok24
  · cases h; exact ok25
  · cases h; exact ok26
  · cases h; exact ok27
  · cases h; exact ok28
  · cases h; exact ok29
  · cases h; exact ok36
  · cases h; exact ok38
  · cases h; exact ok39
  · cases h; exact ok40
  · cases h; exact ok41
  · cases h; exact ok42
  · cases h; exact ok43
  · cases h; exact ok44
  · cases h; exact ok53
  · cases h; exact ok59
  · cases h; exact ok60
  · cases h; exact ok61
  · cases h; exact ok62
  · cases h; exact ok63
  · cases h; exact ok64
  · cases h; exact ok65
  · cases h; exact ok66
  · cases h; exact ok77
  · cases h; exact ok79
  · cases h; exact ok80
  · cases h; exact ok84
  · cases h; exact ok85
  · cases h; exact ok89
  · cases h; exact ok113
  · cases h; exact ok115
  · cases h; exact ok116
  · cases h; exact ok117
  · cases h; exact ok121
  · cases h; exact ok162
  · cases h; exact ok163
  · cases h; exact ok167
  · cases h; exact ok168
  · cases h; exact ok169
  · cases h; exact ok174
  · cases h; exact ok175
  · cases h; exact ok176
  · cases h; exact ok177
  · cases h; exact ok178
  · cases h; exact ok182
  · cases h; exact ok210
  · cases h; exact ok211
  · cases h; exact ok219
  · cases h; exact ok221
  · cases h; exact ok223
  · cases h; exact ok225
  · cases h; exact ok234
  · cases h; exact ok239
  · cases h; exact ok250
  · cases h; exact ok267
  · cases h; exact ok269
  · cases h; exact ok271
  · cases h; exact ok279
  · cases h; exact ok282
  · cases h; exact ok304
  · cases h
end Go.Proofs.YtipfcgbhaalcdaaGreat.Abs
namespace Go.Proofs.YtipfcgbhaalcdaaGreat.Abs
open Go
set_option linter.unusedVariables false
set_option linter.unusedSimpArgs false

def fV (x : Value) (F : Value → Prop) : Prop := match x with
  | .int k n => F (.int k n)
  | .bool b => F (.bool b)
  | .string s => F (.string s)
  | x => F x
def fP : List (Nat × Nat) → (List (Nat × Nat) → Prop) → Prop
  | [], F => F []
  | (i, j) :: p, F => fP p fun p => F ((i, j) :: p)
def fA1 (v : AV) (F : AV → Prop) : Prop := match v with
  | .s x => fV x fun x => F (.s x)
  | .h o b g p sz lo len => fP p fun p => F (.h o b g p sz lo len)
  | .pt o b g p i j => fP p fun p => F (.pt o b g p i j)
  | .ag l => F (.ag l)
  | .tu l => F (.tu l)
  | .fn f c => F (.fn f c)
  | .nl n => F (.nl n)
  | .u => F .u
def fL1 : List AV → (List AV → Prop) → Prop
  | [], F => F []
  | a :: r, F => fA1 a fun a => fL1 r fun r => F (a :: r)
def fA2 (v : AV) (F : AV → Prop) : Prop := match v with
  | .s x => fV x fun x => F (.s x)
  | .h o b g p sz lo len => fP p fun p => F (.h o b g p sz lo len)
  | .pt o b g p i j => fP p fun p => F (.pt o b g p i j)
  | .ag l => fL1 l fun l => F (.ag l)
  | .tu l => F (.tu l)
  | .fn f c => fL1 c fun c => F (.fn f c)
  | .nl n => F (.nl n)
  | .u => F .u
def fL2 : List AV → (List AV → Prop) → Prop
  | [], F => F []
  | a :: r, F => fA2 a fun a => fL2 r fun r => F (a :: r)
def fA (v : AV) (F : AV → Prop) : Prop := match v with
  | .s x => fV x fun x => F (.s x)
  | .h o b g p sz lo len => fP p fun p => F (.h o b g p sz lo len)
  | .pt o b g p i j => fP p fun p => F (.pt o b g p i j)
  | .ag l => fL1 l fun l => F (.ag l)
  | .tu l => fL2 l fun l => F (.tu l)
  | .fn f c => fL1 c fun c => F (.fn f c)
  | .nl n => F (.nl n)
  | .u => F .u
def fT (t : T) (F : T → Prop) : Prop := match t with
  | .v x => fV x fun x => F (.v x)
  | .sl sz rows => F (.sl sz rows)
  | .hole => F .hole
def fLT : List T → (List T → Prop) → Prop
  | [], F => F []
  | t :: r, F => fT t fun t => fLT r fun r => F (t :: r)
def fLLT : List (List T) → (List (List T) → Prop) → Prop
  | [], F => F []
  | t :: r, F => fLT t fun t => fLLT r fun r => F (t :: r)
def fK (n : Nat) (F : Nat → Prop) : Prop := match n with
  | 0 => F 0
  | n + 1 => F (n + 1)
def fLn {α : Type} : List α → Nat → (Nat → Prop) → Prop
  | [], n, F => fK n F
  | _ :: r, n, F => fLn r (n + 1) F
abbrev fLen {α : Type} (l : List α) (F : Nat → Prop) : Prop := fLn l 0 F
def fC (c : Cont) (F : Cont → Prop) : Prop := match c with
  | .dead => F .dead
  | .tree l t => fK l fun l => fT t fun t => F (.tree l t)
  | .box l => fL1 l fun l => F (.box l)
def fOb (x : Ob) (F : Nat → Nat → Bool → Cont → Prop) : Prop := match x with
  | ⟨b, g, d, c⟩ => fC c fun c => F b g d c
def fBi (x : Ob) (F : Nat → Prop) : Prop := match x with
  | ⟨b, _, _, _⟩ => F b
def fS : List (Nat × Ob) → (List (Nat × Ob) → Prop) → Prop
  | [], F => F []
  | (n, ⟨b, g, d, c⟩) :: r, F => fC c fun c => fS r fun r => F ((n, ⟨b, g, d, c⟩) :: r)
def fES : List (Cont × Src) → (List (Cont × Src) → Prop) → Prop
  | [], F => F []
  | (c, s) :: r, F => fC c fun c => (match s with
    | .root o b => fES r fun r => F ((c, .root o b) :: r)
    | .nest o b g p lvl => fES r fun r => F ((c, .nest o b g p lvl) :: r)
    | .ro x => fA1 x fun x => fES r fun r => F ((c, .ro x) :: r)
    | .box o b => fES r fun r => F ((c, .box o b) :: r))
def fLC : List Cont → (List Cont → Prop) → Prop
  | [], F => F []
  | c :: r, F => fC c fun c => fLC r fun r => F (c :: r)
def fBn : Nat → Bool → Prop → Prop
  | 0, true, A => A
  | 0, false, _ => False
  | n + 1, b, A => fBn n b A
def fGn : Nat → Bool → Prop → Prop → Prop
  | 0, true, A, _ => A
  | 0, false, _, B => B
  | n + 1, b, A, B => fGn n b A B
def fOn {α : Type} : Nat → Option α → (α → Prop) → Prop
  | 0, some a, F => F a
  | 0, none, _ => False
  | n + 1, x, F => fOn n x F
@[reducible] def fB (b : Bool) (A : Prop) : Prop := fBn 0 b A
abbrev fG (b : Bool) (A B : Prop) : Prop := fGn 0 b A B
abbrev fO {α : Type} (x : Option α) (F : α → Prop) : Prop := fOn 0 x F
def fE (a b : Nat) (A : Prop) : Prop := fBn 0 (Nat.beq a b) A
def fNil (p : List (Nat × Nat)) (A : Prop) : Prop := match p with | [] => A | _ :: _ => False
def fVer (p : List (Nat × Nat)) (a b : Nat) (A : Prop) : Prop := match p with | [] => A | _ :: _ => fE a b A
structure sR (r : List (List T)) (F : List (List T) → Prop) : Prop where
  h : F r
structure sN (n : Nat) (F : Nat → Prop) : Prop where
  h : F n
structure sW (k : IntKind) (n : Int) (F : Int → Prop) : Prop where
  h : F (k.wrap n)
structure sI (c A : Prop) : Prop where
  c : c
  h : A
structure sCall (x : Option Res) (F : Res → Prop) : Prop where
  h : ∃ r, x = some r ∧ F r
structure sZ (n : Int) (F : Int → Prop) : Prop where
  h : F n
structure sBool (b : Bool) (F : Bool → Prop) : Prop where
  h : F b
structure sOpt {α : Type} (x : Option α) (F : α → Prop) : Prop where
  h : ∃ a, x = some a ∧ F a
theorem sR_eq {r : List (List T)} {F : List (List T) → Prop} : sR r F = F r := propext ⟨fun h => h.h, fun h => ⟨h⟩⟩
theorem sN_eq {r : Nat} {F : Nat → Prop} : sN r F = F r := propext ⟨fun h => h.h, fun h => ⟨h⟩⟩
theorem sW_eq {k : IntKind} {n : Int} {F : Int → Prop} : sW k n F = F (k.wrap n) := propext ⟨fun h => h.h, fun h => ⟨h⟩⟩
theorem sI_eq {c A : Prop} : sI c A = (c ∧ A) := propext ⟨fun h => ⟨h.c, h.h⟩, fun h => ⟨h.1, h.2⟩⟩
theorem sCall_eq {x : Option Res} {F : Res → Prop} : sCall x F = ∃ r, x = some r ∧ F r := propext ⟨fun h => h.h, fun h => ⟨h⟩⟩
theorem sZ_eq {r : Int} {F : Int → Prop} : sZ r F = F r := propext ⟨fun h => h.h, fun h => ⟨h⟩⟩
theorem sBool_eq {r : Bool} {F : Bool → Prop} : sBool r F = F r := propext ⟨fun h => h.h, fun h => ⟨h⟩⟩
theorem sOpt_eq {α : Type} {x : Option α} {F : α → Prop} : sOpt x F = ∃ a, x = some a ∧ F a := propext ⟨fun h => h.h, fun h => ⟨h⟩⟩

theorem fV_eq {x : Value} {F : Value → Prop} : fV x F = F x := by cases x <;> rfl
theorem fP_eq {p : List (Nat × Nat)} {F : List (Nat × Nat) → Prop} : fP p F = F p := by
  induction p generalizing F with
  | nil => rfl
  | cons a p ih => obtain ⟨i, j⟩ := a; simp only [fP, ih]
theorem fA1_eq {v : AV} {F : AV → Prop} : fA1 v F = F v := by cases v <;> simp only [fA1, fV_eq, fP_eq]
theorem fL1_eq {l : List AV} {F : List AV → Prop} : fL1 l F = F l := by
  induction l generalizing F with
  | nil => rfl
  | cons a p ih => simp only [fL1, fA1_eq, ih]
theorem fA2_eq {v : AV} {F : AV → Prop} : fA2 v F = F v := by cases v <;> simp only [fA2, fV_eq, fP_eq, fL1_eq]
theorem fL2_eq {l : List AV} {F : List AV → Prop} : fL2 l F = F l := by
  induction l generalizing F with
  | nil => rfl
  | cons a p ih => simp only [fL2, fA2_eq, ih]
theorem fA_eq {v : AV} {F : AV → Prop} : fA v F = F v := by cases v <;> simp only [fA, fV_eq, fP_eq, fL1_eq, fL2_eq]
theorem fT_eq {t : T} {F : T → Prop} : fT t F = F t := by cases t <;> simp only [fT, fV_eq]
theorem fLT_eq {l : List T} {F : List T → Prop} : fLT l F = F l := by
  induction l generalizing F with
  | nil => rfl
  | cons a p ih => simp only [fLT, fT_eq, ih]
theorem fLLT_eq {l : List (List T)} {F : List (List T) → Prop} : fLLT l F = F l := by
  induction l generalizing F with
  | nil => rfl
  | cons a p ih => simp only [fLLT, fLT_eq, ih]
theorem fK_eq {n : Nat} {F : Nat → Prop} : fK n F = F n := by cases n <;> rfl
theorem fLn_eq {α : Type} {l : List α} {n : Nat} {F : Nat → Prop} : fLn l n F = F (l.length + n) := by
  induction l generalizing n with
  | nil => simp [fLn, fK_eq]
  | cons a l ih => rw [fLn, ih, List.length_cons]; congr 1; omega
theorem fLen_eq {α : Type} {l : List α} {F : Nat → Prop} : fLen l F = F l.length := fLn_eq
theorem fC_eq {c : Cont} {F : Cont → Prop} : fC c F = F c := by cases c <;> simp only [fC, fK_eq, fT_eq, fL1_eq]
theorem fOb_eq {x : Ob} {F : Nat → Nat → Bool → Cont → Prop} : fOb x F = F x.birth x.sver x.dirty x.c := by cases x; simp only [fOb, fC_eq]
theorem fBi_eq {x : Ob} {F : Nat → Prop} : fBi x F = F x.birth := by cases x; rfl
theorem fS_eq {l : List (Nat × Ob)} {F : List (Nat × Ob) → Prop} : fS l F = F l := by
  induction l generalizing F with
  | nil => rfl
  | cons a p ih => obtain ⟨n, b, g, d, c⟩ := a; simp only [fS, fC_eq, ih]
theorem fES_eq {l : List (Cont × Src)} {F : List (Cont × Src) → Prop} : fES l F = F l := by
  induction l generalizing F with
  | nil => rfl
  | cons a p ih => obtain ⟨c, s⟩ := a; cases s <;> simp only [fES, fC_eq, fA1_eq, ih]
theorem fLC_eq {l : List Cont} {F : List Cont → Prop} : fLC l F = F l := by
  induction l generalizing F with
  | nil => rfl
  | cons a p ih => simp only [fLC, fC_eq, ih]
theorem fB_eq {b : Bool} {A : Prop} : fB b A = (b = true ∧ A) := by cases b <;> simp [fB, fBn]
theorem fG_eq {b : Bool} {A B : Prop} : fG b A B = if b = true then A else B := by cases b <;> simp [fG, fGn]
theorem fO_eq {α : Type} {x : Option α} {F : α → Prop} : fO x F = ∃ a, x = some a ∧ F a := by cases x <;> simp [fO, fOn]
theorem fE_eq {a b : Nat} {A : Prop} : fE a b A = (a = b ∧ A) := by
  simp only [fE]
  cases h : Nat.beq a b with
  | true => have := Nat.eq_of_beq_eq_true h; simp [this, fBn]
  | false => have := Nat.ne_of_beq_eq_false h; simp [this, fBn]
theorem fNil_eq {p : List (Nat × Nat)} {A : Prop} : fNil p A = (p = [] ∧ A) := by cases p <;> simp [fNil]
theorem fVer_eq {p : List (Nat × Nat)} {a b : Nat} {A : Prop} : fVer p a b A = ((p = [] ∨ a = b) ∧ A) := by cases p <;> simp [fVer, fE_eq]

def wAt0 : T → List (Nat × Nat) → (Nat → List (List T) → Prop) → Prop
  | t, [], F => (match t with | .sl sz rows => F sz rows | _ => False)
  | t, (i, j) :: p, F => (match t with | .sl _ rows => fO rows[i]? fun r => fO r[j]? fun t => wAt0 t p F | _ => False)
theorem wAt0_ok {t : T} {p : List (Nat × Nat)} {F : Nat → List (List T) → Prop} (h : wAt0 t p F) : ∃ sz rows, t.at? p = some (.sl sz rows) ∧ F sz rows := by
  induction p generalizing t with
  | nil => cases t with
    | sl sz rows => exact ⟨_, _, rfl, h⟩
    | v x => exact h.elim
    | hole => exact h.elim
  | cons a p ih =>
    obtain ⟨i, j⟩ := a
    cases t with
    | sl sz rows =>
      simp only [wAt0, fO_eq] at h
      obtain ⟨r, hr, t1, ht, h⟩ := h
      obtain ⟨sz', rows', h1, h2⟩ := ih h
      exact ⟨_, _, by simp only [T.at?, hr, ht]; exact h1, h2⟩
    | v x => exact h.elim
    | hole => exact h.elim
def wAt (t : T) (p : List (Nat × Nat)) (F : Nat → List (List T) → Prop) : Prop :=
  List.rec (motive := fun _ => T → Prop) (fun t => match t with | .sl sz rows => F sz rows | _ => False)
    (fun a _ ih t => match a, t with | (i, j), .sl _ rows => fO rows[i]? fun r => fO r[j]? fun t => ih t | _, _ => False) p t
theorem wAt_eq {t : T} {p : List (Nat × Nat)} {F : Nat → List (List T) → Prop} : wAt t p F = wAt0 t p F := by
  unfold wAt
  induction p generalizing t with
  | nil => cases t <;> rfl
  | cons a p ih =>
    obtain ⟨i, j⟩ := a
    cases t with
    | sl sz rows => simp only [wAt0]; congr 1; funext r; congr 1; funext t; exact ih
    | v x => rfl
    | hole => rfl
theorem wAt_ok {t : T} {p : List (Nat × Nat)} {F : Nat → List (List T) → Prop} (h : wAt t p F) : ∃ sz rows, t.at? p = some (.sl sz rows) ∧ F sz rows := wAt0_ok (by rw [← wAt_eq]; exact h)
def wPut0 : T → List (Nat × Nat) → T → (T → Prop) → Prop
  | _, [], x, F => F x
  | t, (i, j) :: p, x, F => (match t with
    | .sl sz rows => fO rows[i]? fun r => fO r[j]? fun t1 => wPut0 t1 p x fun t2 => fLT (r.set j t2) fun r => sR (rows.set i r) fun rows => F (.sl sz rows)
    | _ => False)
theorem modify_set {α : Type} {l : List α} {i : Nat} {a : α} {f : α → α} (h : l[i]? = some a) : l.modify i f = l.set i (f a) := by
  apply List.ext_getElem?
  intro n
  rw [List.getElem?_modify, List.getElem?_set]
  by_cases e : i = n
  · subst e
    obtain ⟨hl, h⟩ := List.getElem?_eq_some_iff.1 h
    simp [hl, h]
  · simp [e]
theorem wPut0_ok {t x : T} {p : List (Nat × Nat)} {F : T → Prop} (h : wPut0 t p x F) : F (t.put p x) := by
  induction p generalizing t F with
  | nil => exact h
  | cons a p ih =>
    obtain ⟨i, j⟩ := a
    cases t with
    | sl sz rows =>
      simp only [wPut0, fO_eq, fLT_eq, sR_eq] at h
      obtain ⟨r, hr, t1, ht, h⟩ := h
      have := ih h
      simp only [T.put]
      rw [modify_set hr, modify_set ht]
      exact this
    | v x => exact h.elim
    | hole => exact h.elim
def wPut (t : T) (p : List (Nat × Nat)) (x : T) (F : T → Prop) : Prop :=
  List.rec (motive := fun _ => T → (T → Prop) → Prop) (fun _ F => F x)
    (fun a _ ih t F => match a, t with
      | (i, j), .sl sz rows => fO rows[i]? fun r => fO r[j]? fun t1 => ih t1 fun t2 => fLT (r.set j t2) fun r => sR (rows.set i r) fun rows => F (.sl sz rows)
      | _, _ => False) p t F
theorem wPut_eq {t x : T} {p : List (Nat × Nat)} {F : T → Prop} : wPut t p x F = wPut0 t p x F := by
  unfold wPut
  induction p generalizing t F with
  | nil => cases t <;> rfl
  | cons a p ih =>
    obtain ⟨i, j⟩ := a
    cases t with
    | sl sz rows => simp only [wPut0]; congr 1; funext r; congr 1; funext t; exact ih
    | v x => rfl
    | hole => rfl
theorem wPut_ok {t x : T} {p : List (Nat × Nat)} {F : T → Prop} (h : wPut t p x F) : F (t.put p x) := wPut0_ok (by rw [← wPut_eq]; exact h)
def wLook (ob : Objs) (o b g : Nat) (p : List (Nat × Nat)) (k : Nat → Nat → Bool → Nat → T → Nat → List (List T) → Prop) : Prop :=
  fOb (ob o) fun b' g' d c => match c with
    | .tree lvl t => fE b' b (fVer p g' g (wAt t p fun sz rows => k b' g' d lvl t sz rows))
    | _ => False
theorem wLook_ok {α : Type} {ob : Objs} {o b g : Nat} {p : List (Nat × Nat)} {k : Nat → Nat → Bool → Nat → T → Nat → List (List T) → Prop} {k' : Ob → Nat → T → Nat → List (List T) → Rd α} {K : α → Prop}
    (h : wLook ob o b g p k) (hk : ∀ b' g' d lvl t sz rows, k b' g' d lvl t sz rows → ∃ a, (k' ⟨b', g', d, .tree lvl t⟩ lvl t sz rows).run ob = some a ∧ K a) : ∃ a, (look o b g p k').run ob = some a ∧ K a := by
  unfold wLook at h
  rw [fOb_eq] at h
  simp only [look, Rd.run]
  generalize ob o = x at h ⊢
  obtain ⟨b', g', d, c⟩ := x
  cases c with
  | dead => exact h.elim
  | box l => exact h.elim
  | tree lvl t =>
    simp only [fE_eq, fVer_eq] at h
    obtain ⟨hb, hv, h⟩ := h
    obtain ⟨sz, rows, h1, h2⟩ := wAt_ok h
    simp only [hb, hv, and_self, if_true, h1]
    rw [← hb]
    exact hk _ _ _ _ _ _ _ h2

abbrev KO := AV → List (Nat × Ob) → Prop
def wMk (d : Nat) (ob : Objs) (c : Cont) (k : Nat → AV) (ss : List (Nat × Ob)) (K : KO) : Prop :=
  fBi (ob d) fun b => fC c fun c => fA (k (b + 1)) fun v => fS (ss ++ [(d, ⟨b + 1, 0, false, c⟩)]) fun ss => K v ss
def wGrab0 (ob : Objs) : List AV → List Nat → (List T → Nat → List (Nat × Ob) → Prop) → Prop
  | [], _, k => k [] 8 []
  | .s x :: r, mv, k => wGrab0 ob r mv fun ts l ss => k (.v x :: ts) l ss
  | .nl sz :: r, mv, k => wGrab0 ob r mv fun ts l ss => k (.sl sz [] :: ts) l ss
  | .h o b g p _ lo len :: r, mv, k => wLook ob o b g p fun b' g' _ lvl _ sz rows => fB (!mv.elem o) (sR ((rows.drop lo).take len) fun sub =>
      fK (lvl - p.length) fun q => match q with
        | 0 => wGrab0 ob r mv fun ts l ss => k (.sl sz sub :: ts) 0 ss
        | _ + 1 => fNil p (wGrab0 ob r (o :: mv) fun ts l ss => k (.sl sz sub :: ts) (min lvl l) ((o, ⟨b', g', true, .dead⟩) :: ss)))
  | _ :: _, _, _ => False
theorem wGrab0_ok {α : Type} {ob : Objs} {K : α → Prop} : ∀ (l : List AV) (mv : List Nat) (k : List T → Nat → List (Nat × Ob) → Prop) (k' : List T → Nat → List (Nat × Ob) → Rd α), wGrab0 ob l mv k → (∀ ts n ss, ts.length = l.length → k ts n ss → ∃ a, (k' ts n ss).run ob = some a ∧ K a) →
    ∃ a, (grab l mv k').run ob = some a ∧ K a := by
  intro l
  induction l with
  | nil => intro mv k k' h hk; exact hk _ _ _ rfl h
  | cons x l ih =>
    intro mv k k' h hk
    cases x with
    | s x => exact ih mv _ _ h fun ts n ss hl h => hk _ _ _ (by simp [hl]) h
    | nl x => exact ih mv _ _ h fun ts n ss hl h => hk _ _ _ (by simp [hl]) h
    | h o b g p sz lo len =>
      refine wLook_ok (k' := fun ob lvl t sz' rows => _) h fun b' g' d lvl t sz' rows h => ?_
      simp only [fB_eq, fK_eq, sR_eq, Bool.not_eq_true'] at h
      obtain ⟨hm, h⟩ := h
      have hm' : ¬ o ∈ mv := by
        intro hh
        have := List.elem_eq_true_of_mem hh
        rw [this] at hm; cases hm
      simp only [hm', if_false]
      cases hq : lvl - p.length with
      | zero =>
        simp only [hq] at h
        simp only [if_true]
        exact ih mv _ _ h fun ts n ss hl h => hk _ _ _ (by simp [hl]) h
      | succ q =>
        simp only [hq, fNil_eq] at h
        obtain ⟨hp, h⟩ := h
        simp only [hp, if_true, Nat.succ_ne_zero, if_false]
        exact ih _ _ _ h fun ts n ss hl h => hk _ _ _ (by simp [hl]) h
    | pt o b g p i j => exact h.elim
    | ag l => exact h.elim
    | tu l => exact h.elim
    | fn f c => exact h.elim
    | u => exact h.elim
def wGrab (ob : Objs) (l : List AV) (mv : List Nat) (k : List T → Nat → List (Nat × Ob) → Prop) : Prop :=
  List.rec (motive := fun _ => List Nat → (List T → Nat → List (Nat × Ob) → Prop) → Prop) (fun _ k => k [] 8 [])
    (fun x _ ih mv k => match x with
      | .s x => ih mv fun ts l ss => k (.v x :: ts) l ss
      | .nl sz => ih mv fun ts l ss => k (.sl sz [] :: ts) l ss
      | .h o b g p _ lo len => wLook ob o b g p fun b' g' _ lvl _ sz rows => fB (!mv.elem o) (sR ((rows.drop lo).take len) fun sub =>
          fK (lvl - p.length) fun q => match q with
            | 0 => ih mv fun ts l ss => k (.sl sz sub :: ts) 0 ss
            | _ + 1 => fNil p (ih (o :: mv) fun ts l ss => k (.sl sz sub :: ts) (min lvl l) ((o, ⟨b', g', true, .dead⟩) :: ss)))
      | _ => False) l mv k
theorem wGrab_eq {ob : Objs} {l : List AV} {mv : List Nat} {k : List T → Nat → List (Nat × Ob) → Prop} : wGrab ob l mv k = wGrab0 ob l mv k := by
  unfold wGrab
  induction l generalizing mv k with
  | nil => rfl
  | cons x l ih =>
    cases x with
    | s x => exact ih
    | nl x => exact ih
    | h o b g p sz lo len =>
      simp only [wGrab0]
      congr 1; funext b' g' d lvl t sz rows; congr 1; congr 1; funext sub; congr 1; funext q
      cases q with
      | zero => exact ih
      | succ q => simp only; congr 1; exact ih
    | pt o b g p i j => rfl
    | ag l => rfl
    | tu l => rfl
    | fn f c => rfl
    | u => rfl
theorem wGrab_ok {α : Type} {ob : Objs} {K : α → Prop} (l : List AV) (mv : List Nat) (k : List T → Nat → List (Nat × Ob) → Prop) (k' : List T → Nat → List (Nat × Ob) → Rd α) (h : wGrab ob l mv k) (hk : ∀ ts n ss, ts.length = l.length → k ts n ss → ∃ a, (k' ts n ss).run ob = some a ∧ K a) :
    ∃ a, (grab l mv k').run ob = some a ∧ K a := wGrab0_ok l mv k k' (by rw [← wGrab_eq]; exact h) hk
def wTail (ob : Objs) (x : AV) (k : List (List T) → Nat → List (Nat × Ob) → Prop) : Prop := match x with
  | .nl _ => k [] 8 []
  | .h o b g p _ lo len => wLook ob o b g p fun b' g' _ lvl _ _ rows => sR ((rows.drop lo).take len) fun sub =>
      fG (flat sub) (k sub 8 []) (fNil p (fB (Nat.blt 0 lvl && solid sub) (k sub (lvl - 1) [(o, ⟨b', g', true, .dead⟩)])))
  | _ => False
theorem wTail_ok {α : Type} {ob : Objs} {K : α → Prop} {x : AV} {k : List (List T) → Nat → List (Nat × Ob) → Prop} {k' : List (List T) → Nat → List (Nat × Ob) → Rd α} (h : wTail ob x k)
    (hk : ∀ ts n ss, k ts n ss → ∃ a, (k' ts n ss).run ob = some a ∧ K a) : ∃ a, (exTail x k').run ob = some a ∧ K a := by
  cases x with
  | nl n => exact hk _ _ _ h
  | h o b g p sz lo len =>
    refine wLook_ok (k' := fun ob lvl t sz rows => _) h fun b' g' d lvl t sz' rows h => ?_
    simp only [sR_eq, fG_eq, fNil_eq, fB_eq] at h
    by_cases hf : flat ((rows.drop lo).take len) = true
    · simp only [hf, if_true] at h ⊢; exact hk _ _ _ h
    · simp only [hf] at h ⊢
      obtain ⟨hp, hc, h⟩ := h
      simp only [Bool.and_eq_true, Nat.blt_eq] at hc
      simp only [hp, hc.1, hc.2, and_self, if_true, Bool.false_eq_true, if_false]
      exact hk _ _ _ h
  | s x => exact h.elim
  | pt o b g p i j => exact h.elim
  | ag l => exact h.elim
  | tu l => exact h.elim
  | fn f c => exact h.elim
  | u => exact h.elim
def wApp (ob : Objs) (d bytes sz : Nat) (s x : AV) (K : KO) : Prop := wTail ob x fun tail lv ss => fB (Nat.blt 0 sz) (fB (wide sz tail) (match s with
  | .nl _ => sI (tail.length * bytes ≤ 140737488355328 ∧ tail.length ≤ 140737488355328) (sN tail.length fun n => wMk d ob (.tree (lv + 1) (.sl sz tail)) (fun b => .h d b 0 [] sz 0 n) ss K)
  | .h o b g p _ lo len => wLook ob o b g p fun b' g' _ lvl t sz' rows => fB (Nat.blt p.length lvl && Nat.beq sz' sz && (notOb o x || ss.isEmpty))
      (sI ((len + tail.length) * bytes ≤ 140737488355328 ∧ len + tail.length ≤ 140737488355328) (sR ((rows.drop lo).take len) fun sub => sR (sub ++ tail) fun rows' => sI (len + tail.length = rows'.length) (sN rows'.length fun n =>
        match p with
        | [] => wMk d ob (.tree (min lvl (lv + 1)) (.sl sz rows')) (fun b => .h d b 0 [] sz 0 n) (ss ++ [(o, ⟨b', g' + 1, true, .dead⟩)]) K
        | a :: p => wPut t (a :: p) .hole fun t' => wMk d ob (.tree (min (lvl - (a :: p).length) (lv + 1)) (.sl sz rows')) (fun b => .h d b 0 [] sz 0 n) (ss ++ [(o, ⟨b', g' + 1, true, .tree lvl t'⟩)]) K)))
  | _ => False))
def Is (m : Rd Out) (ob : Objs) (K : KO) : Prop := ∃ a, m.run ob = some a ∧ K a.v a.sets
theorem wMk_ok {d : Nat} {ob : Objs} {c : Cont} {k : Nat → AV} {ss : List (Nat × Ob)} {K : KO} (h : wMk d ob c k ss K) : Is (mk d c k ss) ob K := by
  unfold wMk at h
  simp only [fBi_eq, fC_eq, fA_eq, fS_eq] at h
  exact ⟨_, rfl, h⟩
theorem wApp_ok {E : Env} {ob : Objs} {d sz : Nat} {ti : TyI} {s x : AV} {K : KO} (h : wApp ob d ti.bytes sz s x K) : Is (exAppend E d ti sz s x) ob K := by
  refine wTail_ok (K := fun a : Out => K a.v a.sets) (k' := fun tail lv ss => _) h fun tail lv ss h => ?_
  simp only [fB_eq, Nat.blt_eq] at h
  obtain ⟨hw0, hw, h⟩ := h
  simp only [hw0, hw, and_self, if_true]
  cases s with
  | nl n =>
    obtain ⟨hl, h⟩ := h
    have hl : lim tail.length ti.bytes = true := by simp only [lim, decide_eq_true_eq]; exact hl
    simp only [hl, if_true]
    rw [sN_eq] at h
    exact wMk_ok h
  | h o b g p sz0 lo len =>
    refine wLook_ok (K := fun a : Out => K a.v a.sets) (k' := fun ob lvl t sz rows => _) h fun b' g' d lvl t sz' rows h => ?_
    simp only [fB_eq, Bool.and_eq_true, Nat.blt_eq, Bool.or_eq_true] at h
    obtain ⟨⟨⟨h1, h2⟩, h3⟩, hl, h⟩ := h
    have h2 := Nat.eq_of_beq_eq_true h2
    have hl : lim (len + tail.length) ti.bytes = true := by simp only [lim, decide_eq_true_eq]; exact hl
    simp only [h1, h2, h3, hl, and_self, if_true]
    simp only [sN_eq, sR_eq, sI_eq] at h
    obtain ⟨hlen, h⟩ := h
    rw [hlen]
    cases p with
    | nil => exact wMk_ok h
    | cons a p => exact wMk_ok (wPut_ok h)
  | s x => exact h.elim
  | pt o b g p i j => exact h.elim
  | ag l => exact h.elim
  | tu l => exact h.elim
  | fn f c => exact h.elim
  | u => exact h.elim
def wLoad (ob : Objs) (ti : TyI) (a : AV) (K : AV → Prop) : Prop := match a with
  | .pt o b g p i j => fOb (ob o) fun b' g' _ c => match c with
    | .box cells => fE b' b (fNil p (match ti.agg with
      | true => fB (Nat.ble (j + ti.cells.length) cells.length) (fL1 ((cells.drop j).take ti.cells.length) fun l => K (.ag l))
      | false => fO cells[j]? fun x => fA x K))
    | .tree _ t => fE b' b (fVer p g' g (wAt t p fun _ rows => fO rows[i]? fun r => fLT r fun r => match ti.agg with
      | true => fB (Nat.ble (j + ti.cells.length) r.length) (fL1 (((r.drop j).take ti.cells.length).zipIdx.map fun (t, k) => avOf o b g' p i (j + k) t) fun l => K (.ag l))
      | false => fO r[j]? fun t => fA (avOf o b g' p i j t) K))
    | .dead => False
  | _ => False
theorem wLoad_ok {E : Env} {ob : Objs} {ti : TyI} {a : AV} {K : AV → Prop} (h : wLoad ob ti a K) : Is (exLoad E ti a) ob fun v ss => ss = [] ∧ K v := by
  cases a with
  | pt o b g p i j =>
    simp only [wLoad, fOb_eq] at h
    simp only [Is, exLoad, Rd.run]
    generalize ob o = x at h ⊢
    obtain ⟨b', g', d, c⟩ := x
    cases c with
    | dead => exact h.elim
    | box cells =>
      simp only [fE_eq, fNil_eq] at h
      obtain ⟨hb, hp, h⟩ := h
      simp only [hb, hp, and_self, if_true]
      cases ha : ti.agg with
      | true =>
        simp only [ha, fB_eq, Nat.ble_eq, fL1_eq] at h
        simp only [h.1, if_true]
        exact ⟨_, rfl, rfl, h.2⟩
      | false =>
        simp only [ha, fO_eq, fA_eq] at h
        obtain ⟨x, hx, h⟩ := h
        simp only [Bool.false_eq_true, if_false, hx]
        exact ⟨_, rfl, rfl, h⟩
    | tree lvl t =>
      simp only [fE_eq, fVer_eq] at h
      obtain ⟨hb, hp, h⟩ := h
      obtain ⟨sz, rows, h1, h⟩ := wAt_ok h
      simp only [fO_eq, fLT_eq] at h
      obtain ⟨r, hr, h⟩ := h
      simp only [hb, hp, and_self, if_true, h1, hr]
      cases ha : ti.agg with
      | true =>
        simp only [ha, fB_eq, Nat.ble_eq, fL1_eq] at h
        simp only [h.1, if_true]
        exact ⟨_, rfl, rfl, h.2⟩
      | false =>
        simp only [ha, fO_eq, fA_eq] at h
        obtain ⟨x, hx, h⟩ := h
        simp only [Bool.false_eq_true, if_false, hx]
        exact ⟨_, rfl, rfl, h⟩
  | s x => exact h.elim
  | h o b g p sz lo len => exact h.elim
  | nl n => exact h.elim
  | ag l => exact h.elim
  | tu l => exact h.elim
  | fn f c => exact h.elim
  | u => exact h.elim
def wStore (ob : Objs) (n : Nat) (a v : AV) (K : KO) : Prop := match a with
  | .pt o b g p i j => fOb (ob o) fun b' g' _ c => match c with
    | .box cells => fE b' b (fNil p (fO v.cells? fun l => fB (Nat.ble (j + l.length) cells.length && Nat.beq l.length n && l.all okCell) (fL1 (putList cells j l) fun cells => K .u [(o, ⟨b', g', true, .box cells⟩)])))
    | .tree lvl t => fE b' b (fVer p g' g (fB (Nat.blt p.length lvl) (wAt t p fun sz rows => fO rows[i]? fun r => fO v.cells? fun l => fB (Nat.beq l.length n) (wGrab ob l [o] fun ts lv ss =>
        fB (Nat.ble (j + ts.length) r.length && Nat.ble lvl (p.length + 1 + lv)) (fLT (putList r j ts) fun r => sR (rows.set i r) fun rows => wPut t p (.sl sz rows) fun t =>
          fS (ss ++ [(o, ⟨b', g' + 1, true, .tree lvl t⟩)]) fun ss => K .u ss)))))
    | .dead => False
  | _ => False
theorem wStore_ok {ob : Objs} {n : Nat} {a v : AV} {K : KO} (h : wStore ob n a v K) : Is (exStore n a v) ob K := by
  cases a with
  | pt o b g p i j =>
    simp only [wStore, fOb_eq] at h
    simp only [Is, exStore, Rd.run]
    generalize hx : ob o = x at h ⊢
    obtain ⟨b', g', d, c⟩ := x
    cases c with
    | dead => exact h.elim
    | box cells =>
      simp only [fE_eq, fNil_eq, fO_eq, fB_eq, fL1_eq, Bool.and_eq_true, Nat.ble_eq] at h
      obtain ⟨hb, hp, l, hl, ⟨⟨h1, h2⟩, h3⟩, h⟩ := h
      have h2 := Nat.eq_of_beq_eq_true h2
      subst h2
      simp only [hl, hb, hp, h1, h3, and_self, if_true]
      subst hb
      exact ⟨_, rfl, h⟩
    | tree lvl t =>
      simp only [fE_eq, fVer_eq, fB_eq, Nat.blt_eq] at h
      obtain ⟨hb, hp, hl, h⟩ := h
      obtain ⟨sz, rows, h1, h⟩ := wAt_ok h
      simp only [fO_eq, fB_eq] at h
      obtain ⟨r, hr, l, hv, hn, h⟩ := h
      have hn := Nat.eq_of_beq_eq_true hn
      simp only [hb, hp, hl, and_self, if_true, h1, hr, hv]
      refine wGrab_ok (K := fun a : Out => K a.v a.sets) (k' := fun ts lv ss => _) _ _ _ h fun ts lv ss _ h => ?_
      simp only [fB_eq, fLT_eq, sR_eq, fS_eq, Bool.and_eq_true, Nat.ble_eq] at h
      obtain ⟨⟨h2, h3⟩, h⟩ := h
      simp only [h2, h3, hn, and_self, if_true]
      subst hb
      exact ⟨_, rfl, wPut_ok h⟩
  | s x => exact h.elim
  | h o b g p sz lo len => exact h.elim
  | nl n => exact h.elim
  | ag l => exact h.elim
  | tu l => exact h.elim
  | fn f c => exact h.elim
  | u => exact h.elim
def wRecut (ob : Objs) (a v : AV) (K : KO) : Prop := match a, v with
  | .pt o b g p i j, .h _ b' g' _ _ lo len => sI (b' = b) (wLook ob o b g p fun b0 g0 _ lvl t sz rows => fB (Nat.blt (p.length + 1) lvl) (fE g0 g' (fO rows[i]? fun r => fO r[j]? fun q => match q with
        | .sl sz2 rows2 => sR ((rows2.drop lo).take len) fun sub => fLT (putList r j [.sl sz2 sub]) fun r => sR (rows.set i r) fun rows => wPut t p (.sl sz rows) fun t => K .u [(o, ⟨b0, g0 + 1, true, .tree lvl t⟩)]
        | _ => False)))
  | _, _ => False
theorem wRecut_ok {ob : Objs} {a v : AV} {K : KO} (hr : isRecut a v = true) (h : wRecut ob a v K) : Is (exRecut a v) ob K := by
  cases a with
  | pt o b g p i j => cases v with
    | h o' b' g' p' sz' lo len =>
      simp only [isRecut, decide_eq_true_eq] at hr
      simp only [wRecut, sI_eq] at h
      obtain ⟨hb, h⟩ := h
      simp only [exRecut, hr, hb, and_self, if_true]
      refine wLook_ok (K := fun a : Out => K a.v a.sets) h fun b0 g0 d lvl t sz rows h9 => ?_
      simp only [fB_eq, Nat.blt_eq, fE_eq, fO_eq] at h9
      obtain ⟨h1, h2, r, hr, q, hq, h9⟩ := h9
      simp only [recutK, h1, h2, and_self, if_true, hr, hq]
      cases q with
      | sl sz2 rows2 =>
        simp only [sR_eq, fLT_eq] at h9
        refine ⟨_, rfl, ?_⟩
        rw [← h2]
        exact wPut_ok h9
      | v x => exact h9.elim
      | hole => exact h9.elim
    | s x => exact h.elim
    | pt o b g p i j => exact h.elim
    | nl n => exact h.elim
    | ag l => exact h.elim
    | tu l => exact h.elim
    | fn f c => exact h.elim
    | u => exact h.elim
  | _ => exact h.elim
end Go.Proofs.YtipfcgbhaalcdaaGreat.Abs
namespace Go.Proofs.YtipfcgbhaalcdaaGreat.Abs
open Go
set_option linter.unusedVariables false
set_option linter.unusedSimpArgs false
def wFill (place : Nat → Option (Nat × Nat)) : List (Nat × AV) → List AV → (List AV → Prop) → Prop
  | [], cells, K => K cells
  | (i, a) :: r, cells, K => match place i, a.cells? with
    | some (o, n), some l => fB (Nat.beq l.length n && Nat.ble (o + n) cells.length) (fL1 (putList cells o l) fun c => wFill place r c K)
    | _, _ => False
theorem wFill_eq {place : Nat → Option (Nat × Nat)} : ∀ {parts : List (Nat × AV)} {cells : List AV} {K : List AV → Prop}, wFill place parts cells K → ∃ l, fillAt place cells parts = some l ∧ K l
  | [], cells, K, h => ⟨cells, rfl, h⟩
  | (i, a) :: r, cells, K, h => by
    unfold wFill at h
    split at h
    · rename_i o n l h1 h2
      simp only [fB_eq, fL1_eq, Bool.and_eq_true, Nat.ble_eq] at h
      obtain ⟨h3, h4⟩ := h
      obtain ⟨l', h5, h6⟩ := wFill_eq h4
      exact ⟨l', by rw [fillAt, h1, h2]; simp only [Nat.eq_of_beq_eq_true h3.1, h3.2, and_self, if_true]; exact h5, h6⟩
    · exact h.elim
section
variable (ty : TypeId → Option TyI) (call : FuncId → List AV → List Cont → Option Res) (md : FuncId → List Bool)
def wT (sl : Slots) (t : TypeId) (x : Operand) : AV := match ev sl x with
  | .nl n => (match ty t with
    | some i => .nl i.esz
    | none => .nl n)
  | a => a
def wBin (op : BinOp) (t : TypeId) (x y : AV) (K : AV → Prop) : Prop := match x, y with
  | .s (.int k a), .s (.int k' b) => (match op with
    | .shl => sI (0 ≤ b) (sW k (a * 2 ^ min b.toNat k.bits) fun n => K (.s (.int k n)))
    | .shr => sI (0 ≤ b) (sZ (a.fdiv (2 ^ min b.toNat k.bits)) fun n => K (.s (.int k n)))
    | .add => fB (decide (k = k')) (sW k (a + b) fun n => K (.s (.int k n)))
    | .sub => fB (decide (k = k')) (sW k (a - b) fun n => K (.s (.int k n)))
    | .mul => fB (decide (k = k')) (sW k (a * b) fun n => K (.s (.int k n)))
    | .quo => fB (decide (k = k')) (sI (b ≠ 0) (sZ (a.tdiv b) fun n => sW k n fun n => K (.s (.int k n))))
    | .rem => fB (decide (k = k')) (sI (b ≠ 0) (sZ (a.tmod b) fun n => K (.s (.int k n))))
    | .and => fB (decide (k = k')) (sZ (Go.bits .and k a b) fun n => K (.s (.int k n)))
    | .or => fB (decide (k = k')) (sZ (Go.bits .or k a b) fun n => K (.s (.int k n)))
    | .xor => fB (decide (k = k')) (sZ (Go.bits .xor k a b) fun n => K (.s (.int k n)))
    | .eql => fB (decide (k = k')) (K (.s (.bool (decide (a = b)))))
    | .neq => fB (decide (k = k')) (K (.s (.bool (!decide (a = b)))))
    | .lss => fB (decide (k = k')) (K (.s (.bool (decide (a < b)))))
    | .leq => fB (decide (k = k')) (K (.s (.bool (decide (a ≤ b)))))
    | .gtr => fB (decide (k = k')) (K (.s (.bool (decide (b < a)))))
    | .geq => fB (decide (k = k')) (K (.s (.bool (decide (b ≤ a)))))
    | _ => False)
  | .ag l, .ag l' => fB ((ty t).any (fun i => i.eqs && (Nat.beq l.length i.cells.length && Nat.beq l'.length i.cells.length))) (match op with
    | .eql => fO (eqCells l l') fun b => K (.s (.bool b))
    | .neq => fO (eqCells l l') fun b => K (.s (.bool (!b)))
    | _ => False)
  | .s (.bool a), .s (.bool b) => fB ((ty t).any isBool) (match op with
    | .eql => K (.s (.bool (a == b)))
    | .neq => K (.s (.bool (!(a == b))))
    | _ => False)
  | .s (.string a), .s (.string b) => (match op with
    | .add => sI (a.size + b.size ≤ 4611686018427387904) (K (.s (.string (a ++ b))))
    | .eql => sBool (a.toList == b.toList) fun b => K (.s (.bool b))
    | .neq => sBool (a.toList == b.toList) fun b => K (.s (.bool (!b)))
    | _ => False)
  | _, _ => False
def wConv (d : Nat) (ob : Objs) (ti ts : TyI) (bt bs : Bool) (v : AV) (K : KO) : Prop := match v with
  | .s (.int _ n) => fO (kindOf ti.cells) fun k => fB (kindOf ts.cells).isSome (sW k n fun n => K (.s (.int k n)) [])
  | .s (.string s) => fB (bt && isStr ts) (sI (s.size ≤ 140737488355328) (sR (bytesT s) fun rows => sN s.size fun n => wMk d ob (.tree 9 (.sl 1 rows)) (fun b => .h d b 0 [] 1 0 n) [] K))
  | .nl _ => fB (bs && isStr ti) (K (.s (.string .empty)) [])
  | .h o b g p _ lo len => fB (bs && isStr ti) (wLook ob o b g p fun _ _ _ _ _ sz' rows => sR ((rows.drop lo).take len) fun sub => sOpt (nums sub) fun l => fB (Nat.beq sz' 1) (K (.s (.string (strOfNums l))) []))
  | _ => False
def wZeros (ob : Objs) (d : Nat) (tn : Option TyI) (cells : List AV) (by_ : Nat) (s x : AV) (K : KO) : Prop := match tn, cells, s, x with
  | some tn, [.s z], .nl _, .s (.int .i64 n) => fB (decide (kindOf tn.cells = some .i64)) (sI ((0 < n ∧ n ≤ 140737488355328) ∧ n * by_ ≤ 140737488355328) (sR (List.replicate n.toNat [T.v z]) fun rows => sN n.toNat fun m => wMk d ob (.tree 9 (.sl 1 rows)) (fun b => .h d b 0 [] 1 0 m) [] K))
  | _, _, _, _ => False
def wSlice (ti : TyI) (x : AV) (lo hi : Option AV) (K : AV → Prop) : Prop := match x, lo, hi with
  | .h o b g p sz l n, some (.s (.int _ a)), none => fB (ti.elem.isSome && Nat.beq ti.esz sz) (sI (0 ≤ a ∧ a ≤ n) (sN (l + a.toNat) fun l => sN (n - a.toNat) fun n => K (.h o b g p sz l n)))
  | .h o b g p sz l n, none, some (.s (.int _ c)) => fB (ti.elem.isSome && Nat.beq ti.esz sz) (sI (0 ≤ c ∧ c ≤ n) (sN c.toNat fun n => K (.h o b g p sz l n)))
  | .h o b g p sz l n, some (.s (.int _ a)), some (.s (.int _ c)) => fB (ti.elem.isSome && Nat.beq ti.esz sz) (sI (0 ≤ a ∧ a ≤ c ∧ c ≤ n) (sN (l + a.toNat) fun l => sN (c.toNat - a.toNat) fun n => K (.h o b g p sz l n)))
  | .nl q, none, some (.s (.int _ c)) => fB (ti.elem.isSome && Nat.beq ti.esz q) (sI (c = 0) (K (.nl q)))
  | .s (.string s), some (.s (.int _ a)), none => fB (isStr ti) (sI (0 ≤ a ∧ a ≤ s.size) (K (.s (.string (s.extract a.toNat s.size)))))
  | .s (.string s), none, some (.s (.int _ c)) => fB (isStr ti) (sI (0 ≤ c ∧ c ≤ s.size) (K (.s (.string (s.extract 0 c.toNat)))))
  | .s (.string s), some (.s (.int _ a)), some (.s (.int _ c)) => fB (isStr ti) (sI (0 ≤ a ∧ a ≤ c ∧ c ≤ s.size) (K (.s (.string (s.extract a.toNat c.toNat)))))
  | _, _, _ => False
def fOA (x : Option AV) (F : Option AV → Prop) : Prop := match x with
  | some a => fA a fun a => F (some a)
  | none => F none
def wArgs (sl : Slots) (xs : List Operand) (ts : List TypeId) (F : List AV → Prop) : Prop :=
  List.rec (motive := fun _ => List TypeId → (List AV → Prop) → Prop) (fun _ F => F [])
    (fun x _ ih ts F => match ts with
      | t :: ts => fA (wT ty sl t x) fun a => ih ts fun l => F (a :: l)
      | [] => F []) xs ts F

def srcOf (o b g : Nat) (p : List (Nat × Nat)) (lvl : Nat) : Src := match p with | [] => .root o b | a :: p => .nest o b g (a :: p) lvl
def wImp (md : List Bool) (ob : Objs) (n : Nat) (l : List AV) (es : List (Cont × Src)) (k : List AV → List (Cont × Src) → Prop) : Prop :=
  Nat.rec (motive := fun _ => List AV → List (Cont × Src) → (List AV → List (Cont × Src) → Prop) → Prop)
    (fun l es k => match l with | [] => k [] es | _ :: _ => False)
    (fun _ ih l es k => match l with
      | [] => k [] es
      | x :: r => match x with
        | .s x => ih r es fun l es => k (.s x :: l) es
        | .nl sz => cond (md.getD 90 false) (ih r es fun l es => k (.nl sz :: l) es)
          (fLen es fun m => fES (es ++ [(.tree (if md.getD m false then 9 else 0) (.sl sz []), .ro (.nl sz))]) fun es2 => ih r es2 fun l es' => fK (1000000 + m) fun i => k (.h i 0 0 [] sz 0 0 :: l) es')
        | .u => ih r es fun l es => k (.u :: l) es
        | .ag c => ih c es fun c es => ih r es fun l es => k (.ag c :: l) es
        | .fn f c => ih c es fun c es => ih r es fun l es => k (.fn f c :: l) es
        | .h o b g p sz lo len => wLook ob o b g p fun _ _ _ lvl _ sz' rows => fLen es fun q => (match md.getD q false with
          | true => fB (Nat.beq lo 0 && Nat.blt p.length lvl) (sI (len = rows.length)
              (fES (es ++ [(.tree (lvl - p.length) (.sl sz' rows), srcOf o b g p lvl)]) fun es2 => ih r es2 fun l es' => fK (1000000 + q) fun i => k (.h i 0 0 [] sz' 0 len :: l) es'))
          | false => sR ((rows.drop lo).take len) fun sub => sN sub.length fun m => fES (es ++ [(.tree 0 (.sl sz' sub), .ro (.h o b g p sz lo len))]) fun es2 => ih r es2 fun l es' => fK (1000000 + q) fun i => k (.h i 0 0 [] sz' 0 m :: l) es')
        | .pt o b _ p i j => (match p, i, j with
          | [], 0, 0 => fOb (ob o) fun b' _ _ c => (match c with
            | .box cells => fE b' b (ih cells es fun cells es' => fLen es' fun q => fES (es' ++ [(.box cells, .box o b)]) fun es2 => ih r es2 fun l es'' => fK (1000000 + q) fun i => k (.pt i 0 0 [] 0 0 :: l) es'')
            | _ => False)
          | _, _, _ => False)
        | .tu _ => False) n l es k
def wNew (ob : Objs) (d n : Nat) (r : List Cont) (k : List AV → Prop) : Prop :=
  List.rec (motive := fun _ => Nat → (List AV → Prop) → Prop) (fun _ k => k [])
    (fun c _ ih n k => match c with
      | .tree _ _ => fK (d + 10000 * (n + 1)) fun i => fBi (ob i) fun b => ih (n + 1) fun vs => k (.h i (b + 1) 0 [] 0 0 0 :: vs)
      | .box _ => fK (d + 10000 * (n + 1)) fun i => fBi (ob i) fun b => ih (n + 1) fun vs => k (.pt i (b + 1) 0 [] 0 0 :: vs)
      | .dead => False) r n k
def wBacks (ob : Objs) : List (Option Cont) → List (Cont × Src) → (List (Nat × Ob) → Prop) → Prop
  | [], [], k => k []
  | none :: r, _ :: es, k => wBacks ob r es k
  | some _ :: r, (_, .ro (.nl _)) :: es, k => wBacks ob r es k
  | some .dead :: r, (_, .root o _) :: es, k => fOb (ob o) fun b g _ _ => wBacks ob r es fun ss => k ((o, ⟨b, g + 1, true, .dead⟩) :: ss)
  | some (.tree l t) :: r, (_, .root o _) :: es, k => fOb (ob o) fun b g _ _ => wBacks ob r es fun ss => k ((o, ⟨b, g + 1, true, .tree l t⟩) :: ss)
  | some (.box cells) :: r, (_, .box o _) :: es, k => fOb (ob o) fun b g _ _ => wBacks ob r es fun ss => k ((o, ⟨b, g, true, .box (cells.map fun _ => .u)⟩) :: ss)
  | some (.tree l' t') :: r, (_, .nest o _ _ p _) :: es, k => fOb (ob o) fun b g _ c => match c with
    | .tree l t => fB (Nat.beq (l' + p.length) l) (wPut t p t' fun t => wBacks ob r es fun ss => k ((o, ⟨b, g + 1, true, .tree l t⟩) :: ss))
    | _ => False
  | _, _, _ => False
def wBoxes (ob : Objs) (nid : Nat → AV) (src : List (Cont × Src)) : List (Option Cont) → List (Cont × Src) → (List (Nat × Ob) → Prop) → Prop
  | some (.box cells) :: r, (_, .box o _) :: es, k => fOb (ob o) fun b g _ _ => wBoxes ob nid src r es fun ss => k ((o, ⟨b, g, true, .box (cells.map (expV nid src 9))⟩) :: ss)
  | _ :: r, _ :: es, k => wBoxes ob nid src r es k
  | _, _, k => k []
def wRest (ob : Objs) (d : Nat) (es : List (Cont × Src)) (r : Res) (K : KO) : Prop := match r with
  | ⟨v, ns, bk⟩ => wNew ob d 0 ns fun vs => wBacks ob bk es fun bs => wBoxes ob (fun i => vs.getD i .u) es bk es fun xs =>
      fB (freeOk vs es) (fA (expV (fun i => vs.getD i .u) es 9 v) fun v => fS (bs ++ (newObs vs ns ++ (newBoxes (fun i => vs.getD i .u) es vs ns ++ xs))) fun ss => K v ss)
def wCall9 (ob : Objs) (d : Nat) (f : FuncId) (args : List AV) (K : KO) : Prop :=
  wImp (md f) ob 99 args [] fun l es => fB (srcsOk (es.map (·.2))) (fLC (es.map (·.1)) fun cs => sCall (call f l cs) fun r => wRest ob d es r K)
def wCall (ob : Objs) (d : Nat) (f : FuncId) (args : List AV) (K : KO) : Prop :=
  cond (otherName d (md f) args) (wCall9 call md ob (d + 5000) f args K) (wCall9 call md ob d f args K)

def wOp (sl : Slots) (dd : Nat) (op : Op) (typ : TypeId) (ob : Objs) (K : KO) : Prop := match op with
  | .move x => fA (wT ty sl typ x) fun v => K v []
  | .assign x => fA (wT ty sl typ x) fun v => K v []
  | .pick c a b => fA (ev sl c) fun c => match c with
    | .s (.bool t) => fG t (fA (ev sl a) fun v => K v []) (fA (ev sl b) fun v => K v [])
    | _ => False
  | .alloc t => fO (ty t) fun i => wMk dd ob (.box i.cells) (fun b => .pt dd b 0 [] 0 0) [] K
  | .box t x => fA (wT ty sl t x) fun v => fO v.cells? fun l => wMk dd ob (.box l) (fun b => .pt dd b 0 [] 0 0) [] K
  | .build t parts => fO (ty t) fun i => fB i.agg (wFill (fun k => i.offs[k]?) (parts.toList.map fun (k, x) => (k, ev sl x)) i.cells fun l => K (.ag l) [])
  | .buildSlice t len parts => fO (ty t) fun ti => fO ti.elem fun e => fO (ty e) fun i =>
      fK i.cells.length fun w => fL1 ((List.replicate len i.cells).flatten) fun cells0 => wFill (fun k => some (k * w, w)) (parts.toList.map fun (k, x) => (k, wT ty sl e x)) cells0 fun cells =>
        fB (Nat.blt 0 i.cells.length && Nat.ble (len * i.cells.length) 16777216) (fL1 cells fun cells => wGrab ob cells [] fun ts l ss =>
          fK i.cells.length fun w => fLLT ((List.range len).map fun k => (ts.drop (k * w)).take w) fun rows => sR rows fun rows => wMk dd ob (.tree (l + 1) (.sl w rows)) (fun b => .h dd b 0 [] w 0 len) ss K)
  | .load t a => fO (ty t) fun ti => fA (ev sl a) fun a => wLoad ob ti a fun v => K v []
  | .store t a x => fO (ty t) fun ti => fA (ev sl a) fun a => fA (wT ty sl t x) fun v => match v with
    | .h o b g (q :: p) sz lo len => sBool (isRecut a (.h o b g (q :: p) sz lo len)) fun rc => fG rc (fB (Nat.beq ti.cells.length 1) (wRecut ob a (.h o b g (q :: p) sz lo len) K)) (wStore ob ti.cells.length a (.h o b g (q :: p) sz lo len) K)
    | v => wStore ob ti.cells.length a v K
  | .nilCheck x => fA (ev sl x) fun v => match v with
    | .pt o b g p i j => K (.pt o b g p i j) []
    | _ => False
  | .binOp op t x y _ => fA (ev sl x) fun a => fA (ev sl y) fun b => wBin ty op t a b fun v => K v []
  | .unOp op _ x => fA (ev sl x) fun v => match op, v with
    | .not, .s (.bool t) => K (.s (.bool (!t))) []
    | .neg, .s (.int k n) => sW k (0 - n) fun n => K (.s (.int k n)) []
    | _, _ => False
  | .convert st t x => fO (ty t) fun ti => fO (ty st) fun ts => fA (ev sl x) fun v => wConv dd ob ti ts (byteTy ty ti) (byteTy ty ts) v K
  | .makeFunc (.func f) first cap => fB (Nat.beq first.size 0) (fL1 (cap.toList.map (ev sl)) fun l => K (.fn f l) [])
  | .makeSlice t l c => fO (ty t) fun ti => fO ti.elem fun e => fO (ty e) fun i => fA (ev sl l) fun l => fA (ev sl c) fun c => match l, c with
    | .s (.int k n), .s (.int k' m) => fB (decide (k = .i64) && decide (k' = .i64) && Nat.blt 0 i.cells.length) (fK ti.bytes fun by_ => sI (0 ≤ n ∧ n ≤ m ∧ m * by_ ≤ 140737488355328 ∧ m ≤ 140737488355328)
        (fK i.cells.length fun w => fL1 i.cells fun cs => wGrab ob cs [] fun ts _ _ => fLT ts fun ts => sR (List.replicate n.toNat ts) fun rows => sN n.toNat fun n => wMk dd ob (.tree 9 (.sl w rows)) (fun b => .h dd b 0 [] w 0 n) [] K))
    | _, _ => False
  | .slice t x lo hi none => fO (ty t) fun ti => fA (ev sl x) fun x => fOA (lo.map (ev sl)) fun lo => fOA (hi.map (ev sl)) fun hi => wSlice ti x lo hi fun v => K v []
  | .fieldAddr t x f => fA (ev sl x) fun v => match v with
    | .pt o b g p i j => fO (ty t) fun ti => fO ti.offs[f]? fun k => fK (j + k.1) fun j => K (.pt o b g p i j) []
    | _ => False
  | .indexAddr t x ix => fA (ev sl x) fun v => fA (ev sl ix) fun a => match v, a with
    | .h o b g p sz l n, .s (.int _ a) => fO (ty t) fun ti => fB (Nat.beq sz ti.esz && ti.elem.isSome) (sI (0 ≤ a ∧ a < n) (sN (l + a.toNat) fun i => K (.pt o b g p i 0) []))
    | _, _ => False
  | .index t x ix => fO (ty t) fun ti => fA (ev sl x) fun v => fA (ev sl ix) fun a => match v, a with
    | .s (.string s), .s (.int _ a) => fB (isStr ti) (sI (0 ≤ a ∧ a < (s.size : Int)) (sZ (byteAt s a.toNat) fun n => K (.s (.int .u8 n)) []))
    | _, _ => False
  | .extract t i => fA (ev sl t) fun v => match v with
    | .tu l => fO l[i]? fun v => K v []
    | _ => False
  | .call c => (match c.callee with
    | .value f => fB (Nat.beq c.argTypes.size c.args.size) (fA (ev sl f) fun v => match v with
      | .fn f caps => wArgs ty sl c.args.toList c.argTypes.toList fun l => fL1 (l ++ caps) fun l => wCall call md ob dd f l K
      | _ => False)
    | .builtin .len => (match c.args.toList, c.argTypes.toList with
      | [x], [t] => fO (ty t) fun ti => fA (ev sl x) fun v => match v with
        | .h _ _ _ _ _ _ n => fB ti.elem.isSome (K (.s (.int .i64 n)) [])
        | .nl _ => fB ti.elem.isSome (K (.s (.int .i64 0)) [])
        | .s (.string s) => fB (isStr ti) (K (.s (.int .i64 s.size)) [])
        | _ => False
      | _, _ => False)
    | .builtin .append => (match c.args.toList, c.argTypes.toList with
      | [s, x], [t, t'] => fO (ty t) fun ti => fO (ti.elem.bind ty) fun i => fA (ev sl s) fun s => fA (ev sl x) fun x => fK ti.bytes fun by_ =>
        fG (Nat.beq t' t) (fK i.cells.length fun w => wApp ob dd by_ w s x K) (wZeros ob dd (ty t') i.cells by_ s x K)
      | _, _ => False)
    | .builtin .cap => (match c.args.toList, c.argTypes.toList with
      | [x], [t] => fO (ty t) fun ti => fA (ev sl x) fun v => match v with
        | .nl _ => fB ti.elem.isSome (K (.s (.int .i64 0)) [])
        | _ => False
      | _, _ => False)
    | .builtin .min => (match c.args.toList with
      | [x, y] => fA (ev sl x) fun x => fA (ev sl y) fun y => match x, y with
        | .s (.int k a), .s (.int k' b) => fB (decide (k = .i64) && decide (k' = .i64)) (sZ (if b < a then b else a) fun n => K (.s (.int .i64 n)) [])
        | _, _ => False
      | _ => False)
    | .builtin .max => (match c.args.toList with
      | [x, y] => fA (ev sl x) fun x => fA (ev sl y) fun y => match x, y with
        | .s (.int k a), .s (.int k' b) => fB (decide (k = .i64) && decide (k' = .i64)) (sZ (if a < b then b else a) fun n => K (.s (.int .i64 n)) [])
        | _, _ => False
      | _ => False)
    | _ => False)
  | _ => False
end

theorem wT_eq {E : Env} {sl : Slots} {t : TypeId} {x : Operand} : wT E.ty sl t x = evT E sl t x := by
  unfold wT evT
  cases ev sl x <;> rfl
theorem fOA_eq {x : Option AV} {F : Option AV → Prop} : fOA x F = F x := by cases x <;> simp only [fOA, fA_eq]
theorem wBin_ok {E : Env} {op : BinOp} {t : TypeId} {x y : AV} {ob : Objs} {K : AV → Prop} (h : wBin E.ty op t x y K) : Is (exBin E op t x y) ob fun v ss => ss = [] ∧ K v := by
  unfold wBin at h
  split at h
  · rename_i k a k' b
    cases op <;> simp only [sW_eq, sI_eq, sZ_eq, fB_eq, decide_eq_true_eq] at h <;> first
      | exact h.elim
      | (obtain ⟨h0, h⟩ := h; rw [decide_eq_true_eq] at h0; subst h0; simp only [Is, exBin, bin, binInt, if_true]; exact ⟨_, rfl, rfl, h⟩)
      | (obtain ⟨h0, h⟩ := h; subst h0; simp only [Is, exBin, bin, binInt, if_true]; exact ⟨_, rfl, rfl, h⟩)
      | (obtain ⟨h0, h⟩ := h; subst h0; simp only [Is, exBin, bin, binInt, if_true]; exact ⟨_, rfl, rfl, by simpa using h⟩)
      | (obtain ⟨h0, h1, h⟩ := h; subst h0; simp only [Is, exBin, bin, binInt, h1, if_true, if_false]; exact ⟨_, rfl, rfl, h⟩)
      | (obtain ⟨h0, h⟩ := h; simp only [Is, exBin, h0, if_true]; exact ⟨_, rfl, rfl, h⟩)
  · rename_i l l'
    simp only [fB_eq] at h
    obtain ⟨h0, h⟩ := h
    simp only [Is, exBin, h0, if_true]
    cases op <;> simp only at h <;> first | exact h.elim | (simp only [fO_eq] at h; obtain ⟨b, hb, h⟩ := h; simp only [bin, hb]; exact ⟨_, rfl, rfl, h⟩)
  · rename_i a b
    simp only [fB_eq] at h
    obtain ⟨h0, h⟩ := h
    simp only [Is, exBin, h0, if_true]
    cases op <;> simp only at h <;> first | exact h.elim | exact ⟨_, rfl, rfl, h⟩
  · rename_i a b
    cases op <;> simp only at h <;> first | exact h.elim | (obtain ⟨h0, h⟩ := h; simp only [Is, exBin, bin, binStr, h0, if_true]; exact ⟨_, rfl, rfl, h⟩) | exact ⟨_, rfl, rfl, h.h⟩
  · exact h.elim
theorem wConv_ok {d : Nat} {ob : Objs} {ti ts : TyI} {bt bs : Bool} {v : AV} {K : KO} (h : wConv d ob ti ts bt bs v K) : Is (exConv d ti ts bt bs v) ob K := by
  unfold wConv at h
  split at h
  · simp only [fO_eq, fB_eq, sW_eq] at h
    obtain ⟨k, hk, hs, h⟩ := h
    simp only [Is, exConv, hk, hs, if_true]
    exact ⟨_, rfl, h⟩
  · simp only [fB_eq, sI_eq, sR_eq, sN_eq, Bool.and_eq_true] at h
    obtain ⟨h0, h1, h⟩ := h
    simp only [exConv, h0, h1, and_self, if_true]
    exact wMk_ok h
  · simp only [fB_eq, Bool.and_eq_true] at h
    obtain ⟨h0, h⟩ := h
    simp only [Is, exConv, h0, and_self, if_true]
    exact ⟨_, rfl, h⟩
  · simp only [fB_eq, Bool.and_eq_true] at h
    obtain ⟨h0, h⟩ := h
    simp only [exConv, h0, and_self, if_true]
    refine wLook_ok (K := fun a : Out => K a.v a.sets) h fun b' g' d lvl t sz rows h => ?_
    simp only [sR_eq, sOpt_eq, fB_eq] at h
    obtain ⟨l, hl, h1, h⟩ := h
    have h1 := Nat.eq_of_beq_eq_true h1
    simp only [hl, h1, if_true]
    exact ⟨_, rfl, h⟩
  · exact h.elim

theorem wArgs_eq {E : Env} {sl : Slots} {F : List AV → Prop} : ∀ (xs : List Operand) (ts : List TypeId), wArgs E.ty sl xs ts F = F ((xs.zip ts).map fun (x, t) => evT E sl t x) := by
  intro xs
  induction xs generalizing F with
  | nil => intro ts; cases ts <;> rfl
  | cons x xs ih => intro ts; cases ts with
    | nil => rfl
    | cons t ts =>
      show fA (wT E.ty sl t x) (fun a => wArgs E.ty sl xs ts fun l => F (a :: l)) = _
      simp only [fA_eq, ih, List.zip_cons_cons, List.map_cons, wT_eq]
def wImp0 (md : List Bool) (ob : Objs) : Nat → List AV → List (Cont × Src) → (List AV → List (Cont × Src) → Prop) → Prop
  | _, [], es, k => k [] es
  | n + 1, .s x :: r, es, k => wImp0 md ob n r es fun l es => k (.s x :: l) es
  | n + 1, .nl sz :: r, es, k => cond (md.getD 90 false) (wImp0 md ob n r es fun l es => k (.nl sz :: l) es)
      (fLen es fun m => fES (es ++ [(.tree (if md.getD m false then 9 else 0) (.sl sz []), .ro (.nl sz))]) fun es2 => wImp0 md ob n r es2 fun l es' => fK (1000000 + m) fun i => k (.h i 0 0 [] sz 0 0 :: l) es')
  | n + 1, .u :: r, es, k => wImp0 md ob n r es fun l es => k (.u :: l) es
  | n + 1, .ag c :: r, es, k => wImp0 md ob n c es fun c es => wImp0 md ob n r es fun l es => k (.ag c :: l) es
  | n + 1, .fn f c :: r, es, k => wImp0 md ob n c es fun c es => wImp0 md ob n r es fun l es => k (.fn f c :: l) es
  | n + 1, .h o b g p sz lo len :: r, es, k => wLook ob o b g p fun _ _ _ lvl _ sz' rows => fLen es fun q => (match md.getD q false with
      | true => fB (Nat.beq lo 0 && Nat.blt p.length lvl) (sI (len = rows.length)
          (fES (es ++ [(.tree (lvl - p.length) (.sl sz' rows), srcOf o b g p lvl)]) fun es2 => wImp0 md ob n r es2 fun l es' => fK (1000000 + q) fun i => k (.h i 0 0 [] sz' 0 len :: l) es'))
      | false => sR ((rows.drop lo).take len) fun sub => sN sub.length fun m => fES (es ++ [(.tree 0 (.sl sz' sub), .ro (.h o b g p sz lo len))]) fun es2 => wImp0 md ob n r es2 fun l es' => fK (1000000 + q) fun i => k (.h i 0 0 [] sz' 0 m :: l) es')
  | n + 1, .pt o b _ [] 0 0 :: r, es, k => fOb (ob o) fun b' _ _ c => match c with
      | .box cells => fE b' b (wImp0 md ob n cells es fun cells es' => fLen es' fun q => fES (es' ++ [(.box cells, .box o b)]) fun es2 => wImp0 md ob n r es2 fun l es'' => fK (1000000 + q) fun i => k (.pt i 0 0 [] 0 0 :: l) es'')
      | _ => False
  | _, _ :: _, _, _ => False
def wNew0 (ob : Objs) (d : Nat) : Nat → List Cont → (List AV → Prop) → Prop
  | _, [], k => k []
  | n, .tree _ _ :: r, k => fK (d + 10000 * (n + 1)) fun i => fBi (ob i) fun b => wNew0 ob d (n + 1) r fun vs => k (.h i (b + 1) 0 [] 0 0 0 :: vs)
  | n, .box _ :: r, k => fK (d + 10000 * (n + 1)) fun i => fBi (ob i) fun b => wNew0 ob d (n + 1) r fun vs => k (.pt i (b + 1) 0 [] 0 0 :: vs)
  | _, .dead :: _, _ => False
theorem wImp_eq {md : List Bool} {ob : Objs} {n : Nat} {l : List AV} {es : List (Cont × Src)} {k : List AV → List (Cont × Src) → Prop} : wImp md ob n l es k = wImp0 md ob n l es k := by
  unfold wImp
  induction n generalizing l es k with
  | zero => cases l with
    | nil => rfl
    | cons x l => have e : wImp0 md ob 0 (x :: l) es k = False := by cases x <;> simp [wImp0]
                  exact e.symm
  | succ n ih =>
    cases l with
    | nil => rfl
    | cons x r =>
      cases x with
      | s x => exact ih
      | u => exact ih
      | nl sz =>
        simp only [wImp0]
        exact congr (congrArg (cond _) ih) (by congr 1; funext m; congr 1; funext es2; exact ih)
      | ag c => simp only [wImp0]; refine Eq.trans ih ?_; congr 1; funext c es; exact ih
      | fn f c => simp only [wImp0]; refine Eq.trans ih ?_; congr 1; funext c es; exact ih
      | tu c => rfl
      | h o b g p sz lo len =>
        simp only [wImp0]
        congr 1; funext b' g' d lvl t sz' rows; congr 1; funext q
        cases md.getD q false with
        | true => simp only; congr 1; congr 1; congr 1; funext es2; exact ih
        | false => simp only; congr 1; funext sub; congr 1; funext m; congr 1; funext es2; exact ih
      | pt o b g p i j =>
        cases p with
        | cons a p => rfl
        | nil => cases i with
          | succ i => rfl
          | zero => cases j with
            | succ j => rfl
            | zero =>
              simp only [wImp0]
              congr 1; funext b' g' d c
              cases c with
              | dead => rfl
              | tree l t => rfl
              | box cells =>
                simp only; congr 1
                refine Eq.trans ih ?_
                congr 1; funext c es; congr 1; funext q; congr 1; funext es2; exact ih
theorem wNew_eq {ob : Objs} {d n : Nat} {r : List Cont} {k : List AV → Prop} : wNew ob d n r k = wNew0 ob d n r k := by
  unfold wNew
  induction r generalizing n k with
  | nil => rfl
  | cons c r ih =>
    cases c with
    | dead => rfl
    | tree l t => simp only [wNew0]; congr 1; funext i; congr 1; funext b; exact ih
    | box l => simp only [wNew0]; congr 1; funext i; congr 1; funext b; exact ih
section
variable {α : Type} {K : α → Prop}
theorem wImp0_ok {md : List Bool} {ob : Objs} : ∀ (n : Nat) (l : List AV) (es : List (Cont × Src)) (k : List AV → List (Cont × Src) → Prop) (k' : List AV → List (Cont × Src) → Rd α), wImp0 md ob n l es k → (∀ l es, k l es → ∃ a, (k' l es).run ob = some a ∧ K a) →
    ∃ a, (imp md n l es k').run ob = some a ∧ K a := by
  intro n
  induction n with
  | zero => intro l es k k' h hk; cases l with
    | nil => exact hk _ _ h
    | cons x l => simp [wImp0] at h
  | succ n ih =>
    intro l es k k' h hk
    cases l with
    | nil => exact hk _ _ h
    | cons x r =>
      cases x with
      | s x => exact ih r es _ _ h fun l es h => hk _ _ h
      | u => exact ih r es _ _ h fun l es h => hk _ _ h
      | nl sz =>
        simp only [wImp0] at h
        simp only [imp]
        cases hm : md.getD 90 false with
        | true =>
          rw [hm] at h
          rw [if_pos rfl]
          exact ih r es _ _ h fun l es h => hk _ _ h
        | false =>
          rw [hm] at h
          simp only [fES_eq, fLen_eq] at h
          rw [if_neg (by decide)]
          exact ih r _ _ _ h fun l es' h => by rw [fK_eq] at h; exact hk _ _ h
      | ag c => exact ih c es _ _ h fun c es h => ih r es _ _ h fun l es h => hk _ _ h
      | fn f c => exact ih c es _ _ h fun c es h => ih r es _ _ h fun l es h => hk _ _ h
      | tu c => exact h.elim
      | h o b g p sz lo len =>
        refine wLook_ok (k' := fun _ lvl _ sz' rows => _) h fun b' g' d lvl t sz' rows h => ?_
        rw [fLen_eq] at h
        cases hm : md.getD es.length false with
        | true =>
          simp only [hm, fB_eq, sI_eq, fES_eq, Bool.and_eq_true, Nat.blt_eq] at h
          obtain ⟨⟨h0, h1⟩, h2, h⟩ := h
          have h0 := Nat.eq_of_beq_eq_true h0
          simp only [h0, h1, h2, and_self, if_true]
          have e : srcOf o b g p lvl = if p = [] then Src.root o b else Src.nest o b g p lvl := by cases p <;> simp [srcOf]
          have e' := ih r _ _ (fun l es' => k' (AV.h (1000000 + es.length) 0 0 [] sz' 0 len :: l) es') h fun l es' h => by rw [fK_eq] at h; exact hk _ _ h
          rw [e] at e'
          rw [h2] at e'
          exact e'
        | false =>
          simp only [hm, sR_eq, sN_eq, fES_eq] at h
          simp only [Bool.false_eq_true, if_false]
          exact ih r _ _ _ h fun l es' h => by rw [fK_eq] at h; exact hk _ _ h
      | pt o b g p i j =>
        cases p with
        | cons a p => exact h.elim
        | nil => cases i with
          | succ i => exact h.elim
          | zero => cases j with
            | succ j => exact h.elim
            | zero =>
              simp only [wImp0, fOb_eq] at h
              simp only [imp, lookBox, Rd.run]
              generalize ob o = x at h ⊢
              obtain ⟨b', g', d, c⟩ := x
              cases c with
              | dead => exact h.elim
              | tree l t => exact h.elim
              | box cells =>
                simp only [fE_eq, fES_eq] at h
                obtain ⟨hb, h⟩ := h
                simp only [hb, if_true]
                exact ih cells _ _ _ h fun c es' h => by
                  simp only [fLen_eq] at h
                  exact ih r _ _ _ h fun l es'' h => by rw [fK_eq] at h; exact hk _ _ h
theorem wImp_ok {md : List Bool} {ob : Objs} (n : Nat) (l : List AV) (es : List (Cont × Src)) (k : List AV → List (Cont × Src) → Prop) (k' : List AV → List (Cont × Src) → Rd α) (h : wImp md ob n l es k) (hk : ∀ l es, k l es → ∃ a, (k' l es).run ob = some a ∧ K a) : ∃ a, (imp md n l es k').run ob = some a ∧ K a := wImp0_ok n l es k k' (by rw [← wImp_eq]; exact h) hk
theorem wNew0_ok {ob : Objs} {d : Nat} : ∀ (r : List Cont) (n : Nat) (k : List AV → Prop) (k' : List AV → Rd α), wNew0 ob d n r k → (∀ l, k l → ∃ a, (k' l).run ob = some a ∧ K a) → ∃ a, (newIds d n r k').run ob = some a ∧ K a := by
  intro r
  induction r with
  | nil => intro n k k' h hk; exact hk _ (by simpa [wNew0] using h)
  | cons c r ih =>
    intro n k k' h hk
    cases c with
    | dead => simp [wNew0] at h
    | tree l t =>
      simp only [wNew0, fK_eq, fBi_eq] at h
      simp only [newIds, Rd.run]
      exact ih _ _ _ h fun l h => hk _ h
    | box l =>
      simp only [wNew0, fK_eq, fBi_eq] at h
      simp only [newIds, Rd.run]
      exact ih _ _ _ h fun l h => hk _ h
theorem wNew_ok {ob : Objs} {d : Nat} (r : List Cont) (n : Nat) (k : List AV → Prop) (k' : List AV → Rd α) (h : wNew ob d n r k) (hk : ∀ l, k l → ∃ a, (k' l).run ob = some a ∧ K a) : ∃ a, (newIds d n r k').run ob = some a ∧ K a := wNew0_ok r n k k' (by rw [← wNew_eq]; exact h) hk
theorem wBacks_ok {ob : Objs} : ∀ (r : List (Option Cont)) (es : List (Cont × Src)) (k : List (Nat × Ob) → Prop) (k' : List (Nat × Ob) → Rd α), wBacks ob r es k → (∀ l, k l → ∃ a, (k' l).run ob = some a ∧ K a) → ∃ a, (backs r es k').run ob = some a ∧ K a := by
  intro r
  induction r with
  | nil => intro es k k' h hk; cases es with
    | nil => exact hk _ (by simpa [wBacks] using h)
    | cons e es => simp [wBacks] at h
  | cons c r ih =>
    intro es k k' h hk
    cases es with
    | nil => cases c <;> simp [wBacks] at h
    | cons e es =>
      obtain ⟨c0, s⟩ := e
      cases c with
      | none => simp only [wBacks] at h; simp only [backs]; exact ih _ _ _ h hk
      | some c =>
        cases s with
        | ro x => cases x with
          | nl n => cases c <;> (simp only [wBacks] at h; simp only [backs]; exact ih _ _ _ h hk)
          | _ => cases c <;> simp [wBacks] at h
        | root o b => cases c with
          | dead => simp only [wBacks, fOb_eq] at h; simp only [backs, Rd.run]; exact ih _ _ _ h fun l h => hk _ h
          | tree l t => simp only [wBacks, fOb_eq] at h; simp only [backs, Rd.run]; exact ih _ _ _ h fun l h => hk _ h
          | box l => simp [wBacks] at h
        | box o b => cases c with
          | dead => simp [wBacks] at h
          | tree l t => simp [wBacks] at h
          | box l => simp only [wBacks, fOb_eq] at h; simp only [backs, Rd.run]; exact ih _ _ _ h fun l h => hk _ h
        | nest o b g p lvl => cases c with
          | dead => simp [wBacks] at h
          | box l => simp [wBacks] at h
          | tree l' t' =>
            simp only [wBacks, fOb_eq] at h
            simp only [backs, Rd.run]
            generalize ob o = x at h ⊢
            obtain ⟨b', g', d, c⟩ := x
            cases c with
            | dead => exact h.elim
            | box l => exact h.elim
            | tree l t =>
              simp only [fB_eq] at h
              obtain ⟨h0, h⟩ := h
              have h0 := Nat.eq_of_beq_eq_true h0
              simp only [h0, if_true]
              exact ih _ _ _ (wPut_ok h) fun l h => hk _ h
theorem wBoxes_ok {ob : Objs} {nid : Nat → AV} {src : List (Cont × Src)} : ∀ (r : List (Option Cont)) (es : List (Cont × Src)) (k : List (Nat × Ob) → Prop) (k' : List (Nat × Ob) → Rd α), wBoxes ob nid src r es k → (∀ l, k l → ∃ a, (k' l).run ob = some a ∧ K a) → ∃ a, (boxBacks nid src r es k').run ob = some a ∧ K a := by
  intro r
  induction r with
  | nil => intro es k k' h hk; cases es <;> exact hk _ (by simpa [wBoxes] using h)
  | cons c r ih =>
    intro es k k' h hk
    cases es with
    | nil => cases c with
      | none => exact hk _ (by simpa [wBoxes] using h)
      | some c => cases c <;> exact hk _ (by simpa [wBoxes] using h)
    | cons e es =>
      obtain ⟨c0, s⟩ := e
      cases c with
      | none => simp only [wBoxes] at h; simp only [boxBacks]; exact ih _ _ _ h hk
      | some c => cases c with
        | dead => simp only [wBoxes] at h; simp only [boxBacks]; exact ih _ _ _ h hk
        | tree l t => simp only [wBoxes] at h; simp only [boxBacks]; exact ih _ _ _ h hk
        | box l => cases s with
          | box o b => simp only [wBoxes, fOb_eq] at h; simp only [boxBacks, Rd.run]; exact ih _ _ _ h fun l h => hk _ h
          | root o b => simp only [wBoxes] at h; simp only [boxBacks]; exact ih _ _ _ h hk
          | nest o b g p lvl => simp only [wBoxes] at h; simp only [boxBacks]; exact ih _ _ _ h hk
          | ro x => simp only [wBoxes] at h; simp only [boxBacks]; exact ih _ _ _ h hk
end
theorem wCall9_ok {E : Env} {ob : Objs} {d : Nat} {f : FuncId} {args : List AV} {K : KO} (h : wCall9 E.call E.md ob d f args K) : Is (exCall0 E d f args) ob K := by
  refine wImp_ok (K := fun a : Out => K a.v a.sets) (k' := fun l es => _) _ _ _ _ h fun l es h => ?_
  simp only [fB_eq, fLC_eq, sCall_eq] at h
  obtain ⟨h0, r, hr, h⟩ := h
  simp only [h0, if_true, hr, Rd.ofOpt]
  obtain ⟨v, ns, bk⟩ := r
  refine wNew_ok (K := fun a : Out => K a.v a.sets) (k' := fun vs => _) _ _ _ h fun vs h => ?_
  refine wBacks_ok (K := fun a : Out => K a.v a.sets) (k' := fun bs => _) _ _ _ h fun bs h => ?_
  refine wBoxes_ok (K := fun a : Out => K a.v a.sets) (k' := fun xs => _) _ _ _ h fun xs h => ?_
  simp only [fB_eq, fA_eq, fS_eq] at h
  simp only [h.1, if_true]
  exact ⟨_, rfl, h.2⟩
theorem wCall_ok {E : Env} {ob : Objs} {d : Nat} {f : FuncId} {args : List AV} {K : KO} (h : wCall E.call E.md ob d f args K) : Is (exCall E d f args) ob K := by
  unfold wCall at h
  unfold exCall
  cases h9 : otherName d (E.md f) args with
  | true => rw [h9] at h; exact wCall9_ok h
  | false => rw [h9] at h; exact wCall9_ok h
end Go.Proofs.YtipfcgbhaalcdaaGreat.Abs
