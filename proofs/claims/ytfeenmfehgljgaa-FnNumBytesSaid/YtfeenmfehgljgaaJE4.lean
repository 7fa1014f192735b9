/- Part 4 of the words by which the law is followed: an interpreter over data trees, proved of the machine, and what functions of this program come to by it. No condition. -/
import Derived.Laws.Cover3
import Derived.Laws.Bits128
import Derived.Test.YtfeenmfehgljgaaJE3
namespace Go.Proofs.Ytfeenmfehgljgaa.Abs
open Go
set_option linter.unusedVariables false
set_option linter.unusedSimpArgs false
/-- The object that a value leads to itself. -/
def idW : AV → List Nat
  | .h o _ _ _ _ _ _ => [o]
  | .pt o _ _ _ _ _ => [o]
  | _ => []
def idsW : List AV → List Nat
  | [] => []
  | a :: r => idW a ++ idsW r
/-- The objects that a call's arguments lead to. -/
def reach (ob : Objs) : Nat → List AV → List Nat
  | 0, _ => []
  | _ + 1, [] => []
  | n + 1, .h o _ _ _ _ _ _ :: r => o :: reach ob n r
  | n + 1, .pt o _ _ _ _ _ :: r => o :: ((match (ob o).c with | .box l => reach ob n l | _ => []) ++ reach ob n r)
  | n + 1, .ag c :: r => reach ob n c ++ reach ob n r
  | n + 1, .fn _ c :: r => reach ob n c ++ reach ob n r
  | n + 1, _ :: r => reach ob n r
def cellsOf (x : AV) : List AV := match x.cells? with | some l => l | none => []
def has? (l : List Nat) (x : Nat) : Bool := l.any (Nat.beq x)
/-- New objects of an operation. -/
def fam (d x : Nat) : Bool := Nat.ble 10000 x && Nat.beq (x % 10000) (d % 10000)
def bsCells (ty : TypeId → Option TyI) (sl : Slots) (t : TypeId) (len : Nat) (parts : Array (Nat × Operand)) : List AV := match ty t with
  | some ti => (match ti.elem with
    | some e => (match ty e with
      | some i => (match fillAt (fun k => some (k * i.cells.length, i.cells.length)) ((List.replicate len i.cells).flatten) (parts.toList.map fun (k, x) => (k, wT ty sl e x)) with
        | some l => l
        | none => [])
      | none => [])
    | none => [])
  | none => []
def msCells (ty : TypeId → Option TyI) (t : TypeId) : List AV := match ty t with
  | some ti => (match ti.elem with
    | some e => (match ty e with
      | some i => i.cells
      | none => [])
    | none => [])
  | none => []
def touch (ty : TypeId → Option TyI) (sl : Slots) (ob : Objs) (dd : Nat) (op : Op) (x : Nat) : Bool := match op with
  | .load _ a => has? (idW (ev sl a)) x
  | .store t a v => has? (idW (ev sl a)) x || has? (idsW (cellsOf (wT ty sl t v))) x
  | .alloc _ => Nat.beq x dd
  | .box _ _ => Nat.beq x dd
  | .makeSlice t _ _ => Nat.beq x dd || has? (idsW (msCells ty t)) x
  | .convert _ _ a => Nat.beq x dd || has? (idW (ev sl a)) x
  | .buildSlice t len parts => Nat.beq x dd || has? (idsW (bsCells ty sl t len parts)) x
  | .call c => (match c.callee with
    | .builtin .append => Nat.beq x dd || c.args.toList.any fun a => has? (idW (ev sl a)) x
    | .value f => fam dd x || (match ev sl f with
      | .fn _ caps => has? (reach ob 99 ((((c.args.toList.zip c.argTypes.toList).map fun (x, t) => wT ty sl t x)) ++ caps)) x
      | _ => false)
    | _ => false)
  | _ => false
theorem has?_iff {l : List Nat} {x : Nat} : has? l x = true ↔ x ∈ l := by
  unfold has?
  rw [List.any_eq_true]
  constructor
  · rintro ⟨y, hy, h⟩; rw [Nat.eq_of_beq_eq_true h]; exact hy
  · intro h; exact ⟨x, h, Nat.beq_refl x⟩
theorem beq_iff {x y : Nat} : Nat.beq x y = true ↔ x = y := ⟨Nat.eq_of_beq_eq_true, fun h => by rw [h]; exact Nat.beq_refl y⟩

section
variable {α : Type} {ob : Objs}
theorem ids_mk {d : Nat} {c : Cont} {k : Nat → AV} {ss : List (Nat × Ob)} {x : Nat} (h : x ∈ (mk d c k ss).ids ob) : x = d := by
  simp only [mk, Rd.ids, List.mem_singleton] at h; exact h
theorem ids_look {o b g : Nat} {p : List (Nat × Nat)} {k : Ob → Nat → T → Nat → List (List T) → Rd α} {x : Nat} (h : x ∈ (look o b g p k).ids ob) : x = o ∨ ∃ y l t s r, x ∈ (k y l t s r).ids ob := by
  simp only [look, Rd.ids, List.mem_cons] at h
  rcases h with h | h
  · exact .inl h
  · right
    split at h
    · split at h
      · split at h
        · exact ⟨_, _, _, _, _, h⟩
        · simp [Rd.ids] at h
      · simp [Rd.ids] at h
    · simp [Rd.ids] at h
theorem ids_grab {x : Nat} : ∀ (l : List AV) (mv : List Nat) (k : List T → Nat → List (Nat × Ob) → Rd α), x ∈ (grab l mv k).ids ob → x ∈ idsW l ∨ ∃ ts n ss, x ∈ (k ts n ss).ids ob := by
  intro l
  induction l with
  | nil => intro mv k h; exact .inr ⟨_, _, _, h⟩
  | cons a l ih =>
    intro mv k h
    have step : ∀ (mv : List Nat) (k' : List T → Nat → List (Nat × Ob) → Rd α), x ∈ (grab l mv k').ids ob → (∀ ts n ss, x ∈ (k' ts n ss).ids ob → ∃ ts n ss, x ∈ (k ts n ss).ids ob) → x ∈ idsW (a :: l) ∨ ∃ ts n ss, x ∈ (k ts n ss).ids ob := by
      intro mv k' h hk
      rcases ih mv k' h with h | ⟨ts, n, ss, h⟩
      · left; simp only [idsW, List.mem_append]; exact .inr h
      · right; exact hk _ _ _ h
    cases a with
    | s v => exact step mv _ h fun ts n ss h => ⟨_, _, _, h⟩
    | nl sz => exact step mv _ h fun ts n ss h => ⟨_, _, _, h⟩
    | h o b g p sz lo len =>
      rcases ids_look h with h | ⟨y, lv, t, s, r, h⟩
      · left; simp [idsW, idW, h]
      · split at h
        · simp [Rd.ids] at h
        · split at h
          · exact step mv _ h fun ts n ss h => ⟨_, _, _, h⟩
          · split at h
            · exact step _ _ h fun ts n ss h => ⟨_, _, _, h⟩
            · simp [Rd.ids] at h
    | _ => simp [grab, Rd.ids] at h
theorem ids_tail {x : Nat} {v : AV} {k : List (List T) → Nat → List (Nat × Ob) → Rd α} (h : x ∈ (exTail v k).ids ob) : x ∈ idW v ∨ ∃ ts n ss, x ∈ (k ts n ss).ids ob := by
  cases v with
  | nl n => exact .inr ⟨_, _, _, h⟩
  | h o b g p sz lo len =>
    rcases ids_look h with h | ⟨y, lv, t, s, r, h⟩
    · left; simp [idW, h]
    · split at h
      · exact .inr ⟨_, _, _, h⟩
      · split at h
        · exact .inr ⟨_, _, _, h⟩
        · simp [Rd.ids] at h
  | _ => simp [exTail, Rd.ids] at h
theorem ids_append {E : Env} {d sz : Nat} {ti : TyI} {s v : AV} {x : Nat} (h : x ∈ (exAppend E d ti sz s v).ids ob) : x = d ∨ x ∈ idW s ∨ x ∈ idW v := by
  rcases ids_tail h with h | ⟨ts, n, ss, h⟩
  · exact .inr (.inr h)
  · split at h
    · split at h
      · split at h
        · exact .inl (ids_mk h)
        · simp [Rd.ids] at h
      · rcases ids_look h with h | ⟨y, lv, t, s, r, h⟩
        · right; left; simp [idW, h]
        · split at h
          · exact .inl (ids_mk h)
          · simp [Rd.ids] at h
      · simp [Rd.ids] at h
    · simp [Rd.ids] at h
theorem ids_store {n : Nat} {a v : AV} {x : Nat} (h : x ∈ (exStore n a v).ids ob) : x ∈ idW a ∨ x ∈ idsW (cellsOf v) := by
  cases a with
  | pt o b g p i j =>
    simp only [exStore, Rd.ids, List.mem_cons] at h
    rcases h with h | h
    · left; simp [idW, h]
    · right
      split at h
      · split at h
        · split at h <;> simp [Rd.ids] at h
        · simp [Rd.ids] at h
      · split at h
        · split at h
          · split at h
            · split at h
              · rename_i l hl
                rcases ids_grab _ _ _ h with h | ⟨ts, n, ss, h⟩
                · simp only [cellsOf, hl]; exact h
                · split at h <;> simp [Rd.ids] at h
              · simp [Rd.ids] at h
            · simp [Rd.ids] at h
          · simp [Rd.ids] at h
        · simp [Rd.ids] at h
      · simp [Rd.ids] at h
  | _ => simp [exStore, Rd.ids] at h
theorem ids_recut {a v : AV} {x : Nat} (h : x ∈ (exRecut a v).ids ob) : x ∈ idW a := by
  cases a with
  | pt o b g p i j => cases v with
    | h o' b' g' p' sz' lo len =>
      simp only [exRecut] at h
      split at h
      · rcases ids_look h with h | ⟨y, lv, t, s, r, h⟩
        · simp [idW, h]
        · simp only [recutK] at h
          split at h
          · split at h
            · split at h <;> simp [Rd.ids] at h
            · simp [Rd.ids] at h
          · simp [Rd.ids] at h
      · simp [Rd.ids] at h
    | _ => simp [exRecut, Rd.ids] at h
  | _ => simp [exRecut, Rd.ids] at h
theorem ids_load {E : Env} {ti : TyI} {a : AV} {x : Nat} (h : x ∈ (exLoad E ti a).ids ob) : x ∈ idW a := by
  cases a with
  | pt o b g p i j =>
    simp only [exLoad, Rd.ids, List.mem_cons] at h
    rcases h with h | h
    · simp [idW, h]
    · exfalso
      split at h
      · split at h
        · split at h
          · split at h <;> simp [val, Rd.ids] at h
          · split at h <;> simp [val, Rd.ids] at h
        · simp [Rd.ids] at h
      · split at h
        · split at h
          · split at h
            · split at h
              · split at h <;> simp [val, Rd.ids] at h
              · split at h <;> simp [val, Rd.ids] at h
            · simp [Rd.ids] at h
          · simp [Rd.ids] at h
        · simp [Rd.ids] at h
      · simp [Rd.ids] at h
  | _ => simp [exLoad, Rd.ids] at h
theorem ids_conv {d : Nat} {ti ts : TyI} {bt bs : Bool} {v : AV} {x : Nat} (h : x ∈ (exConv d ti ts bt bs v).ids ob) : x = d ∨ x ∈ idW v := by
  unfold exConv at h
  split at h
  · split at h
    · split at h <;> simp [val, Rd.ids] at h
    · simp [Rd.ids] at h
  · split at h
    · exact .inl (ids_mk h)
    · simp [Rd.ids] at h
  · split at h <;> simp [val, Rd.ids] at h
  · split at h
    · rcases ids_look h with h | ⟨y, lv, t, s, r, h⟩
      · right; simp [idW, h]
      · split at h
        · split at h <;> simp [val, Rd.ids] at h
        · simp [Rd.ids] at h
    · simp [Rd.ids] at h
  · simp [Rd.ids] at h
/-- The objects that sources name. -/
def srcIds : List (Cont × Src) → List Nat
  | [] => []
  | (_, .root o _) :: r => o :: srcIds r
  | (_, .nest o _ _ _ _) :: r => o :: srcIds r
  | (_, .box o _) :: r => o :: srcIds r
  | (_, .ro _) :: r => srcIds r
theorem srcIds_app {a b : List (Cont × Src)} : srcIds (a ++ b) = srcIds a ++ srcIds b := by
  induction a with
  | nil => rfl
  | cons e a ih => obtain ⟨c, s⟩ := e; cases s <;> simp [srcIds, ih]
theorem ids_imp {md : List Bool} {x : Nat} : ∀ (n : Nat) (l : List AV) (es : List (Cont × Src)) (k : List AV → List (Cont × Src) → Rd α), x ∈ (imp md n l es k).ids ob →
    x ∈ reach ob n l ∨ ∃ l' es', (∀ y, y ∈ srcIds es' → y ∈ srcIds es ∨ y ∈ reach ob n l) ∧ x ∈ (k l' es').ids ob := by
  intro n
  induction n with
  | zero => intro l es k h; cases l with
    | nil => exact .inr ⟨_, _, fun y h => .inl h, h⟩
    | cons a l => simp [imp, Rd.ids] at h
  | succ n ih =>
    intro l es k h
    cases l with
    | nil => exact .inr ⟨_, _, fun y h => .inl h, h⟩
    | cons a r =>
      cases a with
      | s v =>
        rcases ih r es _ h with h | ⟨l', es', h1, h2⟩
        · left; simpa [reach] using h
        · exact .inr ⟨_, _, fun y hy => by simpa [reach] using h1 y hy, h2⟩
      | u =>
        rcases ih r es _ h with h | ⟨l', es', h1, h2⟩
        · left; simpa [reach] using h
        · exact .inr ⟨_, _, fun y hy => by simpa [reach] using h1 y hy, h2⟩
      | nl sz =>
        rcases ih r _ _ h with h | ⟨l', es', h1, h2⟩
        · left; simpa [reach] using h
        · exact .inr ⟨_, _, fun y hy => by simpa [reach, srcIds_app, srcIds] using h1 y hy, h2⟩
      | ag c =>
        rcases ih c es _ h with h | ⟨l1, es1, h1, h2⟩
        · left; simp only [reach, List.mem_append]; exact .inl h
        · rcases ih r es1 _ h2 with h | ⟨l', es', h3, h4⟩
          · left; simp only [reach, List.mem_append]; exact .inr h
          · refine .inr ⟨_, _, fun y hy => ?_, h4⟩
            simp only [reach, List.mem_append]
            rcases h3 y hy with h | h
            · rcases h1 y h with h | h
              · exact .inl h
              · exact .inr (.inl h)
            · exact .inr (.inr h)
      | fn f c =>
        rcases ih c es _ h with h | ⟨l1, es1, h1, h2⟩
        · left; simp only [reach, List.mem_append]; exact .inl h
        · rcases ih r es1 _ h2 with h | ⟨l', es', h3, h4⟩
          · left; simp only [reach, List.mem_append]; exact .inr h
          · refine .inr ⟨_, _, fun y hy => ?_, h4⟩
            simp only [reach, List.mem_append]
            rcases h3 y hy with h | h
            · rcases h1 y h with h | h
              · exact .inl h
              · exact .inr (.inl h)
            · exact .inr (.inr h)
      | tu c => simp [imp, Rd.ids] at h
      | h o b g p sz lo len =>
        rcases ids_look h with h | ⟨ob', lvl, t, sz', rows, h⟩
        · left; simp [reach, h]
        · have fin : ∀ (e : Cont × Src) (k' : List AV → List (Cont × Src) → Rd α), (∀ y, y ∈ srcIds [e] → y = o) → x ∈ (imp md n r (es ++ [e]) k').ids ob → (∀ l es, x ∈ (k' l es).ids ob → ∃ l' es', (∀ y, y ∈ srcIds es' → y ∈ srcIds es) ∧ x ∈ (k l' es').ids ob) →
              x ∈ reach ob (n + 1) (.h o b g p sz lo len :: r) ∨ ∃ l' es', (∀ y, y ∈ srcIds es' → y ∈ srcIds es ∨ y ∈ reach ob (n + 1) (.h o b g p sz lo len :: r)) ∧ x ∈ (k l' es').ids ob := by
            intro e k' he h hk
            rcases ih r _ _ h with h | ⟨l', es', h1, h2⟩
            · left; simp only [reach, List.mem_cons]; exact .inr h
            · obtain ⟨l2, es2, h3, h4⟩ := hk _ _ h2
              refine .inr ⟨l2, es2, fun y hy => ?_, h4⟩
              simp only [reach, List.mem_cons]
              rcases h1 y (h3 y hy) with h | h
              · rw [srcIds_app, List.mem_append] at h
                rcases h with h | h
                · exact .inl h
                · exact .inr (.inl (he y h))
              · exact .inr (.inr h)
          split at h
          · split at h
            · refine fin _ _ ?_ h fun l es h => ⟨_, _, fun y hy => hy, h⟩
              intro y hy
              by_cases hp : p = [] <;> simpa [hp, srcIds] using hy
            · simp [Rd.ids] at h
          · refine fin _ _ ?_ h fun l es h => ⟨_, _, fun y hy => hy, h⟩
            intro y hy
            simp [srcIds] at hy
      | pt o b g p i j =>
        cases p with
        | cons a p => simp [imp, Rd.ids] at h
        | nil => cases i with
          | succ i => simp [imp, Rd.ids] at h
          | zero => cases j with
            | succ j => simp [imp, Rd.ids] at h
            | zero =>
              simp only [imp, lookBox, Rd.ids, List.mem_cons] at h
              rcases h with h | h
              · left; simp [reach, h]
              · split at h
                · rename_i cells hc
                  split at h
                  · have er : reach ob (n + 1) (.pt o b g [] 0 0 :: r) = o :: (reach ob n cells ++ reach ob n r) := by simp only [reach, hc]
                    rw [er]
                    simp only [List.mem_cons, List.mem_append]
                    rcases ih cells es _ h with h | ⟨l1, es1, h1, h2⟩
                    · exact .inl (.inr (.inl h))
                    · rcases ih r _ _ h2 with h | ⟨l', es', h3, h4⟩
                      · exact .inl (.inr (.inr h))
                      · refine .inr ⟨_, _, fun y hy => ?_, h4⟩
                        rcases h3 y hy with h | h
                        · rw [srcIds_app, List.mem_append] at h
                          rcases h with h | h
                          · rcases h1 y h with h | h
                            · exact .inl h
                            · exact .inr (.inr (.inl h))
                          · simp [srcIds] at h; exact .inr (.inl h)
                        · exact .inr (.inr (.inr h))
                  · simp [Rd.ids] at h
                · simp [Rd.ids] at h
theorem ids_new {d x : Nat} : ∀ (r : List Cont) (n : Nat) (k : List AV → Rd α), x ∈ (newIds d n r k).ids ob → fam d x = true ∨ ∃ l, x ∈ (k l).ids ob := by
  intro r
  induction r with
  | nil => intro n k h; exact .inr ⟨_, h⟩
  | cons c r ih =>
    intro n k h
    have hf : fam d (d + 10000 * (n + 1)) = true := by
      simp only [fam, Bool.and_eq_true, Nat.ble_eq, beq_iff]
      omega
    cases c with
    | dead => simp [newIds, Rd.ids] at h
    | tree l t =>
      simp only [newIds, Rd.ids, List.mem_cons] at h
      rcases h with h | h
      · left; rw [h]; exact hf
      · rcases ih _ _ h with h | ⟨l, h⟩
        · exact .inl h
        · exact .inr ⟨_, h⟩
    | box l =>
      simp only [newIds, Rd.ids, List.mem_cons] at h
      rcases h with h | h
      · left; rw [h]; exact hf
      · rcases ih _ _ h with h | ⟨l, h⟩
        · exact .inl h
        · exact .inr ⟨_, h⟩
theorem ids_backs {x : Nat} : ∀ (r : List (Option Cont)) (es : List (Cont × Src)) (k : List (Nat × Ob) → Rd α), x ∈ (backs r es k).ids ob → x ∈ srcIds es ∨ ∃ l, x ∈ (k l).ids ob := by
  intro r
  induction r with
  | nil => intro es k h; cases es with
    | nil => exact .inr ⟨_, h⟩
    | cons e es => simp [backs, Rd.ids] at h
  | cons c r ih =>
    intro es k h
    cases es with
    | nil => cases c <;> simp [backs, Rd.ids] at h
    | cons e es =>
      obtain ⟨c0, s⟩ := e
      have up : ∀ k' : List (Nat × Ob) → Rd α, x ∈ (backs r es k').ids ob → (∀ l, x ∈ (k' l).ids ob → ∃ l, x ∈ (k l).ids ob) → x ∈ srcIds ((c0, s) :: es) ∨ ∃ l, x ∈ (k l).ids ob := by
        intro k' h hk
        rcases ih es k' h with h9 | ⟨l, h⟩
        · left; clear hk; cases s <;> simp [srcIds, h9]
        · exact .inr (hk _ h)
      cases c with
      | none => exact up k h fun l h => ⟨l, h⟩
      | some c =>
        cases s with
        | ro v => cases v with
          | nl n => cases c <;> exact up k h fun l h => ⟨l, h⟩
          | _ => cases c <;> simp [backs, Rd.ids] at h
        | root o b => cases c with
          | dead =>
            simp only [backs, Rd.ids, List.mem_cons] at h
            rcases h with h | h
            · left; simp [srcIds, h]
            · exact up _ h fun l h => ⟨_, h⟩
          | tree l t =>
            simp only [backs, Rd.ids, List.mem_cons] at h
            rcases h with h | h
            · left; simp [srcIds, h]
            · exact up _ h fun l h => ⟨_, h⟩
          | box l => simp [backs, Rd.ids] at h
        | box o b => cases c with
          | dead => simp [backs, Rd.ids] at h
          | tree l t => simp [backs, Rd.ids] at h
          | box l =>
            simp only [backs, Rd.ids, List.mem_cons] at h
            rcases h with h | h
            · left; simp [srcIds, h]
            · exact up _ h fun l h => ⟨_, h⟩
        | nest o b g p lvl => cases c with
          | dead => simp [backs, Rd.ids] at h
          | box l => simp [backs, Rd.ids] at h
          | tree l' t' =>
            simp only [backs, Rd.ids, List.mem_cons] at h
            rcases h with h | h
            · left; simp [srcIds, h]
            · split at h
              · split at h
                · exact up _ h fun l h => ⟨_, h⟩
                · simp [Rd.ids] at h
              · simp [Rd.ids] at h
theorem ids_boxes {x : Nat} {nid : Nat → AV} {src : List (Cont × Src)} : ∀ (r : List (Option Cont)) (es : List (Cont × Src)) (k : List (Nat × Ob) → Rd α), x ∈ (boxBacks nid src r es k).ids ob → x ∈ srcIds es ∨ ∃ l, x ∈ (k l).ids ob := by
  intro r
  induction r with
  | nil => intro es k h; cases es <;> exact .inr ⟨_, h⟩
  | cons c r ih =>
    intro es k h
    cases es with
    | nil => cases c with
      | none => exact .inr ⟨_, h⟩
      | some c => cases c <;> exact .inr ⟨_, h⟩
    | cons e es =>
      obtain ⟨c0, s⟩ := e
      have up : ∀ k' : List (Nat × Ob) → Rd α, x ∈ (boxBacks nid src r es k').ids ob → (∀ l, x ∈ (k' l).ids ob → ∃ l, x ∈ (k l).ids ob) → x ∈ srcIds ((c0, s) :: es) ∨ ∃ l, x ∈ (k l).ids ob := by
        intro k' h hk
        rcases ih es k' h with h9 | ⟨l, h⟩
        · left; clear hk; cases s <;> simp [srcIds, h9]
        · exact .inr (hk _ h)
      cases c with
      | none => exact up k (by simpa only [boxBacks] using h) fun l h => ⟨l, h⟩
      | some c => cases c with
        | dead => exact up k (by simpa only [boxBacks] using h) fun l h => ⟨l, h⟩
        | tree l t => exact up k (by simpa only [boxBacks] using h) fun l h => ⟨l, h⟩
        | box l => cases s with
          | box o b =>
            simp only [boxBacks, Rd.ids, List.mem_cons] at h
            rcases h with h | h
            · left; simp [srcIds, h]
            · exact up _ h fun l h => ⟨_, h⟩
          | root o b => exact up k (by simpa only [boxBacks] using h) fun l h => ⟨l, h⟩
          | nest o b g p lvl => exact up k (by simpa only [boxBacks] using h) fun l h => ⟨l, h⟩
          | ro v => exact up k (by simpa only [boxBacks] using h) fun l h => ⟨l, h⟩
end
theorem ids_call {E : Env} {ob : Objs} {d : Nat} {f : FuncId} {args : List AV} {x : Nat} (h : x ∈ (exCall E d f args).ids ob) : fam d x = true ∨ x ∈ reach ob 99 args := by
  rcases ids_imp _ _ _ _ h with h | ⟨l, es, h1, h⟩
  · exact .inr h
  · have h1 : ∀ y, y ∈ srcIds es → y ∈ reach ob 99 args := fun y hy => by
      rcases h1 y hy with h | h
      · simp [srcIds] at h
      · exact h
    split at h
    · unfold Rd.ofOpt at h
      split at h
      · rcases ids_new _ _ _ h with h | ⟨vs, h⟩
        · exact .inl h
        · rcases ids_backs _ _ _ h with h | ⟨bs, h⟩
          · exact .inr (h1 _ h)
          · rcases ids_boxes _ _ _ h with h | ⟨xs, h⟩
            · exact .inr (h1 _ h)
            · split at h <;> simp [Rd.ids] at h
      · simp [Rd.ids] at h
    · simp [Rd.ids] at h
theorem touch_ok {E : Env} {sl : Slots} {ob : Objs} {o : Oper} {x : Nat} (h : x ∈ (ex E sl o).ids ob) : touch E.ty sl ob (o.dst.getD 0) o.op x = true := by
  obtain ⟨dst, op, typ, pos, after, guard⟩ := o
  cases op
  case move a => simp [ex, val, Rd.ids] at h
  case assign a => simp [ex, val, Rd.ids] at h
  case pick c a b => simp only [ex] at h; split at h <;> simp [val, Rd.ids] at h
  case alloc t =>
    simp only [ex] at h
    split at h
    · simp only [touch, beq_iff]; exact ids_mk h
    · simp [Rd.ids] at h
  case box t a =>
    simp only [ex] at h
    split at h
    · simp only [touch, beq_iff]; exact ids_mk h
    · simp [Rd.ids] at h
  case build t parts =>
    simp only [ex] at h
    split at h
    · split at h
      · unfold opt at h; split at h <;> simp [Rd.ids] at h
      · simp [Rd.ids] at h
    · simp [Rd.ids] at h
  case buildSlice t len parts =>
    simp only [ex] at h
    split at h
    · rename_i ti hti
      split at h
      · rename_i e he
        split at h
        · rename_i i hi
          split at h
          · rename_i cells hc
            split at h
            · rcases ids_grab _ _ _ h with h | ⟨ts, n, ss, h⟩
              · simp only [touch, bsCells, hti, he, hi, wT_eq, hc, Bool.or_eq_true, has?_iff]
                exact .inr h
              · simp only [touch, Bool.or_eq_true, beq_iff]; exact .inl (ids_mk h)
            · simp [Rd.ids] at h
          · simp [Rd.ids] at h
        · simp [Rd.ids] at h
      · simp [Rd.ids] at h
    · simp [Rd.ids] at h
  case load t a =>
    simp only [ex] at h
    split at h
    · simp only [touch, has?_iff]; exact ids_load h
    · simp [Rd.ids] at h
  case store t a v =>
    simp only [ex] at h
    split at h
    · simp only [touch, wT_eq, Bool.or_eq_true, has?_iff]
      split at h
      · split at h
        · exact .inl (ids_recut h)
        · simp [Rd.ids] at h
      · exact ids_store h
    · simp [Rd.ids] at h
  case nilCheck a => simp only [ex] at h; split at h <;> simp [val, Rd.ids] at h
  case binOp op t a b yt =>
    simp only [ex] at h
    unfold exBin at h
    have ho : ∀ v : Option AV, x ∈ (opt v).ids ob → False := by intro v hv; unfold opt at hv; split at hv <;> simp [Rd.ids] at hv
    split at h
    · split at h
      · split at h <;> simp [val, Rd.ids] at h
      · split at h <;> simp [val, Rd.ids] at h
      · exact (ho _ h).elim
    · split at h
      · exact (ho _ h).elim
      · simp [Rd.ids] at h
    · split at h
      · exact (ho _ h).elim
      · simp [Rd.ids] at h
    · exact (ho _ h).elim
    · simp [Rd.ids] at h
  case unOp op t a => simp only [ex] at h; split at h <;> simp [val, Rd.ids] at h
  case convert st t a =>
    simp only [ex] at h
    split at h
    · simp only [touch, Bool.or_eq_true, beq_iff, has?_iff]; exact ids_conv h
    · simp [Rd.ids] at h
  case makeFunc f first cap =>
    cases f with
    | func f => simp only [ex] at h; split at h <;> simp [val, Rd.ids] at h
    | _ => simp [ex, Rd.ids] at h
  case makeSlice t l c =>
    simp only [ex] at h
    split at h
    · rename_i ti hti
      split at h
      · rename_i e he
        split at h
        · rename_i i hi
          split at h
          · split at h
            · simp only [touch, msCells, hti, he, hi, Bool.or_eq_true, beq_iff, has?_iff]
              rcases ids_grab _ _ _ h with h | ⟨ts, n, ss, h⟩
              · exact .inr h
              · exact .inl (ids_mk h)
            · simp [Rd.ids] at h
          · simp [Rd.ids] at h
        · simp [Rd.ids] at h
      · simp [Rd.ids] at h
    · simp [Rd.ids] at h
  case slice t a lo hi mx =>
    cases mx with
    | some y => simp [ex, Rd.ids] at h
    | none =>
      simp only [ex] at h
      split at h
      · simp [Rd.ids] at h
      · split at h <;> first | (split at h <;> simp [val, Rd.ids] at h; done) | (simp [Rd.ids] at h; done)
  case fieldAddr t a f =>
    simp only [ex] at h
    split at h
    · split at h <;> simp [val, Rd.ids] at h
    · simp [Rd.ids] at h
  case indexAddr t a ix =>
    simp only [ex] at h
    split at h
    · split at h <;> simp [val, Rd.ids] at h
    · simp [Rd.ids] at h
  case index t a ix =>
    simp only [ex] at h
    split at h
    · split at h <;> simp [val, Rd.ids] at h
    · simp [Rd.ids] at h
  case extract a i =>
    simp only [ex] at h
    split at h
    · unfold opt at h; split at h <;> simp [Rd.ids] at h
    · simp [Rd.ids] at h
  case call c =>
    obtain ⟨cl, args, ats⟩ := c
    cases cl with
    | value f =>
      simp only [ex] at h
      split at h
      · rename_i f' caps e
        split at h
        · simp only [touch, e, Bool.or_eq_true, has?_iff, wT_eq]
          exact ids_call h
        · simp [Rd.ids] at h
      · simp [Rd.ids] at h
    | builtin bi =>
      cases bi
      case len =>
        simp only [ex] at h
        split at h
        · split at h <;> simp [val, Rd.ids] at h
        · split at h <;> simp [val, Rd.ids] at h
        · split at h <;> simp [val, Rd.ids] at h
        · simp [Rd.ids] at h
      case append =>
        simp only [ex] at h
        split at h
        · rename_i s v t t' e1 e2
          split at h
          · split at h
            · split at h
              · simp only [touch, Bool.or_eq_true, beq_iff]
                have hm : ∀ y ∈ [s, v], x ∈ idW y → (args.toList.any fun a => has? (idW (ev sl a)) x) = true := by
                  intro y hy hx
                  rw [← e1, List.mem_map] at hy
                  obtain ⟨a, ha, rfl⟩ := hy
                  rw [List.any_eq_true]
                  exact ⟨a, ha, has?_iff.2 hx⟩
                rcases ids_append h with h | h | h
                · exact .inl h
                · exact .inr (hm s (by simp) h)
                · exact .inr (hm v (by simp) h)
              · simp [Rd.ids] at h
            · simp [Rd.ids] at h
          · simp [Rd.ids] at h
        · simp [Rd.ids] at h
      case min => simp only [ex] at h; split at h <;> simp [val, Rd.ids] at h
      case max => simp only [ex] at h; split at h <;> simp [val, Rd.ids] at h
      all_goals simp [ex, Rd.ids] at h
    | _ => simp [ex, Rd.ids] at h
  all_goals simp [ex, Rd.ids] at h
/-- What was done: which operation, what it wrote, what it touched. -/
abbrev Tr := List (Nat × List Nat × (Nat → Bool))
section
variable (ty : TypeId → Option TyI) (call : FuncId → List AV → List Cont → Option Res) (md : FuncId → List Bool)
def wTStep (all : List Oper) (i : Nat) (sl : Slots) (ob : Objs) (tr : Tr) (K : Slots → Objs → Tr → Prop) (d : Option Tmp) (op : Op) (t : TypeId) (g : Option (Nat × Bool)) (ih : Nat → Slots → Objs → Tr → (Slots → Objs → Tr → Prop) → Prop) : Prop := match g with
  | none => wOp ty call md sl (d.getD 0) op t ob fun v ss => fK (i + 1) fun i' => ih i' (wDst sl d v) (wUpds ob ss) ((i, ss.map (·.1), touch ty sl ob (d.getD 0) op) :: tr) K
  | some (j, want) => fO ((all[j]?).bind (·.dst)) fun x => fA (sl x) fun v => match v with
    | .s (.bool b) => (match want with
      | true => fG b (wOp ty call md sl (d.getD 0) op t ob fun v ss => fK (i + 1) fun i' => ih i' (wDst sl d v) (wUpds ob ss) ((i, ss.map (·.1), touch ty sl ob (d.getD 0) op) :: tr) K) (fK (i + 1) fun i' => ih i' (wDst sl d (.tu [])) ob tr K)
      | false => fG b (fK (i + 1) fun i' => ih i' (wDst sl d (.tu [])) ob tr K) (wOp ty call md sl (d.getD 0) op t ob fun v ss => fK (i + 1) fun i' => ih i' (wDst sl d v) (wUpds ob ss) ((i, ss.map (·.1), touch ty sl ob (d.getD 0) op) :: tr) K))
    | .tu [] => fK (i + 1) fun i' => ih i' (wDst sl d (.tu [])) ob tr K
    | _ => False
def wTr (all r : List Oper) (i : Nat) (sl : Slots) (ob : Objs) (tr : Tr) (K : Slots → Objs → Tr → Prop) : Prop :=
  List.rec (motive := fun _ => Nat → Slots → Objs → Tr → (Slots → Objs → Tr → Prop) → Prop) (fun _ sl ob tr K => K sl ob tr)
    (fun o _ ih i sl ob tr K => match o with | ⟨d, op, t, _, _, g⟩ => wTStep ty call md all i sl ob tr K d op t g ih) r i sl ob tr K
end
def meets (a b : Nat × List Nat × (Nat → Bool)) : Bool := a.2.1.any (fun x => b.2.2 x || has? b.2.1 x) || b.2.1.any (fun x => a.2.2 x)
def pairsW (ps : List (Nat × Nat)) (tr : Tr) : Bool := ps.all fun p => tr.all fun a => tr.all fun b => match Nat.beq a.1 p.1, Nat.beq b.1 p.2 with
  | true, true => !meets a b
  | _, _ => true
theorem wTr_ok {E : Env} {all : List Oper} {K : Slots → Objs → Tr → Prop} : ∀ (r : List Oper) (i : Nat) (sl : Slots) (ob : Objs) (tr : Tr), wTr E.ty E.call E.md all r i sl ob tr K →
    ∃ s tr', runOps E all r ⟨sl, ob⟩ = some s ∧ K s.sl s.ob tr' ∧ (∀ a ∈ tr, a ∈ tr') ∧ ∀ a ∈ trOps E all i r ⟨sl, ob⟩, ∃ a' ∈ tr', a'.1 = a.1 ∧ a'.2.1 = a.2.2 ∧ ∀ x ∈ a.2.1, a'.2.2 x = true := by
  intro r
  induction r with
  | nil => intro i sl ob tr h; exact ⟨_, tr, rfl, h, fun a h => h, fun a h => by simp [trOps] at h⟩
  | cons o r ih =>
    intro i sl ob tr h
    obtain ⟨d, op, t, pos, after, g⟩ := o
    have h' : wTStep E.ty E.call E.md all i sl ob tr K d op t g (wTr E.ty E.call E.md all r) := h
    have yes : guardOf all sl ⟨d, op, t, pos, after, g⟩ = some true → (wOp E.ty E.call E.md sl (d.getD 0) op t ob fun v ss => fK (i + 1) fun i' => wTr E.ty E.call E.md all r i' (wDst sl d v) (wUpds ob ss) ((i, ss.map (·.1), touch E.ty sl ob (d.getD 0) op) :: tr) K) →
        ∃ s tr', runOps E all (⟨d, op, t, pos, after, g⟩ :: r) ⟨sl, ob⟩ = some s ∧ K s.sl s.ob tr' ∧ (∀ a ∈ tr, a ∈ tr') ∧ ∀ a ∈ trOps E all i (⟨d, op, t, pos, after, g⟩ :: r) ⟨sl, ob⟩, ∃ a' ∈ tr', a'.1 = a.1 ∧ a'.2.1 = a.2.2 ∧ ∀ x ∈ a.2.1, a'.2.2 x = true := by
      intro hg h
      obtain ⟨out, h1, h2⟩ := wOp_ok (E := E) (o := ⟨d, op, t, pos, after, g⟩) h
      rw [wDst_eq, wUpds_eq, fK_eq] at h2
      obtain ⟨s, tr', h3, h4, h5, h6⟩ := ih _ _ _ _ h2
      refine ⟨s, tr', by simp only [runOps, hg, h1]; exact h3, h4, fun a ha => h5 _ (List.mem_cons_of_mem _ ha), fun a ha => ?_⟩
      simp only [trOps, hg, h1, List.mem_cons] at ha
      rcases ha with rfl | ha
      · exact ⟨_, h5 _ List.mem_cons_self, rfl, rfl, fun x hx => touch_ok (o := ⟨d, op, t, pos, after, g⟩) hx⟩
      · exact h6 a ha
    have no : guardOf all sl ⟨d, op, t, pos, after, g⟩ = some false → (fK (i + 1) fun i' => wTr E.ty E.call E.md all r i' (wDst sl d (.tu [])) ob tr K) →
        ∃ s tr', runOps E all (⟨d, op, t, pos, after, g⟩ :: r) ⟨sl, ob⟩ = some s ∧ K s.sl s.ob tr' ∧ (∀ a ∈ tr, a ∈ tr') ∧ ∀ a ∈ trOps E all i (⟨d, op, t, pos, after, g⟩ :: r) ⟨sl, ob⟩, ∃ a' ∈ tr', a'.1 = a.1 ∧ a'.2.1 = a.2.2 ∧ ∀ x ∈ a.2.1, a'.2.2 x = true := by
      intro hg h
      rw [wDst_eq, fK_eq] at h
      obtain ⟨s, tr', h3, h4, h5, h6⟩ := ih _ _ _ _ h
      refine ⟨s, tr', by simp only [runOps, hg]; exact h3, h4, h5, fun a ha => ?_⟩
      simp only [trOps, hg] at ha
      exact h6 a ha
    cases g with
    | none => exact yes rfl h'
    | some q =>
      obtain ⟨j, want⟩ := q
      simp only [wTStep, fO_eq, fA_eq] at h'
      obtain ⟨x, hx, h'⟩ := h'
      split at h'
      · rename_i b e
        have hgd : guardOf all sl ⟨d, op, t, pos, after, some (j, want)⟩ = some (b == want) := by simp only [guardOf, hx, e]
        cases want <;> cases b <;> simp only [fG, fGn] at h'
        · exact yes hgd h'
        · exact no hgd h'
        · exact no hgd h'
        · exact yes hgd h'
      · rename_i e
        exact no (by simp only [guardOf, hx, e]) h'
      · exact h'.elim
theorem pairsW_ok {ps : List (Nat × Nat)} {tr : Tr} {tr0 : List (Nat × List Nat × List Nat)} (h : pairsW ps tr = true) (hr : ∀ a ∈ tr0, ∃ a' ∈ tr, a'.1 = a.1 ∧ a'.2.1 = a.2.2 ∧ ∀ x ∈ a.2.1, a'.2.2 x = true) : pairsOk ps tr0 = true := by
  simp only [pairsOk, List.all_eq_true]
  intro p hp a ha b hb
  obtain ⟨a', ha', a1, a2, a3⟩ := hr a ha
  obtain ⟨b', hb', b1, b2, b3⟩ := hr b hb
  simp only [pairsW, List.all_eq_true] at h
  have := h p hp a' ha' b' hb'
  by_cases e : a.1 = p.1 ∧ b.1 = p.2
  · rw [a1, b1, e.1, e.2] at this
    simp only [beq_iff.2 (rfl : p.1 = p.1), beq_iff.2 (rfl : p.2 = p.2), Bool.not_eq_true'] at this
    simp only [meets, Bool.or_eq_false_iff, List.any_eq_false, Bool.or_eq_true, not_or, a2, b2] at this
    obtain ⟨h1, h2⟩ := this
    have q1 : apart a.2.2 (b.2.1 ++ b.2.2) = true := by
      simp only [apart, List.all_eq_true, Bool.not_eq_true', List.contains_eq_mem, decide_eq_false_iff_not, List.mem_append, not_or]
      intro x hx
      refine ⟨fun hh => (h1 x hx).1 (b3 x hh), fun hh => (h1 x hx).2 (has?_iff.2 hh)⟩
    have q2 : apart b.2.2 a.2.1 = true := by
      simp only [apart, List.all_eq_true, Bool.not_eq_true', List.contains_eq_mem, decide_eq_false_iff_not]
      intro x hx hh
      exact h2 x hx (a3 x hh)
    simp [q1, q2]
  · have : (a.1 == p.1 && b.1 == p.2) = false := by
      cases hh : (a.1 == p.1 && b.1 == p.2) with
      | false => rfl
      | true => simp only [Bool.and_eq_true, beq_iff_eq] at hh; exact absurd hh e
    simp [this]
theorem sDraw.mk' {E : Env} {n id : Nat} {ops : Array Oper} {sl : Slots} {ob : Objs} {Q : Exit → Slots → Objs → Prop} {ty : TypeId → Option TyI} (ps : List (Nat × Nat)) (hty : E.ty = ty) (h : unord ty ops = ps) (h2 : wTr E.ty E.call E.md ops.toList ops.toList 0 sl ob [] fun sl ob tr => fB (pairsW ps tr) (Q .normal sl ob)) : sDraw E n id ops sl ob Q := by
  subst hty
  obtain ⟨s, tr', h1, h2, h3, h4⟩ := wTr_ok _ _ _ _ _ h2
  rw [fB_eq] at h2
  have hp := pairsW_ok h2.1 h4
  refine ⟨.normal, s, ?_, h2.2⟩
  simp only [run, h, hp, or_true, if_true, h1, Option.map_some]
end Go.Proofs.Ytfeenmfehgljgaa.Abs
namespace Go.Proofs.Ytfeenmfehgljgaa.Abs
open Go
set_option linter.unusedVariables false
set_option linter.unusedSimpArgs false
def cloneHead (T : TypeId) (q : String) (e : Array Edge) : Oper := ⟨some 4, .binOp .eql T (.tmp 3) (.const (.slice none 0 0)) T, 4, q, e, none⟩
def cloneEnd (T : TypeId) (p1 p2 p3 : String) (e2 e3 : Array Edge) : Code :=
  .seq (.region 3 #[⟨some 5, .buildSlice T 0 #[], T, p1, #[], none⟩, ⟨some 6, .move (.tmp 0), T, p2, #[], none⟩, ⟨some 7, .call ⟨.builtin .append, #[.tmp 5, .tmp 6], #[T, T]⟩, T, p3, e2, none⟩, ⟨some 2, .assign (.tmp 7), T, p3, e3, none⟩] false) .ret
def cloneCond (T : TypeId) (p : String) : Code := .cond (.tmp 4) (.seq (.region 2 #[⟨some 2, .assign (.const (.slice none 0 0)), T, p, #[], none⟩] false) .ret) .skip
def cloneCode (T : TypeId) (p0 p1 p2 p3 : String) (e1 e2 e3 : Array Edge) : Code :=
  .seq (.region 0 #[⟨some 2, .assign (.const (.slice none 0 0)), T, p0, #[], none⟩] false)
    (.seq (.seq (.region 1 #[⟨some 3, .move (.tmp 0), T, p1, #[], none⟩, cloneHead T p1 e1] false) (cloneCond T p2)) (cloneEnd T p3 p3 p3 e2 e3))
theorem wpOp_value {P : Program} {ops : Array Oper} {Q : Go.Exit → Act → World → Prop} {i : Nat} {K : Act → World → Prop} {a : Act} {w : World} {o : Oper} {v : Value} (ho : ops[i]? = some o) (hg : o.guard = none)
    (h : (execOp a.eval o).run P w = .ok (.value v) w) (hK : K (a.put o.dst v) w) : wpOp P ops Q i K a w := by
  unfold wpOp
  rw [ho]
  simp only [Region.wanted, hg, if_true]
  exact .inl (opSound_value (R := fun v' w' => v' = v ∧ w' = w) h ⟨rfl, rfl⟩ K Q fun v' w' hv => by rw [hv.1, hv.2]; exact hK)
def cE (ty : TypeId → Option TyI) : Env := ⟨ty, fun _ _ _ => none, fun _ => [], 8⟩
theorem clone_ok {P : Program} {ty : TypeId → Option TyI} (hTs : ∀ t i, ty t = some i → TyOk P t i) {f t0 sz : Nat} {fn : Func} {p0 p1 p2 p3 : String} {e1 e2 e3 : Array Edge} (hf : P.funcs[f]? = some fn) (hb : fn.body = some (cloneCode t0 p0 p1 p2 p3 e1 e2 e3)) (hn : fn.ntmps = 8)
    (hname : fn.name ≠ "runtime.NumGoroutine") (hres : fn.results.toList = [.tmp 2]) {ti i : TyI} {e : TypeId} (hT : ty t0 = some ti) (he : ti.elem = some e) (hi : ty e = some i) (hc : i.cells.length = sz) (hsz : 0 < sz) (hesz : ti.esz = sz) {rows : List (List T)}
    (hwide : wide sz rows = true) (hflat : flat rows = true) (hfull : T.full 9 (.sl sz rows) = true) (hlim : rows.length * ti.bytes ≤ 140737488355328 ∧ rows.length ≤ 140737488355328) :
    FnOk P f [.h 1000000 0 0 [] sz 0 rows.length] [.tree 0 (.sl sz rows)] ⟨.h 2000000 1 0 [] sz 0 rows.length, [.tree 9 (.sl sz rows)], [none]⟩ := by
  have hTE : TysOk P (cE ty) := hTs
  have hCE : CallOk P (cE ty) := fun f args conts r h => by cases h
  have hul : P.underlying t0 = some (.slice e) := ((hTs t0 ti hT).elem e he).1
  refine ⟨fun w vs => by simp [callFunc, hf, hb, hname], by simp, fun j lv t hj => ?_, fun i c hi => ?_, rfl, fun w A ρ φ Z vs h0 hZA hsz' ha => ?_⟩
  · cases j with
    | zero => simp at hj; obtain ⟨rfl, rfl⟩ := hj; exact hfull
    | succ j => simp at hj
  · cases i with
    | zero => simp at hi; subst hi; exact (backE_ok (ob := fun _ => ⟨0, 0, false, .dead⟩) (mv := []) [.tree 0 (.sl sz rows)] 0 [] [none] (by simp [backE])).2 0 _ rfl
    | succ i => simp at hi
  · have hv0 := ha 0 _ rfl
    generalize hx : vs.getD 0 undef = x0 at hv0
    have hs1 : vs.size = 1 := by simpa using hsz'
    have hstart : Lies w A 8 ⟨slIn [.h 1000000 0 0 [] sz 0 rows.length], obIn [.tree 0 (.sl sz rows)]⟩ { tmps := vs ++ Array.replicate (8 - vs.size) undef, defers := [] } w ρ φ Z := by
      refine ⟨h0, fun k => ?_, by simp; omega, rfl⟩
      simp only [slIn]
      cases k with
      | zero =>
        have : (vs ++ Array.replicate (8 - vs.size) undef).getD 0 undef = vs.getD 0 undef := by
          simp only [Array.getD]
          rw [dif_pos (by simp; omega), dif_pos (by omega)]
          rw [Array.getInternal_eq_getElem, Array.getInternal_eq_getElem, Array.getElem_append_left (by omega)]
        rw [this, hx]; exact hv0
      | succ k => simp; exact .u
    refine calls_of_wp hf hb ?_
    rw [hn]
    unfold cloneCode
    refine wp_seq (region_sound hTE hCE (n := 8) (s' := ⟨upd (slIn [.h 1000000 0 0 [] sz 0 rows.length]) 2 (.nl ti.esz), obIn [.tree 0 (.sl sz rows)]⟩) (by simp [dstOk]) (by simp [runOps, guardOf, ex, evT, ev, cE, hT, val, Rd.run, putDst, upds]) hstart fun a1 w1 ρ1 φ1 Z1 h1 st1 => ?_)
    refine wp_seq (wp_seq (wp_region ?_))
    show wpOps P _ _ [0, 1] a1 w1
    rw [wpOps_cons]
    refine wpOp_sound hTE hCE h1 (o := ⟨some 3, .move (.tmp 0), t0, p1, #[], none⟩) rfl (by simp [dstOk]) (s1 := ⟨upd (upd (slIn [.h 1000000 0 0 [] sz 0 rows.length]) 2 (.nl ti.esz)) 3 (.h 1000000 0 0 [] sz 0 rows.length), obIn [.tree 0 (.sl sz rows)]⟩) ?_ fun a2 w2 ρ2 φ2 Z2 h2 st2 => ?_
    · simp [stepO, guardOf, ex, evT, ev, upd, slIn, val, Rd.run, putDst, upds]
    rw [wpOps_cons]
    have h3 : AVR w2 (obIn [.tree 0 (.sl sz rows)]) ρ2 (.h 1000000 0 0 [] sz 0 rows.length) (a2.tmps.getD 3 undef) := h2.sl 3
    obtain ⟨a3, c3, hx3, hlc3, hnc3⟩ : ∃ a c, a2.tmps.getD 3 undef = .slice a rows.length c ∧ rows.length ≤ c ∧ (a = none → c = 0) := by
      generalize a2.tmps.getD 3 undef = x3 at h3
      cases h3 with | h _ hsl3 _ => exact hsl3
    refine wpOp_value (o := cloneHead t0 p1 e1) (v := .bool a3.isNone) rfl rfl ?_ ?_
    · refine exec_v (exec_bin (o := cloneHead t0 p1 e1) rfl a2.eval) ?_
      have ea : a2.eval (.tmp 3) = .slice a3 rows.length c3 := hx3
      rw [ea]
      show (do eqGuard .eql t0 (.tmp 3) (.const (.slice none 0 0)) (.slice a3 rows.length c3) (.slice none 0 0); binOp .eql t0 (.slice a3 rows.length c3) (.slice none 0 0) : Sem Value).run P w2 = _
      have hg : (eqGuard .eql t0 (.tmp 3) (.const (.slice none 0 0)) (.slice a3 rows.length c3) (.slice none 0 0)).run P w2 = .ok () w2 := by simp [eqGuard]
      have hbq : (binOp .eql t0 (.slice a3 rows.length c3) (.slice none 0 0)).run P w2 = .ok (.bool a3.isNone) w2 := by simp [binOp, Sem.run_bind, run_equal_slice_nil w2 t0 e a3 rows.length c3 hul]
      simp only [Sem.run_bind, hg, hbq, Result.andThen_ok]
    · have h4 : Lies w A 8 ⟨putDst (upd (upd (slIn [.h 1000000 0 0 [] sz 0 rows.length]) 2 (.nl ti.esz)) 3 (.h 1000000 0 0 [] sz 0 rows.length)) (some 4) (.s (.bool a3.isNone)), obIn [.tree 0 (.sl sz rows)]⟩ (a2.put (some 4) (.bool a3.isNone)) w2 ρ2 φ2 Z2 :=
        h2.put h2.inv.stay (fun k hk => by cases hk; decide) (.s rfl)
      have st3 := st1.trans st2
      show Go.Exit.then _ _ .normal _ _
      show (cloneCond t0 p2).wp P _ _ _
      cases hnone : a3.isNone with
      | true =>
        have hr0 : rows = [] := by
          have : a3 = none := by simpa using hnone
          have := hnc3 this
          exact List.length_eq_zero_iff.1 (by omega)
        subst hr0
        rw [hnone] at h4
        refine run_sound hTE hCE (n := 8) (m := 0) (cloneCond t0 p2) (by simp [codeOk, dstOk, cloneCond]) (s' := ⟨upd (putDst (upd (upd (slIn [.h 1000000 0 0 [] sz 0 0]) 2 (.nl ti.esz)) 3 (.h 1000000 0 0 [] sz 0 0)) (some 4) (.s (.bool true))) 2 (.nl ti.esz), obIn [.tree 0 (.sl sz [])]⟩) (x := .ret) ?_ h4 fun a5 w5 ρ5 φ5 Z5 h5 st5 => ?_
        · simp [run, cloneCond, ev, putDst, upd, runOps, guardOf, ex, evT, cE, hT, val, Rd.run, upds]
        · refine body_end (x := .ret) hTE (by simp) h0 hZA (.inr rfl) ?_ h5 (st3.trans st5)
          rw [hres]
          simp [leave, retVs, oneOf, upd, boxArgs, expo, backE, hesz]
      | false =>
        rw [hnone] at h4
        refine run_sound hTE hCE (n := 8) (m := 0) (cloneCond t0 p2) (by simp [codeOk, dstOk, cloneCond]) (s' := ⟨putDst (upd (upd (slIn [.h 1000000 0 0 [] sz 0 rows.length]) 2 (.nl ti.esz)) 3 (.h 1000000 0 0 [] sz 0 rows.length)) (some 4) (.s (.bool false)), obIn [.tree 0 (.sl sz rows)]⟩) (x := .normal) ?_ h4 fun a5 w5 ρ5 φ5 Z5 h5 st5 => ?_
        · simp [run, cloneCond, ev, putDst, upd]
        · show (cloneEnd t0 p3 p3 p3 e2 e3).wp P _ a5 w5
          obtain ⟨s', hrun, hleave⟩ : ∃ s', run (cE ty) 0 (cloneEnd t0 p3 p3 p3 e2 e3) ⟨putDst (upd (upd (slIn [.h 1000000 0 0 [] sz 0 rows.length]) 2 (.nl ti.esz)) 3 (.h 1000000 0 0 [] sz 0 rows.length)) (some 4) (.s (.bool false)), obIn [.tree 0 (.sl sz rows)]⟩ = some (.ret, s') ∧ leave (cE ty) [.tmp 2] [.tree 0 (.sl sz rows)] s' = some ⟨.h 2000000 1 0 [] sz 0 rows.length, [.tree 9 (.sl sz rows)], [none]⟩ := by
            refine ⟨⟨upd (upd (upd (upd (putDst (upd (upd (slIn [.h 1000000 0 0 [] sz 0 rows.length]) 2 (.nl ti.esz)) 3 (.h 1000000 0 0 [] sz 0 rows.length)) (some 4) (.s (.bool false))) 5 (.h 5 1 0 [] sz 0 0)) 6 (.h 1000000 0 0 [] sz 0 rows.length)) 7 (.h 7 1 0 [] sz 0 rows.length)) 2 (.h 7 1 0 [] sz 0 rows.length),
              upd (upd (upd (obIn [.tree 0 (.sl sz rows)]) 5 ⟨1, 0, false, .tree 9 (.sl sz [])⟩) 5 ⟨1, 1, true, .dead⟩) 7 ⟨1, 0, false, .tree 9 (.sl sz rows)⟩⟩, ?_, ?_⟩
            · simp [run, cloneEnd, runOps, guardOf, ex, ev, evT, cE, hT, he, hi, hc, fillAt, grab, mk, val, Rd.run, putDst, upd, upds, exAppend, exTail, look, T.at?, obIn, slIn, hflat, hwide, hsz, lim, hlim]
            · simp [leave, retVs, oneOf, upd, boxArgs, expo, backE, hfull, obIn, slIn]
          refine run_sound hTE hCE (n := 8) (m := 0) (cloneEnd t0 p3 p3 p3 e2 e3) (by simp [codeOk, dstOk, cloneEnd]) hrun h5 fun a6 w6 ρ6 φ6 Z6 h6 st6 => ?_
          exact body_end (x := .ret) hTE (by simp) h0 hZA (.inr rfl) (by rw [hres]; exact hleave) h6 ((st3.trans st5).trans st6)
end Go.Proofs.Ytfeenmfehgljgaa.Abs
namespace Go.Proofs.Ytfeenmfehgljgaa.Abs
open Go Go.Proofs
set_option linter.unusedVariables false
/-- A copy of a slice of flat elements. -/
def cloneP (sz bytes : Nat) : List AV → List Cont → Option Res := fun args conts => match args, conts with
  | [.h o 0 0 [] s 0 n], [.tree 0 (.sl s' rows)] => if o = 1000000 ∧ s = sz ∧ s' = sz ∧ n = rows.length ∧ wide sz rows = true ∧ flat rows = true ∧ T.full 9 (.sl sz rows) = true ∧ (rows.length * bytes ≤ 140737488355328 ∧ rows.length ≤ 140737488355328) then
      some ⟨.h 2000000 1 0 [] sz 0 rows.length, [.tree 9 (.sl sz rows)], [none]⟩ else none
  | _, _ => none
def primT (f : Nat) : Option (List AV → List Cont → Option Res) := if f = 83 then some (cloneP 1 8) else none
def mdT (f : Nat) : List Bool := if f = 90 then [false, true] else if f = 39 then [true] else if f = 40 then [true] else if f = 41 then [true] else if f = 70 then [true] else if f = 42 then [true, true] else []
noncomputable def C : Conf := ⟨tys, mdT, primT, 1000000000000⟩
noncomputable abbrev PR : Program := Try.prog
abbrev i64 (n : Int) : AV := .s (.int .i64 n)
abbrev bl (b : Bool) : AV := .s (.bool b)
/-! ### Stops are passed -/
theorem sW.raw {k : IntKind} {n : Int} {F : Int → Prop} (h : F (k.wrap n)) : sW k n F := ⟨h⟩
theorem wrap_i64 (x : Int) (h0 : -9223372036854775808 ≤ x) (h : x ≤ 9223372036854775807) : IntKind.i64.wrap x = x := by
  simp [IntKind.wrap, IntKind.bits, IntKind.signed]
  omega
theorem wrap_u8 (x : Int) (h0 : 0 ≤ x) (h : x < 256) : IntKind.u8.wrap x = x := by
  simp [IntKind.wrap, IntKind.bits, IntKind.signed]
  omega
theorem sW.i64 {n : Int} {F : Int → Prop} (h0 : -9223372036854775808 ≤ n ∧ n ≤ 9223372036854775807) (h : F n) : sW .i64 n F := by
  rw [sW_eq, wrap_i64 n h0.1 h0.2]; exact h
theorem sW.u8 {n : Int} {F : Int → Prop} (h0 : 0 ≤ n ∧ n < 256) (h : F n) : sW .u8 n F := by
  rw [sW_eq, wrap_u8 n h0.1 h0.2]; exact h
theorem sR.raw {r : List (List T)} {F : List (List T) → Prop} (h : F r) : sR r F := ⟨h⟩
theorem sR.eq {r r' : List (List T)} {F : List (List T) → Prop} (e : r = r') (h : F r') : sR r F := by rw [e]; exact ⟨h⟩
theorem sN.raw {r : Nat} {F : Nat → Prop} (h : F r) : sN r F := ⟨h⟩
theorem sN.eq {r r' : Nat} {F : Nat → Prop} (e : r = r') (h : F r') : sN r F := by rw [e]; exact ⟨h⟩
theorem sZ.raw {r : Int} {F : Int → Prop} (h : F r) : sZ r F := ⟨h⟩
theorem sZ.eq {r r' : Int} {F : Int → Prop} (e : r = r') (h : F r') : sZ r F := by rw [e]; exact ⟨h⟩
theorem sBool.raw {r : Bool} {F : Bool → Prop} (h : F r) : sBool r F := ⟨h⟩
theorem sBool.eq {r r' : Bool} {F : Bool → Prop} (e : r = r') (h : F r') : sBool r F := by rw [e]; exact ⟨h⟩
theorem sOpt.of {α : Type} {x : Option α} {a : α} {F : α → Prop} (e : x = some a) (h : F a) : sOpt x F := ⟨⟨a, e, h⟩⟩
theorem fG.pos {p : Prop} [Decidable p] {A B : Prop} (h : p) (h1 : A) : fG (decide p) A B := by rw [decide_eq_true h]; exact h1
theorem fG.neg {p : Prop} [Decidable p] {A B : Prop} (h : ¬ p) (h1 : B) : fG (decide p) A B := by rw [decide_eq_false h]; exact h1
theorem fG.split {p : Prop} [Decidable p] {A B : Prop} (h : p → A) (h1 : ¬ p → B) : fG (decide p) A B := by
  by_cases hp : p
  · exact fG.pos hp (h hp)
  · exact fG.neg hp (h1 hp)
theorem fG.not {b : Bool} {A B : Prop} (h : fG b B A) : fG (!b) A B := by cases b <;> exact h
theorem fG.yes {b : Bool} {A B : Prop} (h : b = true) (h1 : A) : fG b A B := by rw [h]; exact h1
theorem fG.no {b : Bool} {A B : Prop} (h : b = false) (h1 : B) : fG b A B := by rw [h]; exact h1
theorem fG.bool {b : Bool} {A B : Prop} (h : b = true → A) (h1 : b = false → B) : fG b A B := by
  cases b with
  | true => exact h rfl
  | false => exact h1 rfl
theorem fB.of {b : Bool} {A : Prop} (h : b = true) (h1 : A) : fB b A := by rw [h]; exact h1
theorem fO.of {α : Type} {x : Option α} {a : α} {F : α → Prop} (e : x = some a) (h : F a) : fO x F := by rw [e]; exact h
theorem fE.of {a b : Nat} {A : Prop} (e : a = b) (h : A) : fE a b A := by rw [fE_eq]; exact ⟨e, h⟩
theorem sCall.of {x : Option Res} {r : Res} {F : Res → Prop} (e : x = some r) (h : F r) : sCall x F := ⟨⟨r, e, h⟩⟩
theorem sCall.ex {x : Option Res} {R F : Res → Prop} (e : Told x R) (h : ∀ r, R r → F r) : sCall x F := by
  obtain ⟨r, e, hr⟩ := e.h
  exact ⟨⟨r, e, h r hr⟩⟩
theorem callE_is {x : Option Res} {r : Res} (h : Told x fun r' => r' = r) : x = some r := by
  obtain ⟨_, e, rfl⟩ := h.h; exact e
/-! ### Loops -/
def Fits (f : Slots) : List (Nat × AV) → Prop
  | [] => True
  | (n, v) :: r => f n = v ∧ Fits f r
def FitsO (f : Objs) : List (Nat × Ob) → Prop
  | [] => True
  | (n, v) :: r => f n = v ∧ FitsO f r
def puts (f : Slots) : List (Nat × AV) → Slots
  | [] => f
  | (n, v) :: r => updW (puts f r) n v
def putsO (f : Objs) : List (Nat × Ob) → Objs
  | [] => f
  | (n, v) :: r => updW (putsO f r) n v
theorem Fits.puts {f : Slots} {l : List (Nat × AV)} (h : Fits f l) : f = puts f l := by
  induction l with
  | nil => rfl
  | cons a l ih =>
    obtain ⟨n, v⟩ := a
    obtain ⟨h1, h2⟩ := h
    simp only [Abs.puts]
    rw [← ih h2]
    exact updW_self h1
theorem FitsO.puts {f : Objs} {l : List (Nat × Ob)} (h : FitsO f l) : f = putsO f l := by
  induction l with
  | nil => rfl
  | cons a l ih =>
    obtain ⟨n, v⟩ := a
    obtain ⟨h1, h2⟩ := h
    simp only [putsO]
    rw [← ih h2]
    exact updW_self h1
/-- A round's end. -/
structure Again {ι : Type} (S : ι → List (Nat × AV)) (O : ι → List (Nat × Ob)) (μ : ι → Nat) (I : ι → Prop) (m : Nat) (sl : Slots) (ob : Objs) : Prop where
  h : ∃ i, (Fits sl (S i) ∧ FitsO ob (O i)) ∧ I i ∧ μ i < m
theorem loop_rule {ι : Type} {E : Env} {n : Nat} {c : Code} {sl : Slots} {ob : Objs} {Q : Exit → Slots → Objs → Prop} (S : ι → List (Nat × AV)) (O : ι → List (Nat × Ob)) (μ : ι → Nat) (I : ι → Prop) (i : ι) (h : Fits sl (S i) ∧ FitsO ob (O i)) (hI : I i) (hm : μ i < n)
    (round : ∀ (i : ι) (sl : Slots) (ob : Objs), I i → wC E n c (puts sl (S i)) (putsO ob (O i)) fun e sl ob => match e with
      | .normal => Again S O μ I (μ i) sl ob
      | .exit id => Q (.exit id) sl ob
      | .ret => Q .ret sl ob) : sLoop E n c sl ob Q := by
  obtain ⟨e, s', h1, h2⟩ := loopN_of (B := run E n c) (fun m s => ∃ i, (Fits s.sl (S i) ∧ FitsO s.ob (O i)) ∧ I i ∧ μ i = m) (Q := fun e s => Q e s.sl s.ob) (fun m s h => by
    obtain ⟨i, ⟨h1, h2⟩, h3, rfl⟩ := h
    obtain ⟨e, s', h4, h5⟩ := wC_ok _ _ _ _ (round i s.sl s.ob h3)
    rw [← h1.puts, ← h2.puts] at h4
    refine ⟨e, s', h4, ?_⟩
    cases e with
    | normal => obtain ⟨i', h6, h7, h8⟩ := h5.h; exact ⟨_, h8, i', h6, h7, rfl⟩
    | exit id => exact h5
    | ret => exact h5) n (μ i) ⟨sl, ob⟩ hm ⟨i, h, hI, rfl⟩
  exact ⟨⟨e, s', h1, h2⟩⟩
/-! ### Lists in trees -/
def rI (x : Int) : List T := [.v (.int .i64 x)]
def rB (x : Int) : List T := [.v (.int .u8 x)]
def rBool (x : Bool) : List T := [.v (.bool x)]
def rd {α : Type} [Inhabited α] (l : List α) (n : Nat) : α := l.getD n default
theorem map_rd {α β : Type} [Inhabited α] {f : α → β} {l : List α} {n : Nat} (h : n < l.length) : (l.map f)[n]? = some (f (rd l n)) := by
  simp [rd, h]
theorem map_set_rd {α β : Type} {f : α → β} {l : List α} {n : Nat} {x : α} (h : n < l.length) : ((l.set n x).map f)[n]? = some (f x) := by
  simp [h]
theorem drop_rd {α : Type} [Inhabited α] {l : List α} {n : Nat} (h : n < l.length) : l.drop n = rd l n :: l.drop (n + 1) := by
  rw [List.drop_eq_getElem_cons h]
  simp [rd, h]
theorem rd_mem {α : Type} [Inhabited α] {l : List α} {n : Nat} (h : n < l.length) : rd l n ∈ l := by
  simp [rd, h]
theorem take_all {α β : Type} (f : α → β) (l : List α) : (l.map f).take l.length = l.map f := List.take_of_length_le (by simp)
theorem take_map {α β : Type} (f : α → β) (l : List α) (n : Nat) : (l.map f).take n = (l.take n).map f := by simp
theorem drop_map {α β : Type} (f : α → β) (l : List α) (n : Nat) : (l.map f).drop n = (l.drop n).map f := by simp
theorem take_len_set {α : Type} (l : List α) (n : Nat) (x : α) : (l.set n x).take l.length = l.set n x := List.take_of_length_le (by simp)
theorem take_len_app {α : Type} (l m : List α) : (l ++ m).take (l.length + m.length) = l ++ m := List.take_of_length_le (by simp)
theorem take_set {α β : Type} (f : α → β) (l : List α) (n : Nat) (x : α) : ((l.set n x).map f).take l.length = (l.set n x).map f := List.take_of_length_le (by simp)
theorem take_pre {α β : Type} (f : α → β) (l : List α) (n : Nat) : (l.map f).take n = (l.take n).map f := by simp
theorem drop_suf {α β : Type} (f : α → β) (l : List α) (n : Nat) : ((l.map f).drop n).take (l.length - n) = (l.drop n).map f := by rw [List.take_of_length_le (by simp)]; simp
theorem map_app {α β : Type} (f : α → β) (l m : List α) : l.map f ++ m.map f = (l ++ m).map f := by simp
theorem snoc_rI (l : List Int) (x : Int) : l.map rI ++ [[.v (.int .i64 x)]] = (l ++ [x]).map rI := by simp [rI]
theorem snoc_rB (l : List Int) (x : Int) : l.map rB ++ [[.v (.int .u8 x)]] = (l ++ [x]).map rB := by simp [rB]
theorem snoc_rBool (l : List Bool) (x : Bool) : l.map rBool ++ [[.v (.bool x)]] = (l ++ [x]).map rBool := by simp [rBool]
theorem set_rI (l : List Int) (n : Nat) (x : Int) : (l.map rI).set n [.v (.int .i64 x)] = (l.set n x).map rI := by simp [rI, List.map_set]
theorem set_rBool (l : List Bool) (n : Nat) (x : Bool) : (l.map rBool).set n [.v (.bool x)] = (l.set n x).map rBool := by simp [rBool, List.map_set]
theorem rep_rI (n : Nat) (x : Int) : List.replicate n [T.v (.int .i64 x)] = (List.replicate n x).map rI := by simp [rI]
theorem rep_rBool (n : Nat) (x : Bool) : List.replicate n [T.v (.bool x)] = (List.replicate n x).map rBool := by simp [rBool]
theorem nil_map {α β : Type} (f : α → β) : ([] : List β) = ([] : List α).map f := rfl
theorem wide_map {α : Type} {f : α → List T} {n : Nat} (h : ∀ x, ((f x).length == n) = true) (l : List α) : wide n (l.map f) = true := by simp [wide, h]
theorem flat_map {α : Type} {f : α → List T} (h : ∀ x, (f x).all isV = true) (l : List α) : flat (l.map f) = true := by
  simp only [flat, List.all_map, List.all_eq_true]
  intro x _
  exact h x
theorem full_map {α : Type} {f : α → List T} {n s : Nat} (h : ∀ x, (f x).all (fun t => T.full n t) = true) (l : List α) : T.full (n + 1) (.sl s (l.map f)) = true := by
  simp only [T.full, List.all_map, List.all_eq_true]
  intro x _
  exact h x
theorem solid_map {α : Type} {f : α → List T} (h : ∀ x, (f x).all (fun | .hole => false | _ => true) = true) (l : List α) : solid (l.map f) = true := by
  simp only [solid, List.all_map, List.all_eq_true]
  intro x _
  exact h x
theorem like_map {α β : Type} {f : α → List T} {g : β → List T} {s : Nat} {l : List α} {m : List β} (h : l.length = m.length) : T.like (.sl s (l.map f)) (.sl s (m.map g)) = true := by simp [T.like, h]
theorem nums_rB (l : List Int) : nums (l.map rB) = some l := by
  induction l with
  | nil => rfl
  | cons x l ih => simp [rB] at ih ⊢; simp [nums, ih]
/-- The place of the first of which something is so, or -1. -/
def idxP {α : Type} (p : α → Bool) (l : List α) : Int := match l.findIdx? p with | some i => (i : Int) | none => -1
theorem findIdx_step {α : Type} [Inhabited α] {p : α → Bool} {l : List α} {i : Nat} (hi : i < l.length) (h : l.findIdx? p = ((l.drop i).findIdx? p).map (· + i)) (hn : p (rd l i) = false) : l.findIdx? p = ((l.drop (i + 1)).findIdx? p).map (· + (i + 1)) := by
  rw [h, drop_rd hi, List.findIdx?_cons, hn]
  cases (l.drop (i + 1)).findIdx? p with
  | none => rfl
  | some j => simp; omega
theorem findIdx_here {α : Type} [Inhabited α] {p : α → Bool} {l : List α} {i : Nat} (hi : i < l.length) (h : l.findIdx? p = ((l.drop i).findIdx? p).map (· + i)) (hn : p (rd l i) = true) : idxP p l = i := by
  unfold idxP
  rw [h, drop_rd hi, List.findIdx?_cons, hn]
  simp
theorem findIdx_none {α : Type} {p : α → Bool} {l : List α} {i : Nat} (hi : l.length ≤ i) (h : l.findIdx? p = ((l.drop i).findIdx? p).map (· + i)) : idxP p l = -1 := by
  unfold idxP
  rw [h, List.drop_eq_nil_of_le hi]
  simp
theorem idxP_any {α : Type} (p : α → Bool) (l : List α) : decide (0 ≤ idxP p l) = l.any p := by
  unfold idxP
  cases h : l.findIdx? p with
  | none =>
    rw [List.findIdx?_eq_none_iff] at h
    have : l.any p = false := by simp only [List.any_eq_false]; intro x hx; simp [h x hx]
    rw [this]; decide
  | some i =>
    have : l.any p = true := by
      obtain ⟨hi, hp, _⟩ := List.findIdx?_eq_some_iff_getElem.1 h
      rw [List.any_eq_true]; exact ⟨_, List.getElem_mem hi, hp⟩
    rw [this]; simp
/-! ### The walk's rules -/
theorem gP {p : Prop} [Decidable p] {A B : Prop} (h1 : A) (h : p := by first | with_reducible assumption | omega) : fG (decide p) A B := fG.pos h h1
theorem gN {p : Prop} [Decidable p] {A B : Prop} (h1 : B) (h : ¬ p := by first | with_reducible assumption | omega) : fG (decide p) A B := fG.neg h h1
theorem gY {b : Bool} {A B : Prop} (h1 : A) (h : b = true := by with_reducible assumption) : fG b A B := fG.yes h h1
theorem gF {b : Bool} {A B : Prop} (h1 : B) (h : b = false := by with_reducible assumption) : fG b A B := fG.no h h1
theorem gS64 {n : Int} {F : Int → Prop} (h : F n) (e : -9223372036854775808 ≤ n ∧ n ≤ 9223372036854775807 := by omega) : sW .i64 n F := sW.i64 e h
theorem gU8 {n : Int} {F : Int → Prop} (h : F n) (e : 0 ≤ n ∧ n < 256 := by omega) : sW .u8 n F := sW.u8 e h
theorem gBq {n : Nat} {A : Prop} (h : A) : fB (Nat.beq n n) A := fB.of (Nat.beq_refl n) h
theorem gSet {α β : Type} {f : α → β} {l : List α} {n : Nat} {x : α} {F : β → Prop} (h : F (f x)) (e : n < l.length := by omega) : fO ((l.set n x).map f)[n]? F := fO.of (map_set_rd e) h
theorem gRd {α β : Type} [Inhabited α] {f : α → β} {l : List α} {n : Nat} {F : β → Prop} (h : F (f (rd l n))) (e : n < l.length := by omega) : fO (l.map f)[n]? F := fO.of (map_rd e) h
theorem gLk {α β : Type} {f : α → List T} {g : β → List T} {s : Nat} {l : List α} {m : List β} {F : Bool → Prop} (h : F true) (e : l.length = m.length := by first | with_reducible assumption | omega | (simp only [List.length_set]; omega)) : sBool (T.like (.sl s (l.map f)) (.sl s (m.map g))) F := sBool.eq (like_map e) h
theorem gRf {b : Bool} {A : Prop} (h : A) (e : b = true := by first | rfl | (simp only [full_map, wide_map]; done)) : fB b A := fB.of e h
theorem gI0 {p A : Prop} (h : A) (e : p := by first | with_reducible assumption | omega | (simp only [Nat.zero_add, Nat.add_zero, Nat.sub_zero, Int.toNat_natCast, Int.toNat_zero, Int.toNat_one, List.length_map, List.length_nil, Int.reduceToNat, Nat.reduceAdd, Nat.reduceSub, Int.sub_zero, Int.reduceAdd, Int.reduceSub, Nat.sub_self, Int.toNat_natCast_add_one, List.length_append, List.length_cons, List.length_set, List.length_replicate, List.length_range]; first | done | omega)) : sI p A := sI.mk e h
theorem gNum0 {r r' : Nat} {F : Nat → Prop} (h : F r') (e : r = r' := by first | (simp only [Nat.zero_add, Nat.add_zero, Nat.sub_zero, Int.toNat_natCast, Int.toNat_zero, Int.toNat_one, List.length_map, List.length_nil, Int.reduceToNat, Nat.reduceAdd, Nat.reduceSub, Int.sub_zero, Int.reduceAdd, Int.reduceSub, Nat.sub_self, Int.toNat_natCast_add_one]; rfl) | rfl) : sN r F := sN.eq e h
theorem gRow0 {r r' : List (List T)} {F : List (List T) → Prop} (h : F r') (e : r = r' := by first | (simp only [Nat.add_zero, Nat.zero_add, Nat.reduceAdd, List.drop_zero, List.take_succ_cons, List.take_nil, List.drop_succ_cons, List.drop_nil, List.take_zero, List.nil_append, List.append_nil, List.map_nil, drop_suf, take_pre, drop_map, List.take_length, take_len_set, take_len_app, List.set_set, List.length_map, snoc_rI, snoc_rB, snoc_rBool, set_rI, set_rBool, rep_rI, rep_rBool, map_app]; rfl) | rfl) : sR r F := sR.eq e h
theorem cloneP_run {sz bytes : Nat} {rows : List (List T)} (h1 : wide sz rows = true) (h2 : flat rows = true) (h3 : T.full 9 (.sl sz rows) = true) (h4 : rows.length * bytes ≤ 140737488355328 ∧ rows.length ≤ 140737488355328) :
    cloneP sz bytes [.h 1000000 0 0 [] sz 0 rows.length] [.tree 0 (.sl sz rows)] = some ⟨.h 2000000 1 0 [] sz 0 rows.length, [.tree 9 (.sl sz rows)], [none]⟩ := by
  simp only [cloneP, h1, h2, h3, h4, and_self, if_true]
theorem cloneP_ok {f t0 sz bytes : Nat} (h : ∀ rows : List (List T), wide sz rows = true → flat rows = true → T.full 9 (.sl sz rows) = true → (rows.length * bytes ≤ 140737488355328 ∧ rows.length ≤ 140737488355328) → FnOk PR f [.h 1000000 0 0 [] sz 0 rows.length] [.tree 0 (.sl sz rows)] ⟨.h 2000000 1 0 [] sz 0 rows.length, [.tree 9 (.sl sz rows)], [none]⟩)
    {args : List AV} {conts : List Cont} {r : Res} (hr : cloneP sz bytes args conts = some r) : FnOk PR f args conts r := by
  unfold cloneP at hr
  split at hr
  · split at hr
    · rename_i hc
      obtain ⟨rfl, rfl, rfl, rfl, h1, h2, h3, h4⟩ := hc
      simp only [Option.some.injEq] at hr
      rw [← hr]
      exact h _ h1 h2 h3 h4
    · cases hr
  · cases hr
theorem prims_ok : PrimsOk PR C := by
  intro f p hp args conts r hr
  have hp : primT f = some p := hp
  unfold primT at hp
  split at hp
  · rename_i e; subst e; cases hp; exact cloneP_ok (t0 := 37) (fun rows h1 h2 h3 h4 => clone_ok tys_ok Try.func83 rfl rfl (by decide) rfl rfl rfl rfl rfl (by decide) rfl h1 h2 h3 h4) hr
  cases hp
theorem callE_prim {k f : Nat} {args : List AV} {conts : List Cont} {p : List AV → List Cont → Option Res} {r : Res} (hp : C.prim f = some p) (h : p args conts = some r) : callE PR C (k + 1) f args conts = some r := by
  simp only [callE, hp, h]
end Go.Proofs.Ytfeenmfehgljgaa.Abs

namespace Go.Proofs.Ytfeenmfehgljgaa.Abs
open Go Go.Proofs
set_option linter.unusedVariables false
set_option linter.unusedSimpArgs false
attribute [local irreducible] callE
theorem ok_impl_in (k : Nat) (x lo hi : Int) : callE PR C (k + 1) 47 [i64 x, i64 lo, i64 hi] [] = some ⟨bl (decide (lo ≤ x ∧ x ≤ hi)), [], []⟩ := by
  (refine callE_is (callE_w [ResultVar.tmp 6] rfl Try.func47 rfl (by decide +kernel) rfl (by simp) ?_); (conv => whnf))
  repeat' ((with_reducible (first | refine gP ?_ | refine gN ?_ | refine fG.split (fun _ => ?_) (fun _ => ?_) | refine fG.not ?_ | refine gY ?_ | refine gF ?_ | refine fG.yes (flat_map (fun _ => rfl) _) ?_ | refine fG.bool (fun _ => ?_) (fun _ => ?_) | refine gS64 ?_ | refine gU8 ?_ | refine gI0 ?_ | refine fE.of rfl ?_ | refine gBq ?_ | refine gNum0 ?_ | refine gSet ?_ | refine gRd ?_ | refine gLk ?_ | refine gRow0 ?_ | refine fB.of (wide_map (fun _ => rfl) _) ?_ | refine fB.of (full_map (fun _ => rfl) _) ?_ | refine gRf ?_)) <;> (try (conv => whnf)))

  all_goals (simp; omega)

theorem ok_spec_l1In (k : Nat) (x lo hi : Int) : callE PR C (k + 1) 48 [i64 x, i64 lo, i64 hi] [] = some ⟨bl (decide (lo ≤ x ∧ x ≤ hi)), [], []⟩ := by
  (refine callE_is (callE_w [ResultVar.tmp 6] rfl Try.func48 rfl (by decide +kernel) rfl (by simp) ?_); (conv => whnf))
  repeat' ((with_reducible (first | refine gP ?_ | refine gN ?_ | refine fG.split (fun _ => ?_) (fun _ => ?_) | refine fG.not ?_ | refine gY ?_ | refine gF ?_ | refine fG.yes (flat_map (fun _ => rfl) _) ?_ | refine fG.bool (fun _ => ?_) (fun _ => ?_) | refine gS64 ?_ | refine gU8 ?_ | refine gI0 ?_ | refine fE.of rfl ?_ | refine gBq ?_ | refine gNum0 ?_ | refine gSet ?_ | refine gRd ?_ | refine gLk ?_ | refine gRow0 ?_ | refine fB.of (wide_map (fun _ => rfl) _) ?_ | refine fB.of (full_map (fun _ => rfl) _) ?_ | refine gRf ?_)) <;> (try (conv => whnf)))

  all_goals (simp; omega)

theorem ok_spec_l1Num (k : Nat) (x : Int) : callE PR C (k + 2) 87 [i64 x] [] = some ⟨bl (decide (-1000000000 ≤ x ∧ x ≤ 1000000000)), [], []⟩ := by
  (refine callE_is (callE_w [ResultVar.tmp 2] rfl Try.func87 rfl (by decide +kernel) rfl (by simp) ?_); (conv => whnf))
  repeat' ((with_reducible (first | refine sCall.of (ok_spec_l1In _ _ _ _) ?_ | refine gP ?_ | refine gN ?_ | refine fG.split (fun _ => ?_) (fun _ => ?_) | refine fG.not ?_ | refine gY ?_ | refine gF ?_ | refine fG.yes (flat_map (fun _ => rfl) _) ?_ | refine fG.bool (fun _ => ?_) (fun _ => ?_) | refine gS64 ?_ | refine gU8 ?_ | refine gI0 ?_ | refine fE.of rfl ?_ | refine gBq ?_ | refine gNum0 ?_ | refine gSet ?_ | refine gRd ?_ | refine gLk ?_ | refine gRow0 ?_ | refine fB.of (wide_map (fun _ => rfl) _) ?_ | refine fB.of (full_map (fun _ => rfl) _) ?_ | refine gRf ?_)) <;> (try (conv => whnf)))
  trace_state

/-- Model: instructions. -/
structure Ins where
  op : Int
  r : Int
  a : Int
  b : Int
  n : Int
deriving DecidableEq
instance : Inhabited Ins := ⟨⟨0, 0, 0, 0, 0⟩⟩
def rIns (x : Ins) : List T := [.v (.int .i64 x.op), .v (.int .i64 x.r), .v (.int .i64 x.a), .v (.int .i64 x.b), .v (.int .i64 x.n)]
abbrev aIns (x : Ins) : AV := .ag [i64 x.op, i64 x.r, i64 x.a, i64 x.b, i64 x.n]
def numOk (n : Int) : Bool := decide (-1000000000 ≤ n ∧ n ≤ 1000000000)
def inB (n lo hi : Int) : Bool := decide (lo ≤ n ∧ n ≤ hi)
/-- Which parts an instruction has. -/
def insOk (x : Ins) (places procs : Int) : Bool :=
  inB x.r 0 3 && inB x.a 0 3 && inB x.b 0 3 && inB procs 1 4 &&
  (if x.op = 1 then numOk x.n && decide (x.a = 0) && decide (x.b = 0)
   else if x.op = 2 ∨ x.op = 3 ∨ x.op = 4 ∨ x.op = 5 then decide (x.n = 0)
   else if x.op = 6 then inB x.n 0 (procs - 1) && decide (x.r = 0) && decide (x.b = 0)
   else if x.op = 7 then (inB x.n 0 (procs - 1) || decide (x.n = 9)) && decide (x.a = 0) && decide (x.b = 0)
   else if x.op = 8 then decide (x.r = 0) && decide (x.b = 0) && decide (x.n = 0)
   else if x.op = 9 then decide (0 ≤ x.n ∧ x.n < places) && decide (x.r = 0) && decide (x.a = 0) && decide (x.b = 0)
   else if x.op = 10 then decide (0 ≤ x.n ∧ x.n < places) && decide (x.r = 0) && decide (x.b = 0)
   else if x.op = 11 then decide (x.r = 0) && decide (x.a = 0) && decide (x.b = 0) && decide (x.n = 0)
   else false)
def progOk (l : List Ins) (procs : Int) : Bool := decide (1 ≤ l.length ∧ l.length ≤ 30) && inB procs 1 4 && l.all fun x => insOk x l.length procs

def bs (l : List UInt8) : ByteArray := ⟨l.toArray⟩
def ints (l : List UInt8) : List Int := l.map fun u => (u.toNat : Int)
theorem bytesT_bs (l : List UInt8) : bytesT (bs l) = (ints l).map rB := by simp [bytesT, bs, ints, rB]
theorem bs_size (l : List UInt8) : (bs l).size = l.length := by simp [bs, ByteArray.size]
theorem bs_len (l : List UInt8) : (bs l).size = (ints l).length := by simp [bs, ints, ByteArray.size]
theorem ints_length (l : List UInt8) : (ints l).length = l.length := by simp [ints]
theorem gI1 {p A : Prop} (h : A) (e : p := by first | with_reducible assumption | omega | (simp only [Nat.zero_add, Nat.add_zero, Nat.sub_zero, Int.toNat_natCast, Int.toNat_zero, Int.toNat_one, List.length_map, List.length_nil, Int.reduceToNat, Nat.reduceAdd, Nat.reduceSub, Int.sub_zero, Int.reduceAdd, Int.reduceSub, Nat.sub_self, Int.toNat_natCast_add_one, List.length_append, List.length_cons, List.length_set, List.length_replicate, List.length_range]; first | done | omega)) : sI p A := sI.mk e h
theorem gNum1 {r r' : Nat} {F : Nat → Prop} (h : F r') (e : r = r' := by first | (simp only [Nat.zero_add, Nat.add_zero, Nat.sub_zero, Int.toNat_natCast, Int.toNat_zero, Int.toNat_one, List.length_map, List.length_nil, Int.reduceToNat, Nat.reduceAdd, Nat.reduceSub, Int.sub_zero, Int.reduceAdd, Int.reduceSub, Nat.sub_self, Int.toNat_natCast_add_one]; rfl) | rfl) : sN r F := sN.eq e h
theorem gRow1 {r r' : List (List T)} {F : List (List T) → Prop} (h : F r') (e : r = r' := by first | (simp only [Nat.add_zero, Nat.zero_add, Nat.reduceAdd, List.drop_zero, List.take_succ_cons, List.take_nil, List.drop_succ_cons, List.drop_nil, List.take_zero, List.nil_append, List.append_nil, List.map_nil, drop_suf, take_pre, drop_map, List.take_length, take_len_set, take_len_app, List.set_set, List.length_map, bytesT_bs, snoc_rI, snoc_rB, snoc_rBool, set_rI, set_rBool, rep_rI, rep_rBool, map_app]; rfl) | rfl) : sR r F := sR.eq e h
theorem gI2 {p A : Prop} (h : A) (e : p := by first | with_reducible assumption | omega | (simp only [Nat.zero_add, Nat.add_zero, Nat.sub_zero, Int.toNat_natCast, Int.toNat_zero, Int.toNat_one, List.length_map, List.length_nil, Int.reduceToNat, Nat.reduceAdd, Nat.reduceSub, Int.sub_zero, Int.reduceAdd, Int.reduceSub, Nat.sub_self, Int.toNat_natCast_add_one, bs_len, List.length_append, List.length_cons, List.length_set, List.length_replicate, List.length_range]; first | done | omega)) : sI p A := sI.mk e h
theorem gNum2 {r r' : Nat} {F : Nat → Prop} (h : F r') (e : r = r' := by first | (simp only [Nat.zero_add, Nat.add_zero, Nat.sub_zero, Int.toNat_natCast, Int.toNat_zero, Int.toNat_one, List.length_map, List.length_nil, Int.reduceToNat, Nat.reduceAdd, Nat.reduceSub, Int.sub_zero, Int.reduceAdd, Int.reduceSub, Nat.sub_self, Int.toNat_natCast_add_one, bs_len]; rfl) | rfl) : sN r F := sN.eq e h
theorem gRow2 {r r' : List (List T)} {F : List (List T) → Prop} (h : F r') (e : r = r' := by first | (simp only [Nat.add_zero, Nat.zero_add, Nat.reduceAdd, List.drop_zero, List.take_succ_cons, List.take_nil, List.drop_succ_cons, List.drop_nil, List.take_zero, List.nil_append, List.append_nil, List.map_nil, drop_suf, take_pre, drop_map, List.take_length, take_len_set, take_len_app, List.set_set, List.length_map, bytesT_bs, snoc_rI, snoc_rB, snoc_rBool, set_rI, set_rBool, rep_rI, rep_rBool, map_app]; rfl) | rfl) : sR r F := sR.eq e h
def formL (op : Int) : List UInt8 :=
  if op = 1 then [82, 78] else if op = 2 ∨ op = 3 ∨ op = 4 ∨ op = 5 then [82, 65, 66] else if op = 6 then [80, 65] else if op = 7 then [82, 84] else if op = 8 then [65] else if op = 9 then [76] else if op = 10 then [65, 76] else []
theorem ok_impl_form (k : Nat) (op : Int) : callE PR C (k + 1) 99 [i64 op] [] = some ⟨.tu [.s (.string (bs (formL op))), bl (decide (1 ≤ op ∧ op ≤ 11))], [], []⟩ := by
  (refine callE_is (callE_w [ResultVar.tmp 2, ResultVar.tmp 3] rfl Try.func99 rfl (by decide +kernel) rfl (by simp) ?_); (conv => whnf))
  repeat' ((with_reducible (first | refine gP ?_ | refine gN ?_ | refine fG.split (fun _ => ?_) (fun _ => ?_) | refine fG.not ?_ | refine gY ?_ | refine gF ?_ | refine fG.yes (flat_map (fun _ => rfl) _) ?_ | refine fG.bool (fun _ => ?_) (fun _ => ?_) | refine gS64 ?_ | refine gU8 ?_ | refine gI2 ?_ | refine fE.of rfl ?_ | refine gBq ?_ | refine gNum2 ?_ | refine gSet ?_ | refine gRd ?_ | refine gLk ?_ | refine gRow2 ?_ | refine fB.of (wide_map (fun _ => rfl) _) ?_ | refine fB.of (full_map (fun _ => rfl) _) ?_ | refine gRf ?_)) <;> (try (conv => whnf)))
  all_goals first | (simp [formL, bs, ByteArray.empty, *]; done) | skip
  rw [show decide (1 ≤ op ∧ op ≤ 11) = decide (op = 11) by rw [decide_eq_decide]; omega]
  simp [formL, bs, ByteArray.empty, *]
theorem ok_slices_Index_byte (k : Nat) (l : List Int) (v : Int) (hl : l.length ≤ 100000000000) : callE PR C (k + 1) 112 [.h 1000000 0 0 [] 1 0 l.length, .s (.int .u8 v)] [.tree 0 (.sl 1 (l.map rB))] = some ⟨i64 (idxP (fun x => decide (v = x)) l), [], [none]⟩ := by
  (refine callE_is (callE_w [ResultVar.tmp 4] rfl Try.func112 rfl (by decide +kernel) rfl (by simp) ?_); (conv => whnf))
  refine loop_rule (ι := Nat) (fun i => [(0, .h 1000000 0 0 [] 1 0 l.length), (1, .s (.int .u8 v)), (7, i64 l.length), (8, i64 i)]) (fun i => [(1000000, ⟨0, 0, false, .tree 0 (.sl 1 (l.map rB))⟩)]) (fun i => l.length - i) (fun i => i ≤ l.length ∧ l.findIdx? (fun x => decide (v = x)) = ((l.drop i).findIdx? (fun x => decide (v = x))).map (· + i)) 0 (by (try dsimp only [cond_true, cond_false]); exact ⟨⟨rfl, rfl, rfl, rfl, trivial⟩, ⟨rfl, trivial⟩⟩) (by simp) (by simp [C]; omega) ?_
  rintro i sl ob ⟨hi, hall⟩
  (conv => whnf)
  repeat' ((with_reducible (first | refine gP ?_ | refine gN ?_ | refine fG.split (fun _ => ?_) (fun _ => ?_) | refine fG.not ?_ | refine gY ?_ | refine gF ?_ | refine fG.yes (flat_map (fun _ => rfl) _) ?_ | refine fG.bool (fun _ => ?_) (fun _ => ?_) | refine gS64 ?_ | refine gU8 ?_ | refine gI2 ?_ | refine fE.of rfl ?_ | refine gBq ?_ | refine gNum2 ?_ | refine gSet ?_ | refine gRd ?_ | refine gLk ?_ | refine gRow2 ?_ | refine fB.of (wide_map (fun _ => rfl) _) ?_ | refine fB.of (full_map (fun _ => rfl) _) ?_ | refine gRf ?_)) <;> (try (conv => whnf)))
  case refine_1.refine_1 h hx => rw [findIdx_here (by omega) hall (by simpa using hx)]
  case refine_1.refine_2 h hx =>
    refine ⟨⟨i + 1, (by (try dsimp only [cond_true, cond_false]); exact ⟨⟨rfl, rfl, rfl, rfl, trivial⟩, ⟨rfl, trivial⟩⟩), ?_, ?_⟩⟩
    · exact ⟨by omega, findIdx_step (by omega) hall (by simpa using hx)⟩
    · omega
  case refine_2 h => rw [findIdx_none (by omega) hall]
theorem ok_slices_Contains_byte (k : Nat) (l : List Int) (v : Int) (hl : l.length ≤ 100000000000) : callE PR C (k + 2) 110 [.h 1000000 0 0 [] 1 0 l.length, .s (.int .u8 v)] [.tree 0 (.sl 1 (l.map rB))] = some ⟨bl (l.any fun x => decide (v = x)), [], [none]⟩ := by
  (refine callE_is (callE_w [ResultVar.tmp 4] rfl Try.func110 rfl (by decide +kernel) rfl (by simp) ?_); (conv => whnf))
  repeat' ((with_reducible (first | refine sCall.of (ok_slices_Index_byte _ _ _ hl) ?_ | refine gP ?_ | refine gN ?_ | refine fG.split (fun _ => ?_) (fun _ => ?_) | refine fG.not ?_ | refine gY ?_ | refine gF ?_ | refine fG.yes (flat_map (fun _ => rfl) _) ?_ | refine fG.bool (fun _ => ?_) (fun _ => ?_) | refine gS64 ?_ | refine gU8 ?_ | refine gI2 ?_ | refine fE.of rfl ?_ | refine gBq ?_ | refine gNum2 ?_ | refine gSet ?_ | refine gRd ?_ | refine gLk ?_ | refine gRow2 ?_ | refine fB.of (wide_map (fun _ => rfl) _) ?_ | refine fB.of (full_map (fun _ => rfl) _) ?_ | refine gRf ?_)) <;> (try (conv => whnf)))
  rw [← idxP_any]
theorem formL_len (op : Int) : (formL op).length ≤ 3 := by
  unfold formL; repeat' split
  all_goals simp
def hasB (op part : Int) : Bool := (ints (formL op)).any fun x => decide (part = x)
theorem ok_impl_has (k : Nat) (op part : Int) : callE PR C (k + 3) 101 [i64 op, .s (.int .u8 part)] [] = some ⟨bl (hasB op part), [], []⟩ := by
  have := formL_len op
  rw [← ints_length] at this
  have h2 : (ints (formL op)).length ≤ 100000000000 := by omega
  (refine callE_is (callE_w [ResultVar.tmp 4] rfl Try.func101 rfl (by decide +kernel) rfl (by simp) ?_); (conv => whnf))
  repeat' ((with_reducible (first | refine sCall.of (ok_impl_form _ _) ?_ | refine sCall.of (ok_slices_Contains_byte _ _ _ h2) ?_ | refine gP ?_ | refine gN ?_ | refine fG.split (fun _ => ?_) (fun _ => ?_) | refine fG.not ?_ | refine gY ?_ | refine gF ?_ | refine fG.yes (flat_map (fun _ => rfl) _) ?_ | refine fG.bool (fun _ => ?_) (fun _ => ?_) | refine gS64 ?_ | refine gU8 ?_ | refine gI2 ?_ | refine fE.of rfl ?_ | refine gBq ?_ | refine gNum2 ?_ | refine gSet ?_ | refine gRd ?_ | refine gLk ?_ | refine gRow2 ?_ | refine fB.of (wide_map (fun _ => rfl) _) ?_ | refine fB.of (full_map (fun _ => rfl) _) ?_ | refine gRf ?_)) <;> (try (conv => whnf)))
  rfl

set_option maxHeartbeats 4000000 in
theorem ok_spec_InsOk (k : Nat) (x : Ins) (places procs : Int) (hp : -9000000000000000000 ≤ procs) (hp1 : procs ≤ 9000000000000000000) : callE PR C (k + 3) 97 [aIns x, i64 places, i64 procs] [] = some ⟨bl (insOk x places procs), [], []⟩ := by
  (refine callE_is (callE_w [ResultVar.tmp 6] rfl Try.func97 rfl (by decide +kernel) rfl (by simp) ?_); (conv => whnf))
  repeat' ((with_reducible (first | refine sCall.of (ok_spec_l1In _ _ _ _) ?_ | refine sCall.of (ok_spec_l1Num _ _) ?_ | refine gP ?_ | refine gN ?_ | refine fG.split (fun _ => ?_) (fun _ => ?_) | refine fG.not ?_ | refine gY ?_ | refine gF ?_ | refine fG.yes (flat_map (fun _ => rfl) _) ?_ | refine fG.bool (fun _ => ?_) (fun _ => ?_) | refine gS64 ?_ | refine gU8 ?_ | refine gI2 ?_ | refine fE.of rfl ?_ | refine gBq ?_ | refine gNum2 ?_ | refine gSet ?_ | refine gRd ?_ | refine gLk ?_ | refine gRow2 ?_ | refine fB.of (wide_map (fun _ => rfl) _) ?_ | refine fB.of (full_map (fun _ => rfl) _) ?_ | refine gRf ?_)) <;> (try (conv => whnf)))
  all_goals refine congrArg (fun q => (⟨bl q, [], []⟩ : Res)) ?_
  all_goals first
    | (simp only [insOk, inB, numOk, *, decide_true, decide_false, decide_not, Bool.and_assoc, Bool.or_assoc, Bool.true_and, Bool.false_and, Bool.and_true, Bool.and_false, Bool.true_or, Bool.false_or, Bool.or_true, Bool.or_false, Bool.not_true, Bool.not_false, Bool.not_not, if_true, if_false, reduceIte, true_and, and_true, false_and, and_false, true_or, or_true, or_false, false_or, and_self, or_self, not_true_eq_false, not_false_eq_true, Int.reduceEq, Int.reduceNe, Int.reduceLT, Int.reduceLE, Int.reduceNeg, ↓reduceIte]; done)
    | (simp [insOk, inB, numOk, *]; done)
    | (simp [insOk, inB, numOk, *]; omega)

abbrev hIns (j : Nat) (l : List Ins) : AV := .h (1000000 + j) 0 0 [] 5 0 l.length
abbrev tIns (l : List Ins) : Cont := .tree 0 (.sl 5 (l.map rIns))
theorem ok_spec_ProgOk (k : Nat) (l : List Ins) (procs : Int) (hl : l.length ≤ 100000000000) (hp : -9000000000000000000 ≤ procs) (hp1 : procs ≤ 9000000000000000000) : callE PR C (k + 4) 74 [hIns 0 l, i64 procs] [tIns l] = some ⟨bl (progOk l procs), [], [none]⟩ := by
  (refine callE_is (callE_w [ResultVar.tmp 4] rfl Try.func74 rfl (by decide +kernel) rfl (by simp) ?_); (conv => whnf))
  refine loop_rule (ι := Nat) (fun i => [(0, hIns 0 l), (1, i64 procs), (5, i64 i)]) (fun i => [(1000000, ⟨0, 0, false, tIns l⟩)]) (fun i => l.length - i) (fun i => i ≤ l.length ∧ ((l.all fun x => insOk x l.length procs) = ((l.drop i).all fun x => insOk x l.length procs))) 0 (by (try dsimp only [cond_true, cond_false]); exact ⟨⟨rfl, rfl, rfl, trivial⟩, ⟨rfl, trivial⟩⟩) (by simp) (by simp [C]; omega) ?_
  rintro i sl ob ⟨hi, hall⟩
  (conv => whnf)
  repeat' ((with_reducible (first | refine sCall.of (ok_spec_l1In _ _ _ _) ?_ | refine sCall.of (ok_spec_InsOk _ _ _ _ hp hp1) ?_ | refine gP ?_ | refine gN ?_ | refine fG.split (fun _ => ?_) (fun _ => ?_) | refine fG.not ?_ | refine gY ?_ | refine gF ?_ | refine fG.yes (flat_map (fun _ => rfl) _) ?_ | refine fG.bool (fun _ => ?_) (fun _ => ?_) | refine gS64 ?_ | refine gU8 ?_ | refine gI2 ?_ | refine fE.of rfl ?_ | refine gBq ?_ | refine gNum2 ?_ | refine gSet ?_ | refine gRd ?_ | refine gLk ?_ | refine gRow2 ?_ | refine fB.of (wide_map (fun _ => rfl) _) ?_ | refine fB.of (full_map (fun _ => rfl) _) ?_ | refine gRf ?_)) <;> (try (conv => whnf)))
  case refine_1.refine_1 h hx =>
    refine ⟨⟨i + 1, (by (try dsimp only [cond_true, cond_false]); exact ⟨⟨rfl, rfl, rfl, trivial⟩, ⟨rfl, trivial⟩⟩), ?_, ?_⟩⟩
    · exact ⟨by omega, by rw [hall, drop_rd (by omega : i < l.length)]; simp [hx]⟩
    · omega
  case refine_1.refine_2 h hx =>
    rw [drop_rd (by omega : i < l.length)] at hall
    simp [progOk, hall, hx]
  case refine_2.refine_1 h hx =>
    have e : l.drop i = [] := by simp; omega
    rw [e] at hall
    simp [progOk, hall, inB]; omega
  case refine_2.refine_2 h hx => simp [progOk]; omega

theorem ok_impl_numOk (k : Nat) (x : Int) : callE PR C (k + 2) 102 [i64 x] [] = some ⟨bl (numOk x), [], []⟩ := by
  (refine callE_is (callE_w [ResultVar.tmp 2] rfl Try.func102 rfl (by decide +kernel) rfl (by simp) ?_); (conv => whnf))
  repeat' ((with_reducible (first | refine sCall.of (ok_impl_in _ _ _ _) ?_ | refine gP ?_ | refine gN ?_ | refine fG.split (fun _ => ?_) (fun _ => ?_) | refine fG.not ?_ | refine gY ?_ | refine gF ?_ | refine fG.yes (flat_map (fun _ => rfl) _) ?_ | refine fG.bool (fun _ => ?_) (fun _ => ?_) | refine gS64 ?_ | refine gU8 ?_ | refine gI2 ?_ | refine fE.of rfl ?_ | refine gBq ?_ | refine gNum2 ?_ | refine gSet ?_ | refine gRd ?_ | refine gLk ?_ | refine gRow2 ?_ | refine fB.of (wide_map (fun _ => rfl) _) ?_ | refine fB.of (full_map (fun _ => rfl) _) ?_ | refine gRf ?_)) <;> (try (conv => whnf)))
  rfl
theorem ok_impl_regOk (k : Nat) (n : Int) (had : Bool) : callE PR C (k + 2) 100 [i64 n, bl had] [] = some ⟨bl (decide (n = 0) || (had && inB n 0 3)), [], []⟩ := by
  (refine callE_is (callE_w [ResultVar.tmp 4] rfl Try.func100 rfl (by decide +kernel) rfl (by simp) ?_); (conv => whnf))
  cases had
  all_goals (conv => whnf)
  all_goals repeat' ((with_reducible (first | refine sCall.of (ok_impl_in _ _ _ _) ?_ | refine gP ?_ | refine gN ?_ | refine fG.split (fun _ => ?_) (fun _ => ?_) | refine fG.not ?_ | refine gY ?_ | refine gF ?_ | refine fG.yes (flat_map (fun _ => rfl) _) ?_ | refine fG.bool (fun _ => ?_) (fun _ => ?_) | refine gS64 ?_ | refine gU8 ?_ | refine gI2 ?_ | refine fE.of rfl ?_ | refine gBq ?_ | refine gNum2 ?_ | refine gSet ?_ | refine gRd ?_ | refine gLk ?_ | refine gRow2 ?_ | refine fB.of (wide_map (fun _ => rfl) _) ?_ | refine fB.of (full_map (fun _ => rfl) _) ?_ | refine gRf ?_)) <;> (try (conv => whnf)))
  all_goals first | rfl | (simp [inB, *]; done) | trace_state
def insOkI (x : Ins) (places procs : Int) : Bool :=
  decide (1 ≤ x.op ∧ x.op ≤ 11) && (decide (1 ≤ procs ∧ procs ≤ 4) && ((decide (x.r = 0) || (hasB x.op 82 && inB x.r 0 3)) && ((decide (x.a = 0) || (hasB x.op 65 && inB x.a 0 3)) && ((decide (x.b = 0) || (hasB x.op 66 && inB x.b 0 3)) &&
    (if hasB x.op 78 then numOk x.n else if hasB x.op 80 then decide (0 ≤ x.n ∧ x.n ≤ procs - 1) else if hasB x.op 84 then decide (x.n = 9) || decide (0 ≤ x.n ∧ x.n ≤ procs - 1) else if hasB x.op 76 then decide (0 ≤ x.n) && decide (x.n < places) else decide (x.n = 0))))))
theorem insOkI_eq (x : Ins) (places procs : Int) : insOkI x places procs = insOk x places procs := by
  obtain ⟨op, r, a, b, n⟩ := x
  have hop : op = 1 ∨ op = 2 ∨ op = 3 ∨ op = 4 ∨ op = 5 ∨ op = 6 ∨ op = 7 ∨ op = 8 ∨ op = 9 ∨ op = 10 ∨ op = 11 ∨ ¬ (1 ≤ op ∧ op ≤ 11) := by omega
  rcases hop with rfl | rfl | rfl | rfl | rfl | rfl | rfl | rfl | rfl | rfl | rfl | h
  case inr.inr.inr.inr.inr.inr.inr.inr.inr.inr.inr =>
    have h1 : ¬ op = 1 := by omega
    have h2 : ¬ (op = 2 ∨ op = 3 ∨ op = 4 ∨ op = 5) := by omega
    have h6 : ¬ op = 6 := by omega
    have h7 : ¬ op = 7 := by omega
    have h8 : ¬ op = 8 := by omega
    have h9 : ¬ op = 9 := by omega
    have h10 : ¬ op = 10 := by omega
    have h11 : ¬ op = 11 := by omega
    simp only [insOkI, insOk, h, h1, h2, h6, h7, h8, h9, h10, h11, decide_false, if_false, Bool.false_and, Bool.and_false]
  all_goals rw [Bool.eq_iff_iff]
  all_goals simp [insOkI, insOk, hasB, ints, formL, inB, numOk]
  all_goals omega
set_option maxHeartbeats 4000000 in
theorem ok_impl_InsOk (k : Nat) (x : Ins) (places procs : Int) (hp : -9000000000000000000 ≤ procs) (hp1 : procs ≤ 9000000000000000000) : callE PR C (k + 4) 78 [aIns x, i64 places, i64 procs] [] = some ⟨bl (insOk x places procs), [], []⟩ := by
  rw [← insOkI_eq]
  (refine callE_is (callE_w [ResultVar.tmp 6] rfl Try.func78 rfl (by decide +kernel) rfl (by simp) ?_); (conv => whnf))
  repeat' ((with_reducible (first | refine sCall.of (ok_impl_in _ _ _ _) ?_ | refine sCall.of (ok_impl_regOk _ _ _) ?_ | refine sCall.of (ok_impl_form _ _) ?_ | refine sCall.of (ok_impl_has _ _ _) ?_ | refine sCall.of (ok_impl_numOk _ _) ?_ | refine gP ?_ | refine gN ?_ | refine fG.split (fun _ => ?_) (fun _ => ?_) | refine fG.not ?_ | refine gY ?_ | refine gF ?_ | refine fG.yes (flat_map (fun _ => rfl) _) ?_ | refine fG.bool (fun _ => ?_) (fun _ => ?_) | refine gS64 ?_ | refine gU8 ?_ | refine gI2 ?_ | refine fE.of rfl ?_ | refine gBq ?_ | refine gNum2 ?_ | refine gSet ?_ | refine gRd ?_ | refine gLk ?_ | refine gRow2 ?_ | refine fB.of (wide_map (fun _ => rfl) _) ?_ | refine fB.of (full_map (fun _ => rfl) _) ?_ | refine gRf ?_ | refine sDraw.mk' (id := 2) [(9, 12), (18, 21), (27, 30)] (ty := tys) rfl (by decide +kernel) ?_)) <;> (try (conv => whnf)))
  all_goals refine congrArg (fun q => (⟨bl q, [], []⟩ : Res)) ?_
  all_goals first
    | (simp only [insOkI, *, decide_true, decide_false, decide_not, Bool.and_assoc, Bool.or_assoc, Bool.true_and, Bool.false_and, Bool.and_true, Bool.and_false, Bool.true_or, Bool.false_or, Bool.or_true, Bool.or_false, Bool.not_true, Bool.not_false, Bool.not_not, if_true, if_false, reduceIte, true_and, and_true, false_and, and_false, true_or, or_true, or_false, false_or, and_self, or_self, not_true_eq_false, not_false_eq_true, Int.reduceEq, Int.reduceNe, Int.reduceLT, Int.reduceLE, Int.reduceNeg, ↓reduceIte]; done)
    | (simp [insOkI, *]; done)
    | trace_state

abbrev aProg (l : List Ins) (procs : Int) : List AV := [.pt 1000002 0 0 [] 0 0, .pt 1000003 0 0 [] 0 0]
theorem ok_impl_ProgOk1 (k : Nat) (x : Ins) (l : List Ins) (procs : Int) (hp : -9000000000000000000 ≤ procs) (hp1 : procs ≤ 9000000000000000000) :
    callE PR C (k + 5) 77 [aIns x, .pt 1000001 0 0 [] 0 0, .pt 1000002 0 0 [] 0 0] [tIns l, .box [hIns 0 l], .box [i64 procs]] = some ⟨bl (!insOk x l.length procs), [], [none, some (.box [hIns 0 l]), some (.box [i64 procs])]⟩ := by
  (refine callE_is (callE_w [ResultVar.tmp 4] rfl Try.func77 rfl (by decide +kernel) rfl (by simp) ?_); (conv => whnf))
  repeat' ((with_reducible (first | refine sCall.of (ok_impl_InsOk _ _ _ _ hp hp1) ?_ | refine gP ?_ | refine gN ?_ | refine fG.split (fun _ => ?_) (fun _ => ?_) | refine fG.not ?_ | refine gY ?_ | refine gF ?_ | refine fG.yes (flat_map (fun _ => rfl) _) ?_ | refine fG.bool (fun _ => ?_) (fun _ => ?_) | refine gS64 ?_ | refine gU8 ?_ | refine gI2 ?_ | refine fE.of rfl ?_ | refine gBq ?_ | refine gNum2 ?_ | refine gSet ?_ | refine gRd ?_ | refine gLk ?_ | refine gRow2 ?_ | refine fB.of (wide_map (fun _ => rfl) _) ?_ | refine fB.of (full_map (fun _ => rfl) _) ?_ | refine gRf ?_)) <;> (try (conv => whnf)))
theorem ok_IndexFunc_Ins (k : Nat) (l : List Ins) (procs : Int) (hl : l.length ≤ 100000000000) (hp : -9000000000000000000 ≤ procs) (hp1 : procs ≤ 9000000000000000000) :
    callE PR C (k + 6) 98 [hIns 0 l, .fn 77 [.pt 1000002 0 0 [] 0 0, .pt 1000003 0 0 [] 0 0]] [tIns l, tIns l, .box [hIns 1 l], .box [i64 procs]] =
      some ⟨i64 (idxP (fun x => !insOk x l.length procs) l), [], [none, none, some (.box [hIns 1 l]), some (.box [i64 procs])]⟩ := by
  (refine callE_is (callE_w [ResultVar.tmp 4] rfl Try.func98 rfl (by decide +kernel) rfl (by simp) ?_); (conv => whnf))
  refine loop_rule (ι := Nat × Bool × Bool) (fun i => [(0, hIns 0 l), (1, .fn 77 [.pt 1000002 0 0 [] 0 0, .pt 1000003 0 0 [] 0 0]), (7, i64 l.length), (8, i64 i.1)]) (fun i => [(1000000, ⟨0, 0, false, tIns l⟩), (1000001, ⟨0, 0, false, tIns l⟩), (1000002, ⟨0, 0, i.2.1, .box [hIns 1 l]⟩), (1000003, ⟨0, 0, i.2.2, .box [i64 procs]⟩)]) (fun i => l.length - i.1) (fun i => i.1 ≤ l.length ∧ l.findIdx? (fun x => !insOk x l.length procs) = ((l.drop i.1).findIdx? (fun x => !insOk x l.length procs)).map (· + i.1)) (0, false, false) (by (try dsimp only [cond_true, cond_false]); exact ⟨⟨rfl, rfl, rfl, rfl, trivial⟩, ⟨rfl, rfl, rfl, rfl, trivial⟩⟩) (by simp) (by simp [C]; omega) ?_
  rintro ⟨i, d1, d2⟩ sl ob ⟨hi, hall⟩
  dsimp only at hi hall
  (conv => whnf)
  repeat' ((with_reducible (first | refine sCall.of (ok_impl_ProgOk1 _ _ _ _ hp hp1) ?_ | refine gP ?_ | refine gN ?_ | refine fG.split (fun _ => ?_) (fun _ => ?_) | refine fG.not ?_ | refine gY ?_ | refine gF ?_ | refine fG.yes (flat_map (fun _ => rfl) _) ?_ | refine fG.bool (fun _ => ?_) (fun _ => ?_) | refine gS64 ?_ | refine gU8 ?_ | refine gI2 ?_ | refine fE.of rfl ?_ | refine gBq ?_ | refine gNum2 ?_ | refine gSet ?_ | refine gRd ?_ | refine gLk ?_ | refine gRow2 ?_ | refine fB.of (wide_map (fun _ => rfl) _) ?_ | refine fB.of (full_map (fun _ => rfl) _) ?_ | refine gRf ?_)) <;> (try (conv => whnf)))
  case refine_1.refine_1 h hx =>
    refine ⟨⟨(i + 1, _, _), (by (try dsimp only [cond_true, cond_false]); exact ⟨⟨rfl, rfl, rfl, rfl, trivial⟩, ⟨rfl, rfl, rfl, rfl, trivial⟩⟩), ?_, ?_⟩⟩
    · exact ⟨by dsimp only at *; omega, findIdx_step (by dsimp only at *; omega) hall (by simp [hx])⟩
    · dsimp only at *; omega
  case refine_1.refine_2 h hx => rw [findIdx_here (by dsimp only at *; omega) hall (by simp [hx])]
  case refine_2 h => rw [findIdx_none (by dsimp only at *; omega) hall]
theorem ok_ContainsFunc_Ins (k : Nat) (l : List Ins) (procs : Int) (hl : l.length ≤ 100000000000) (hp : -9000000000000000000 ≤ procs) (hp1 : procs ≤ 9000000000000000000) :
    callE PR C (k + 7) 76 [hIns 0 l, .fn 77 [.pt 1000002 0 0 [] 0 0, .pt 1000003 0 0 [] 0 0]] [tIns l, tIns l, .box [hIns 1 l], .box [i64 procs]] =
      some ⟨bl (l.any fun x => !insOk x l.length procs), [], [none, none, some (.box [hIns 1 l]), some (.box [i64 procs])]⟩ := by
  (refine callE_is (callE_w [ResultVar.tmp 4] rfl Try.func76 rfl (by decide +kernel) rfl (by simp) ?_); (conv => whnf))
  repeat' ((with_reducible (first | refine sCall.of (ok_IndexFunc_Ins _ _ _ hl hp hp1) ?_ | refine gP ?_ | refine gN ?_ | refine fG.split (fun _ => ?_) (fun _ => ?_) | refine fG.not ?_ | refine gY ?_ | refine gF ?_ | refine fG.yes (flat_map (fun _ => rfl) _) ?_ | refine fG.bool (fun _ => ?_) (fun _ => ?_) | refine gS64 ?_ | refine gU8 ?_ | refine gI2 ?_ | refine fE.of rfl ?_ | refine gBq ?_ | refine gNum2 ?_ | refine gSet ?_ | refine gRd ?_ | refine gLk ?_ | refine gRow2 ?_ | refine fB.of (wide_map (fun _ => rfl) _) ?_ | refine fB.of (full_map (fun _ => rfl) _) ?_ | refine gRf ?_)) <;> (try (conv => whnf)))
  rw [← idxP_any]
theorem ok_impl_ProgOk (k : Nat) (l : List Ins) (procs : Int) (hl : l.length ≤ 100000000000) (hp : -9000000000000000000 ≤ procs) (hp1 : procs ≤ 9000000000000000000) : callE PR C (k + 8) 52 [hIns 0 l, i64 procs] [tIns l] = some ⟨bl (progOk l procs), [], [none]⟩ := by
  (refine callE_is (callE_w [ResultVar.tmp 4] rfl Try.func52 rfl (by decide +kernel) rfl (by simp) ?_); (conv => whnf))
  repeat' ((with_reducible (first | refine sCall.of (ok_impl_in _ _ _ _) ?_ | refine sCall.of (ok_ContainsFunc_Ins _ _ _ hl hp hp1) ?_ | refine gP ?_ | refine gN ?_ | refine fG.split (fun _ => ?_) (fun _ => ?_) | refine fG.not ?_ | refine gY ?_ | refine gF ?_ | refine fG.yes (flat_map (fun _ => rfl) _) ?_ | refine fG.bool (fun _ => ?_) (fun _ => ?_) | refine gS64 ?_ | refine gU8 ?_ | refine gI2 ?_ | refine fE.of rfl ?_ | refine gBq ?_ | refine gNum2 ?_ | refine gSet ?_ | refine gRd ?_ | refine gLk ?_ | refine gRow2 ?_ | refine fB.of (wide_map (fun _ => rfl) _) ?_ | refine fB.of (full_map (fun _ => rfl) _) ?_ | refine gRf ?_)) <;> (try (conv => whnf)))
  case refine_1 hlen =>
    have e : (l.any fun x => !insOk x l.length procs) = !(l.all fun x => insOk x l.length procs) := by rw [List.all_eq_not_any_not]; simp
    rw [e]
    have h0 : decide (1 ≤ l.length ∧ l.length ≤ 30) = true := by simp; omega
    simp only [progOk, h0, Bool.not_not, Bool.true_and]
    cases hb : inB procs 1 4 with
    | true => simp
    | false =>
      cases l with
      | nil => simp at hlen
      | cons x l => simp [insOk, hb]
  case refine_2 hlen =>
    have h0 : decide (1 ≤ l.length ∧ l.length ≤ 30) = false := by simp; omega
    simp [progOk, h0]

end Go.Proofs.Ytfeenmfehgljgaa.Abs
namespace Go.Proofs.Ytfeenmfehgljgaa.Abs
open Go Go.Proofs
set_option linter.unusedVariables false
set_option linter.unusedSimpArgs false
attribute [local irreducible] callE
/-- Model: states, events. -/
structure State where
  at_ : Int
  regs : List Int
  out : List Int
  code : Int
deriving DecidableEq
instance : Inhabited State := ⟨⟨0, [], [], 0⟩⟩
structure Event where
  kind : Int
  peer : Int
  v : Int
deriving DecidableEq
instance : Inhabited Event := ⟨⟨0, 0, 0⟩⟩
def rEvent (e : Event) : List T := [.v (.int .i64 e.kind), .v (.int .i64 e.peer), .v (.int .i64 e.v)]
def rState (s : State) : List T := [.v (.int .i64 s.at_), .sl 1 (s.regs.map rI), .sl 1 (s.out.map rI), .v (.int .i64 s.code)]
abbrev aEvent (e : Event) : AV := .ag [i64 e.kind, i64 e.peer, i64 e.v]
/-- A state as an argument: its lists are the arguments j, j + 1. -/
abbrev aState (j : Nat) (a : Int) (r o : List Int) (c : Int) : AV := .ag [i64 a, .h (1000000 + j) 0 0 [] 1 0 r.length, .h (1000001 + j) 0 0 [] 1 0 o.length, i64 c]
/-- A state that is told: its lists are the new objects j, j + 1. -/
abbrev nState (j : Nat) (a : Int) (r o : List Int) (c : Int) : AV := .ag [i64 a, .h (2000000 + j) 1 0 [] 1 0 r.length, .h (2000001 + j) 1 0 [] 1 0 o.length, i64 c]
abbrev nSt (j : Nat) (s : State) : AV := nState j s.at_ s.regs s.out s.code
abbrev tI (l : List Int) : Cont := .tree 0 (.sl 1 (l.map rI))
abbrev tI9 (l : List Int) : Cont := .tree 9 (.sl 1 (l.map rI))
abbrev hEvent (j : Nat) (l : List Event) : AV := .h (1000000 + j) 0 0 [] 3 0 l.length
abbrev tEvent (l : List Event) : Cont := .tree 0 (.sl 3 (l.map rEvent))
theorem snoc_rEvent (l : List Event) (a b c : Int) : l.map rEvent ++ [[.v (.int .i64 a), .v (.int .i64 b), .v (.int .i64 c)]] = (l ++ [(⟨a, b, c⟩ : Event)]).map rEvent := by simp [rEvent]
theorem snoc_rIns (l : List Ins) (a b c d e : Int) : l.map rIns ++ [[.v (.int .i64 a), .v (.int .i64 b), .v (.int .i64 c), .v (.int .i64 d), .v (.int .i64 e)]] = (l ++ [(⟨a, b, c, d, e⟩ : Ins)]).map rIns := by simp [rIns]
theorem gI3 {p A : Prop} (h : A) (e : p := by first | with_reducible assumption | omega | (simp only [Nat.zero_add, Nat.add_zero, Nat.sub_zero, Int.toNat_natCast, Int.toNat_zero, Int.toNat_one, List.length_map, List.length_nil, Int.reduceToNat, Nat.reduceAdd, Nat.reduceSub, Int.sub_zero, Int.reduceAdd, Int.reduceSub, Nat.sub_self, Int.toNat_natCast_add_one, bs_len, List.length_append, List.length_cons, List.length_set, List.length_replicate, List.length_range]; first | done | omega)) : sI p A := sI.mk e h
theorem gNum3 {r r' : Nat} {F : Nat → Prop} (h : F r') (e : r = r' := by first | (simp only [Nat.zero_add, Nat.add_zero, Nat.sub_zero, Int.toNat_natCast, Int.toNat_zero, Int.toNat_one, List.length_map, List.length_nil, Int.reduceToNat, Nat.reduceAdd, Nat.reduceSub, Int.sub_zero, Int.reduceAdd, Int.reduceSub, Nat.sub_self, Int.toNat_natCast_add_one, bs_len]; rfl) | rfl) : sN r F := sN.eq e h
theorem gRow3 {r r' : List (List T)} {F : List (List T) → Prop} (h : F r') (e : r = r' := by first | (simp only [Nat.add_zero, Nat.zero_add, Nat.reduceAdd, List.drop_zero, List.take_succ_cons, List.take_nil, List.drop_succ_cons, List.drop_nil, List.take_zero, List.nil_append, List.append_nil, List.map_nil, drop_suf, take_pre, drop_map, List.take_length, take_len_set, take_len_app, List.set_set, List.length_map, snoc_rEvent, snoc_rIns, bytesT_bs, snoc_rI, snoc_rB, snoc_rBool, set_rI, set_rBool, rep_rI, rep_rBool, map_app]; rfl) | rfl) : sR r F := sR.eq e h
/-- What is next of a state. -/
def next (l : List Ins) (s : State) : Event :=
  if (rd l s.at_.toNat).op = 6 then ⟨2, (rd l s.at_.toNat).n, rd s.regs (rd l s.at_.toNat).a.toNat⟩
  else if (rd l s.at_.toNat).op = 7 then ⟨3, (rd l s.at_.toNat).n, 0⟩
  else if (rd l s.at_.toNat).op = 8 then ⟨4, 0, rd s.regs (rd l s.at_.toNat).a.toNat⟩
  else ⟨1, 0, 0⟩
def comes (e want : Event) : Bool :=
  if want.kind = 3 ∧ e.kind = 3 then numOk e.v && ((decide (e.peer = want.peer) && !decide (want.peer = 9)) || (decide (want.peer = 9) && inB e.peer 0 3)) else decide (e = want)
def reckoned (x : Ins) (r : List Int) : Int :=
  if x.op = 1 then x.n else if x.op = 2 then rd r x.a.toNat + rd r x.b.toNat else if x.op = 3 then rd r x.a.toNat - rd r x.b.toNat else if x.op = 4 then rd r x.a.toNat * rd r x.b.toNat else if rd r x.a.toNat < rd r x.b.toNat then 1 else 0
def goesOn (n : Nat) (s : State) (at_ : Int) : State := if 0 ≤ at_ ∧ at_ ≤ (n : Int) - 1 then { s with at_ := at_ } else { s with code := 2 }
def did (l : List Ins) (s : State) (e : Event) : State :=
  if (rd l s.at_.toNat).op = 1 ∨ (rd l s.at_.toNat).op = 2 ∨ (rd l s.at_.toNat).op = 3 ∨ (rd l s.at_.toNat).op = 4 ∨ (rd l s.at_.toNat).op = 5 then
    (if numOk (reckoned (rd l s.at_.toNat) s.regs) = true then goesOn l.length { s with regs := s.regs.set (rd l s.at_.toNat).r.toNat (reckoned (rd l s.at_.toNat) s.regs) } (s.at_ + 1) else { s with code := 2 })
  else if (rd l s.at_.toNat).op = 7 then goesOn l.length { s with regs := s.regs.set (rd l s.at_.toNat).r.toNat e.v } (s.at_ + 1)
  else if (rd l s.at_.toNat).op = 8 then (if (60 : Int) ≤ (s.out.length : Int) then { s with code := 2 } else goesOn l.length { s with out := s.out ++ [e.v] } (s.at_ + 1))
  else if (rd l s.at_.toNat).op = 9 then goesOn l.length s (rd l s.at_.toNat).n
  else if (rd l s.at_.toNat).op = 10 then (if rd s.regs (rd l s.at_.toNat).a.toNat = 0 then goesOn l.length s (rd l s.at_.toNat).n else goesOn l.length s (s.at_ + 1))
  else if (rd l s.at_.toNat).op = 11 then { s with code := 1 }
  else goesOn l.length s (s.at_ + 1)
/-- A state of a program that is right. -/
structure SOk (n : Nat) (s : State) : Prop where
  at0 : 0 ≤ s.at_
  at1 : s.at_ < n
  regs : s.regs.length = 4
  out : s.out.length ≤ 60
  nums : ∀ i, i < 4 → -1000000000 ≤ rd s.regs i ∧ rd s.regs i ≤ 1000000000
/-- An instruction within bounds. -/
structure IOk (n : Nat) (x : Ins) : Prop where
  r : 0 ≤ x.r ∧ x.r ≤ 3
  a : 0 ≤ x.a ∧ x.a ≤ 3
  b : 0 ≤ x.b ∧ x.b ≤ 3
  op : 1 ≤ x.op ∧ x.op ≤ 11
  num : -1000000000 ≤ x.n ∧ x.n ≤ 1000000000
  peer : x.op = 6 → 0 ≤ x.n ∧ x.n ≤ 3
  take : x.op = 7 → 0 ≤ x.n ∧ x.n ≤ 3 ∨ x.n = 9
  jump : x.op = 9 ∨ x.op = 10 → 0 ≤ x.n ∧ x.n < n
theorem insOk_iok {x : Ins} {n : Nat} (hn : n ≤ 30) (h : insOk x n 4 = true) : IOk n x := by
  simp only [insOk, inB, numOk, Bool.and_eq_true, decide_eq_true_eq, Bool.or_eq_true] at h
  obtain ⟨⟨⟨⟨h1, h2⟩, h3⟩, h4⟩, h⟩ := h
  have : (1 ≤ x.op ∧ x.op ≤ 11) ∧ (-1000000000 ≤ x.n ∧ x.n ≤ 1000000000) ∧ (x.op = 6 → 0 ≤ x.n ∧ x.n ≤ 3) ∧ (x.op = 7 → 0 ≤ x.n ∧ x.n ≤ 3 ∨ x.n = 9) ∧ (x.op = 9 ∨ x.op = 10 → 0 ≤ x.n ∧ x.n < n) := by
    repeat' split at h
    all_goals try simp only [Bool.and_eq_true, decide_eq_true_eq, Bool.or_eq_true] at h
    all_goals first | (exfalso; cases h; done) | (refine ⟨?_, ?_, fun _ => ?_, fun _ => ?_, fun _ => ?_⟩ <;> omega)
  exact ⟨h1, h2, h3, this.1, this.2.1, this.2.2.1, this.2.2.2.1, this.2.2.2.2⟩
theorem progOk_len {l : List Ins} {p : Int} (h : progOk l p = true) : 1 ≤ l.length ∧ l.length ≤ 30 := by
  simp only [progOk, Bool.and_eq_true, decide_eq_true_eq] at h; exact h.1.1
theorem rd_map {α β : Type} [Inhabited α] [Inhabited β] {f : α → β} {l : List α} {n : Nat} (h : n < l.length) : rd (l.map f) n = f (rd l n) := by simp [rd, h]
theorem progOk_iok {l : List Ins} (h : progOk l 4 = true) {i : Nat} (hi : i < l.length) : IOk l.length (rd l i) := by
  have h1 := progOk_len h
  simp only [progOk, Bool.and_eq_true, List.all_eq_true] at h
  exact insOk_iok h1.2 (h.2 _ (rd_mem hi))

theorem ok_impl_next (k : Nat) (l : List Ins) (a : Int) (r o : List Int) (c : Int) (hl : l.length ≤ 100000000000) (hs : SOk l.length ⟨a, r, o, c⟩) (hi : IOk l.length (rd l a.toNat)) :
    callE PR C (k + 1) 80 [hIns 0 l, aState 1 a r o c] [tIns l, tI r, tI o] = some ⟨aEvent (next l ⟨a, r, o, c⟩), [], [none, none, none]⟩ := by
  have h0 : 0 ≤ a := hs.at0
  have h1 : a < l.length := hs.at1
  have h2 : r.length = 4 := hs.regs
  have h3 := hi.a
  (refine callE_is (callE_w [ResultVar.cell 4 90] rfl Try.func80 rfl (by decide +kernel) rfl (by simp) ?_); (conv => whnf))
  repeat' ((with_reducible (first | refine gP ?_ | refine gN ?_ | refine fG.split (fun _ => ?_) (fun _ => ?_) | refine fG.not ?_ | refine gY ?_ | refine gF ?_ | refine fG.yes (flat_map (fun _ => rfl) _) ?_ | refine fG.bool (fun _ => ?_) (fun _ => ?_) | refine gS64 ?_ | refine gU8 ?_ | refine gI3 ?_ | refine fE.of rfl ?_ | refine gBq ?_ | refine gNum3 ?_ | refine gSet ?_ | refine gRd ?_ | refine gLk ?_ | refine gRow3 ?_ | refine fB.of (wide_map (fun _ => rfl) _) ?_ | refine fB.of (full_map (fun _ => rfl) _) ?_ | refine gRf ?_ | refine sDraw.none (id := 4) (ty := tys) rfl (by decide +kernel) ?_)) <;> (try (conv => whnf)))
  all_goals simp [next, *]
theorem ok_spec_l2Next (k : Nat) (l : List Ins) (a : Int) (r o : List Int) (c : Int) (hl : l.length ≤ 100000000000) (hs : SOk l.length ⟨a, r, o, c⟩) (hi : IOk l.length (rd l a.toNat)) :
    callE PR C (k + 1) 86 [hIns 0 l, aState 1 a r o c] [tIns l, tI r, tI o] = some ⟨aEvent (next l ⟨a, r, o, c⟩), [], [none, none, none]⟩ := by
  have h0 : 0 ≤ a := hs.at0
  have h1 : a < l.length := hs.at1
  have h2 : r.length = 4 := hs.regs
  have h3 := hi.a
  (refine callE_is (callE_w [ResultVar.cell 4 90] rfl Try.func86 rfl (by decide +kernel) rfl (by simp) ?_); (conv => whnf))
  repeat' ((with_reducible (first | refine gP ?_ | refine gN ?_ | refine fG.split (fun _ => ?_) (fun _ => ?_) | refine fG.not ?_ | refine gY ?_ | refine gF ?_ | refine fG.yes (flat_map (fun _ => rfl) _) ?_ | refine fG.bool (fun _ => ?_) (fun _ => ?_) | refine gS64 ?_ | refine gU8 ?_ | refine gI3 ?_ | refine fE.of rfl ?_ | refine gBq ?_ | refine gNum3 ?_ | refine gSet ?_ | refine gRd ?_ | refine gLk ?_ | refine gRow3 ?_ | refine fB.of (wide_map (fun _ => rfl) _) ?_ | refine fB.of (full_map (fun _ => rfl) _) ?_ | refine gRf ?_ | refine sDraw.none (id := 4) (ty := tys) rfl (by decide +kernel) ?_)) <;> (try (conv => whnf)))
  all_goals simp [next, *]
theorem event_eq (e w : Event) : decide (e = w) = (decide (e.kind = w.kind) && (decide (e.peer = w.peer) && decide (e.v = w.v))) := by
  obtain ⟨a, b, c⟩ := e
  obtain ⟨a', b', c'⟩ := w
  rw [Bool.eq_iff_iff]
  simp
theorem ok_impl_comes (k : Nat) (e w : Event) : callE PR C (k + 3) 79 [aEvent e, aEvent w] [] = some ⟨bl (comes e w), [], []⟩ := by
  (refine callE_is (callE_w [ResultVar.tmp 4] rfl Try.func79 rfl (by decide +kernel) rfl (by simp) ?_); (conv => whnf))
  repeat' ((with_reducible (first | refine sCall.of (ok_impl_numOk _ _) ?_ | refine sCall.of (ok_impl_in _ _ _ _) ?_ | refine gP ?_ | refine gN ?_ | refine fG.split (fun _ => ?_) (fun _ => ?_) | refine fG.not ?_ | refine gY ?_ | refine gF ?_ | refine fG.yes (flat_map (fun _ => rfl) _) ?_ | refine fG.bool (fun _ => ?_) (fun _ => ?_) | refine gS64 ?_ | refine gU8 ?_ | refine gI3 ?_ | refine fE.of rfl ?_ | refine gBq ?_ | refine gNum3 ?_ | refine gSet ?_ | refine gRd ?_ | refine gLk ?_ | refine gRow3 ?_ | refine fB.of (wide_map (fun _ => rfl) _) ?_ | refine fB.of (full_map (fun _ => rfl) _) ?_ | refine gRf ?_)) <;> (try (conv => whnf)))
  all_goals first | (simp only [comes, inB, event_eq, *, decide_true, decide_false, decide_not, Bool.and_assoc, Bool.or_assoc, Bool.true_and, Bool.false_and, Bool.and_true, Bool.and_false, Bool.true_or, Bool.false_or, Bool.or_true, Bool.or_false, Bool.not_true, Bool.not_false, Bool.not_not, if_true, if_false, reduceIte, true_and, and_true, false_and, and_false, true_or, or_true, or_false, false_or, and_self, or_self, not_true_eq_false, not_false_eq_true, Int.reduceEq, Int.reduceNe, Int.reduceLT, Int.reduceLE, Int.reduceNeg, ↓reduceIte]; done) | (simp [comes, inB, event_eq, *]; done) | skip
theorem mul_rng {a b : Int} (ha : -1000000000 ≤ a ∧ a ≤ 1000000000) (hb : -1000000000 ≤ b ∧ b ≤ 1000000000) : -1000000000000000000 ≤ a * b ∧ a * b ≤ 1000000000000000000 := by
  have h1 : (a * b).natAbs ≤ 1000000000 * 1000000000 := by
    rw [Int.natAbs_mul]
    exact Nat.mul_le_mul (by omega) (by omega)
  omega
theorem ok_impl_reckoned (k : Nat) (x : Ins) (r : List Int) (hr : r.length = 4) (ha : 0 ≤ x.a ∧ x.a ≤ 3) (hb : 0 ≤ x.b ∧ x.b ≤ 3) (hn : ∀ i, i < 4 → -1000000000 ≤ rd r i ∧ rd r i ≤ 1000000000) :
    callE PR C (k + 1) 103 [aIns x, .h 1000000 0 0 [] 1 0 r.length] [tI r] = some ⟨i64 (reckoned x r), [], [none]⟩ := by
  have n1 := hn x.a.toNat (by omega)
  have n2 := hn x.b.toNat (by omega)
  have hm : -1000000000000000000 ≤ rd r x.a.toNat * rd r x.b.toNat ∧ rd r x.a.toNat * rd r x.b.toNat ≤ 1000000000000000000 := mul_rng n1 n2
  (refine callE_is (callE_w [ResultVar.tmp 4] rfl Try.func103 rfl (by decide +kernel) rfl (by simp) ?_); (conv => whnf))
  repeat' ((with_reducible (first | refine gP ?_ | refine gN ?_ | refine fG.split (fun _ => ?_) (fun _ => ?_) | refine fG.not ?_ | refine gY ?_ | refine gF ?_ | refine fG.yes (flat_map (fun _ => rfl) _) ?_ | refine fG.bool (fun _ => ?_) (fun _ => ?_) | refine gS64 ?_ | refine gU8 ?_ | refine gI3 ?_ | refine fE.of rfl ?_ | refine gBq ?_ | refine gNum3 ?_ | refine gSet ?_ | refine gRd ?_ | refine gLk ?_ | refine gRow3 ?_ | refine fB.of (wide_map (fun _ => rfl) _) ?_ | refine fB.of (full_map (fun _ => rfl) _) ?_ | refine gRf ?_ | refine sDraw.none (id := 5) (ty := tys) rfl (by decide +kernel) ?_ | refine sDraw.none (id := 7) (ty := tys) rfl (by decide +kernel) ?_ | refine sDraw.none (id := 9) (ty := tys) rfl (by decide +kernel) ?_ | refine sDraw.none (id := 10) (ty := tys) rfl (by decide +kernel) ?_)) <;> (try (conv => whnf)))
  all_goals first | (simp only [reckoned, *, decide_true, decide_false, decide_not, Bool.and_assoc, Bool.or_assoc, Bool.true_and, Bool.false_and, Bool.and_true, Bool.and_false, Bool.true_or, Bool.false_or, Bool.or_true, Bool.or_false, Bool.not_true, Bool.not_false, Bool.not_not, if_true, if_false, reduceIte, true_and, and_true, false_and, and_false, true_or, or_true, or_false, false_or, and_self, or_self, not_true_eq_false, not_false_eq_true, Int.reduceEq, Int.reduceNe, Int.reduceLT, Int.reduceLE, Int.reduceNeg, ↓reduceIte]; done) | (simp [reckoned, *]; done) | skip
theorem goesOn_regs (n : Nat) (s : State) (a : Int) : (goesOn n s a).regs = s.regs := by unfold goesOn; split <;> rfl
theorem goesOn_out (n : Nat) (s : State) (a : Int) : (goesOn n s a).out = s.out := by unfold goesOn; split <;> rfl
theorem ok_impl_goesOn (k : Nat) (l : List Ins) (a : Int) (r o : List Int) (c x : Int) (hl : l.length ≤ 100000000000) : callE PR C (k + 2) 105 [hIns 0 l, aState 1 a r o c, i64 x] [tIns l, tI r, tI o] = some ⟨aState 1 (goesOn l.length ⟨a, r, o, c⟩ x).at_ r o (goesOn l.length ⟨a, r, o, c⟩ x).code, [], [none, none, none]⟩ := by
  (refine callE_is (callE_w [ResultVar.cell 6 39] rfl Try.func105 rfl (by decide +kernel) rfl (by simp) ?_); (conv => whnf))
  repeat' ((with_reducible (first | refine sCall.of (ok_impl_in _ _ _ _) ?_ | refine gP ?_ | refine gN ?_ | refine fG.split (fun _ => ?_) (fun _ => ?_) | refine fG.not ?_ | refine gY ?_ | refine gF ?_ | refine fG.yes (flat_map (fun _ => rfl) _) ?_ | refine fG.bool (fun _ => ?_) (fun _ => ?_) | refine gS64 ?_ | refine gU8 ?_ | refine gI3 ?_ | refine fE.of rfl ?_ | refine gBq ?_ | refine gNum3 ?_ | refine gSet ?_ | refine gRd ?_ | refine gLk ?_ | refine gRow3 ?_ | refine fB.of (wide_map (fun _ => rfl) _) ?_ | refine fB.of (full_map (fun _ => rfl) _) ?_ | refine gRf ?_)) <;> (try (conv => whnf)))
  all_goals first | (simp only [goesOn, *, decide_true, decide_false, decide_not, Bool.and_assoc, Bool.or_assoc, Bool.true_and, Bool.false_and, Bool.and_true, Bool.and_false, Bool.true_or, Bool.false_or, Bool.or_true, Bool.or_false, Bool.not_true, Bool.not_false, Bool.not_not, if_true, if_false, reduceIte, true_and, and_true, false_and, and_false, true_or, or_true, or_false, false_or, and_self, or_self, not_true_eq_false, not_false_eq_true, Int.reduceEq, Int.reduceNe, Int.reduceLT, Int.reduceLE, Int.reduceNeg, ↓reduceIte]; done) | (simp [goesOn, *]; done) | skip
theorem ok_Clone_int (k : Nat) (l : List Int) (hl : l.length ≤ 100000000000) : callE PR C (k + 1) 83 [.h 1000000 0 0 [] 1 0 l.length] [tI l] = some ⟨.h 2000000 1 0 [] 1 0 l.length, [tI9 l], [none]⟩ := by
  have := callE_prim (k := k) (f := 83) rfl (cloneP_run (sz := 1) (bytes := 8) (wide_map (f := rI) (fun _ => rfl) l) (flat_map (fun _ => rfl) l) (full_map (fun _ => rfl) l) (by simp; omega))
  simpa using this
theorem ok_impl_cloneState (k : Nat) (a : Int) (r o : List Int) (c : Int) (h1 : r.length ≤ 100000000000) (h2 : o.length ≤ 100000000000) : callE PR C (k + 2) 56 [aState 0 a r o c] [tI r, tI o] = some ⟨nState 0 a r o c, [tI9 r, tI9 o], [none, none]⟩ := by
  (refine callE_is (callE_w [ResultVar.cell 2 39] rfl Try.func56 rfl (by decide +kernel) rfl (by simp) ?_); (conv => whnf))
  repeat' ((with_reducible (first | refine sCall.of (ok_Clone_int _ _ h1) ?_ | refine sCall.of (ok_Clone_int _ _ h2) ?_ | refine gP ?_ | refine gN ?_ | refine fG.split (fun _ => ?_) (fun _ => ?_) | refine fG.not ?_ | refine gY ?_ | refine gF ?_ | refine fG.yes (flat_map (fun _ => rfl) _) ?_ | refine fG.bool (fun _ => ?_) (fun _ => ?_) | refine gS64 ?_ | refine gU8 ?_ | refine gI3 ?_ | refine fE.of rfl ?_ | refine gBq ?_ | refine gNum3 ?_ | refine gSet ?_ | refine gRd ?_ | refine gLk ?_ | refine gRow3 ?_ | refine fB.of (wide_map (fun _ => rfl) _) ?_ | refine fB.of (full_map (fun _ => rfl) _) ?_ | refine gRf ?_ | refine sDraw.mk' (id := 1) [(2, 4)] (ty := tys) rfl (by decide +kernel) ?_)) <;> (try (conv => whnf)))
theorem ok_impl_faulted (k : Nat) (a : Int) (r o : List Int) (c : Int) (h1 : r.length ≤ 100000000000) (h2 : o.length ≤ 100000000000) : callE PR C (k + 3) 104 [aState 0 a r o c] [tI r, tI o] = some ⟨nState 0 a r o 2, [tI9 r, tI9 o], [none, none]⟩ := by
  (refine callE_is (callE_w [ResultVar.cell 2 39] rfl Try.func104 rfl (by decide +kernel) rfl (by simp) ?_); (conv => whnf))
  repeat' ((with_reducible (first | refine sCall.of (ok_impl_cloneState _ _ _ _ _ h1 h2) ?_ | refine gP ?_ | refine gN ?_ | refine fG.split (fun _ => ?_) (fun _ => ?_) | refine fG.not ?_ | refine gY ?_ | refine gF ?_ | refine fG.yes (flat_map (fun _ => rfl) _) ?_ | refine fG.bool (fun _ => ?_) (fun _ => ?_) | refine gS64 ?_ | refine gU8 ?_ | refine gI3 ?_ | refine fE.of rfl ?_ | refine gBq ?_ | refine gNum3 ?_ | refine gSet ?_ | refine gRd ?_ | refine gLk ?_ | refine gRow3 ?_ | refine fB.of (wide_map (fun _ => rfl) _) ?_ | refine fB.of (full_map (fun _ => rfl) _) ?_ | refine gRf ?_)) <;> (try (conv => whnf)))

end Go.Proofs.Ytfeenmfehgljgaa.Abs
namespace Go.Proofs.Ytfeenmfehgljgaa.Abs
open Go Go.Proofs
set_option linter.unusedVariables false
set_option linter.unusedSimpArgs false
attribute [local irreducible] callE
set_option maxHeartbeats 4000000 in
theorem ok_impl_did (k : Nat) (l : List Ins) (a : Int) (r o : List Int) (c : Int) (e : Event) (hl : l.length ≤ 100000000000) (hs : SOk l.length ⟨a, r, o, c⟩) (hi : IOk l.length (rd l a.toNat)) :
    callE PR C (k + 4) 81 [hIns 0 l, aState 1 a r o c, aEvent e] [tIns l, tI r, tI o] = some ⟨nSt 0 (did l ⟨a, r, o, c⟩ e), [tI9 (did l ⟨a, r, o, c⟩ e).regs, tI9 (did l ⟨a, r, o, c⟩ e).out], [none, none, none]⟩ := by
  have h0 : 0 ≤ a := hs.at0
  have h1 : a < l.length := hs.at1
  have h2 : r.length = 4 := hs.regs
  have h3 : o.length ≤ 60 := hs.out
  have ha := hi.a
  have hb := hi.b
  have hr := hi.r
  have q1 : r.length ≤ 100000000000 := by omega
  have q2 : o.length ≤ 100000000000 := by omega
  (refine callE_is (callE_w [ResultVar.cell 6 39] rfl Try.func81 rfl (by decide +kernel) rfl (by simp) ?_); (conv => whnf))
  repeat' ((with_reducible (first | refine sCall.of (ok_impl_numOk _ _) ?_ | refine sCall.of (ok_impl_cloneState _ _ _ _ _ q1 q2) ?_ | refine sCall.of (ok_impl_faulted _ _ _ _ _ q1 q2) ?_ | refine sCall.of (ok_impl_reckoned _ _ _ h2 ha hb hs.nums) ?_ | refine sCall.of (ok_impl_goesOn _ _ _ _ _ _ _ hl) ?_ | refine gP ?_ | refine gN ?_ | refine fG.split (fun _ => ?_) (fun _ => ?_) | refine fG.not ?_ | refine gY ?_ | refine gF ?_ | refine fG.yes (flat_map (fun _ => rfl) _) ?_ | refine fG.bool (fun _ => ?_) (fun _ => ?_) | refine gS64 ?_ | refine gU8 ?_ | refine gI3 ?_ | refine fE.of rfl ?_ | refine gBq ?_ | refine gNum3 ?_ | refine gSet ?_ | refine gRd ?_ | refine gLk ?_ | refine gRow3 ?_ | refine fB.of (wide_map (fun _ => rfl) _) ?_ | refine fB.of (full_map (fun _ => rfl) _) ?_ | refine gRf ?_)) <;> (try (conv => whnf)))
  all_goals first | (simp only [did, goesOn_regs, goesOn_out, List.length_set, List.length_append, List.length_cons, List.length_nil, *, decide_true, decide_false, decide_not, Bool.and_assoc, Bool.or_assoc, Bool.true_and, Bool.false_and, Bool.and_true, Bool.and_false, Bool.true_or, Bool.false_or, Bool.or_true, Bool.or_false, Bool.not_true, Bool.not_false, Bool.not_not, if_true, if_false, reduceIte, true_and, and_true, false_and, and_false, true_or, or_true, or_false, false_or, and_self, or_self, not_true_eq_false, not_false_eq_true, Int.reduceEq, Int.reduceNe, Int.reduceLT, Int.reduceLE, Int.reduceNeg, ↓reduceIte]; done) | (simp [did, goesOn_regs, goesOn_out, *]; done) | skip

theorem ok_spec_l2Fault (k : Nat) (a : Int) (r o : List Int) (c : Int) : callE PR C (k + 1) 89 [aState 0 a r o c] [tI r, tI o] = some ⟨aState 0 a r o 2, [], [none, none]⟩ := by
  (refine callE_is (callE_w [ResultVar.cell 2 39] rfl Try.func89 rfl (by decide +kernel) rfl (by simp) ?_); (conv => whnf))
  repeat' ((with_reducible (first | refine gP ?_ | refine gN ?_ | refine fG.split (fun _ => ?_) (fun _ => ?_) | refine fG.not ?_ | refine gY ?_ | refine gF ?_ | refine fG.yes (flat_map (fun _ => rfl) _) ?_ | refine fG.bool (fun _ => ?_) (fun _ => ?_) | refine gS64 ?_ | refine gU8 ?_ | refine gI3 ?_ | refine fE.of rfl ?_ | refine gBq ?_ | refine gNum3 ?_ | refine gSet ?_ | refine gRd ?_ | refine gLk ?_ | refine gRow3 ?_ | refine fB.of (wide_map (fun _ => rfl) _) ?_ | refine fB.of (full_map (fun _ => rfl) _) ?_ | refine gRf ?_)) <;> (try (conv => whnf)))
theorem ok_spec_l2Go (k : Nat) (l : List Ins) (a : Int) (r o : List Int) (c : Int) (hl : l.length ≤ 100000000000) (h0 : 0 ≤ a) (h1 : a < l.length) :
    callE PR C (k + 2) 88 [hIns 0 l, aState 1 a r o c] [tIns l, tI r, tI o] = some ⟨aState 1 (goesOn l.length ⟨a, r, o, c⟩ (a + 1)).at_ r o (goesOn l.length ⟨a, r, o, c⟩ (a + 1)).code, [], [none, none, none]⟩ := by
  (refine callE_is (callE_w [ResultVar.cell 4 39] rfl Try.func88 rfl (by decide +kernel) rfl (by simp) ?_); (conv => whnf))
  repeat' ((with_reducible (first | refine sCall.of (ok_spec_l2Fault _ _ _ _ _) ?_ | refine gP ?_ | refine gN ?_ | refine fG.split (fun _ => ?_) (fun _ => ?_) | refine fG.not ?_ | refine gY ?_ | refine gF ?_ | refine fG.yes (flat_map (fun _ => rfl) _) ?_ | refine fG.bool (fun _ => ?_) (fun _ => ?_) | refine gS64 ?_ | refine gU8 ?_ | refine gI3 ?_ | refine fE.of rfl ?_ | refine gBq ?_ | refine gNum3 ?_ | refine gSet ?_ | refine gRd ?_ | refine gLk ?_ | refine gRow3 ?_ | refine fB.of (wide_map (fun _ => rfl) _) ?_ | refine fB.of (full_map (fun _ => rfl) _) ?_ | refine gRf ?_)) <;> (try (conv => whnf)))
  case refine_1 h =>
    have e : ¬ (0 ≤ a + 1 ∧ a + 1 ≤ (l.length : Int) - 1) := by omega
    simp only [goesOn, e, if_false]
  case refine_2 h =>
    have e : (0 ≤ a + 1 ∧ a + 1 ≤ (l.length : Int) - 1) := by omega
    simp only [goesOn, e, if_true, and_self]
theorem ok_spec_l2Copy (k : Nat) (a : Int) (r o : List Int) (c : Int) (h1 : r.length ≤ 100000000000) (h2 : o.length ≤ 100000000000) : callE PR C (k + 1) 67 [aState 0 a r o c] [tI r, tI o] = some ⟨nState 0 a r o c, [tI9 r, tI9 o], [none, none]⟩ := by
  (refine callE_is (callE_w [ResultVar.cell 2 39] rfl Try.func67 rfl (by decide +kernel) rfl (by simp) ?_); (conv => whnf))
  repeat' ((with_reducible (first | refine gP ?_ | refine gN ?_ | refine fG.split (fun _ => ?_) (fun _ => ?_) | refine fG.not ?_ | refine gY ?_ | refine gF ?_ | refine fG.yes (flat_map (fun _ => rfl) _) ?_ | refine fG.bool (fun _ => ?_) (fun _ => ?_) | refine gS64 ?_ | refine gU8 ?_ | refine gI3 ?_ | refine fE.of rfl ?_ | refine gBq ?_ | refine gNum3 ?_ | refine gSet ?_ | refine gRd ?_ | refine gLk ?_ | refine gRow3 ?_ | refine fB.of (wide_map (fun _ => rfl) _) ?_ | refine fB.of (full_map (fun _ => rfl) _) ?_ | refine gRf ?_)) <;> (try (conv => whnf)))
set_option maxHeartbeats 4000000 in
theorem ok_spec_l2Local (k : Nat) (l : List Ins) (a : Int) (r o : List Int) (c : Int) (hl : l.length ≤ 100000000000) (hs : SOk l.length ⟨a, r, o, c⟩) (hi : IOk l.length (rd l a.toNat)) (hop : ¬ ((rd l a.toNat).op = 6 ∨ (rd l a.toNat).op = 7 ∨ (rd l a.toNat).op = 8)) (e : Event) :
    callE PR C (k + 3) 90 [hIns 0 l, aState 1 a r o c] [tIns l, tI9 r, tI o] = some ⟨.ag [i64 (did l ⟨a, r, o, c⟩ e).at_, .h 2000000 1 0 [] 1 0 (did l ⟨a, r, o, c⟩ e).regs.length, .h 1000002 0 0 [] 1 0 o.length, i64 (did l ⟨a, r, o, c⟩ e).code], [tI9 (did l ⟨a, r, o, c⟩ e).regs], [none, some .dead, none]⟩ := by
  have h0 : 0 ≤ a := hs.at0
  have h1 : a < l.length := hs.at1
  have h2 : r.length = 4 := hs.regs
  have h3 : o.length ≤ 60 := hs.out
  have ha := hi.a
  have hb := hi.b
  have hr := hi.r
  have hj := hi.jump
  have hopr := hi.op
  have n1 := hs.nums (rd l a.toNat).a.toNat (by omega)
  have n2 := hs.nums (rd l a.toNat).b.toNat (by omega)
  simp only at n1 n2
  have hm := mul_rng n1 n2
  have q1 : r.length ≤ 100000000000 := by omega
  have q2 : o.length ≤ 100000000000 := by omega
  (refine callE_is (callE_w [ResultVar.cell 4 39] rfl Try.func90 rfl (by decide +kernel) rfl (by simp) ?_); (conv => whnf))
  repeat' ((with_reducible (first | refine sCall.of (ok_spec_l1Num _ _) ?_ | refine sCall.of (ok_spec_l2Fault _ _ _ _ _) ?_ | refine sCall.of (ok_spec_l2Go _ _ _ _ _ _ hl h0 h1) ?_ | refine gP ?_ | refine gN ?_ | refine fG.split (fun _ => ?_) (fun _ => ?_) | refine fG.not ?_ | refine gY ?_ | refine gF ?_ | refine fG.yes (flat_map (fun _ => rfl) _) ?_ | refine fG.bool (fun _ => ?_) (fun _ => ?_) | refine gS64 ?_ | refine gU8 ?_ | refine gI3 ?_ | refine fE.of rfl ?_ | refine gBq ?_ | refine gNum3 ?_ | refine gSet ?_ | refine gRd ?_ | refine gLk ?_ | refine gRow3 ?_ | refine fB.of (wide_map (fun _ => rfl) _) ?_ | refine fB.of (full_map (fun _ => rfl) _) ?_ | refine gRf ?_ | refine sDraw.none (id := 2) (ty := tys) rfl (by decide +kernel) ?_)) <;> (try (conv => whnf)))
  all_goals
    have hj9 : (rd l a.toNat).op = 9 ∨ (rd l a.toNat).op = 10 → goesOn l.length ⟨a, r, o, c⟩ (rd l a.toNat).n = ⟨(rd l a.toNat).n, r, o, c⟩ := by
      intro h
      have := hj h
      unfold goesOn
      rw [if_pos ⟨this.1, by omega⟩]
  all_goals have hj9' := fun h => hj9 (.inl h)
  all_goals have hj10' := fun h => hj9 (.inr h)
  all_goals try (have h5 : (rd l a.toNat).op = 5 := by omega)
  all_goals clear hj9 hj hop hopr hs hi
  all_goals first | (simp only [did, reckoned, numOk, decide_eq_true_eq, goesOn_regs, goesOn_out, List.length_set, List.length_append, List.length_cons, List.length_nil, *, decide_true, decide_false, decide_not, Bool.and_assoc, Bool.or_assoc, Bool.true_and, Bool.false_and, Bool.and_true, Bool.and_false, Bool.true_or, Bool.false_or, Bool.or_true, Bool.or_false, Bool.not_true, Bool.not_false, Bool.not_not, if_true, if_false, reduceIte, true_and, and_true, false_and, and_false, true_or, or_true, or_false, false_or, and_self, or_self, not_true_eq_false, not_false_eq_true, Int.reduceEq, Int.reduceNe, Int.reduceLT, Int.reduceLE, Int.reduceNeg, ↓reduceIte]; done) | (simp [did, reckoned, numOk, goesOn_regs, goesOn_out, *]; done) | skip
theorem did_out {l : List Ins} {s : State} {e : Event} (h : ¬ (rd l s.at_.toNat).op = 8) : (did l s e).out = s.out := by
  unfold did
  simp only [h, if_false]
  repeat' split
  all_goals simp only [goesOn_out]
theorem comes_take {e : Event} {n : Int} : comes e ⟨3, n, 0⟩ = true ↔ e.kind = 3 ∧ (-1000000000 ≤ e.v ∧ e.v ≤ 1000000000) ∧ (e.peer = n ∧ ¬ n = 9 ∨ n = 9 ∧ 0 ≤ e.peer ∧ e.peer ≤ 3) := by
  unfold comes
  by_cases h : e.kind = 3
  · simp [h, numOk, inB]
  · have : ¬ e = ⟨3, n, 0⟩ := fun h2 => h (by rw [h2])
    simp [h, this]
theorem comes_other {e w : Event} (h : ¬ w.kind = 3) : comes e w = (decide (e.kind = w.kind) && (decide (e.peer = w.peer) && (decide (e.v = w.v) && true))) := by
  simp only [comes, h, false_and, if_false, event_eq, Bool.and_true]
def doRes (l : List Ins) (a : Int) (r o : List Int) (c : Int) (e : Event) : Res :=
  if comes e (next l ⟨a, r, o, c⟩) = true then ⟨.tu [nSt 0 (did l ⟨a, r, o, c⟩ e), bl true], [tI9 (did l ⟨a, r, o, c⟩ e).regs, tI9 (did l ⟨a, r, o, c⟩ e).out], [none, none, none]⟩ else ⟨.tu [nState 0 a r o c, bl false], [tI9 r, tI9 o], [none, none, none]⟩
theorem doRes_true {l : List Ins} {a : Int} {r o : List Int} {c : Int} {e : Event} (h : comes e (next l ⟨a, r, o, c⟩) = true) : doRes l a r o c e = ⟨.tu [nSt 0 (did l ⟨a, r, o, c⟩ e), bl true], [tI9 (did l ⟨a, r, o, c⟩ e).regs, tI9 (did l ⟨a, r, o, c⟩ e).out], [none, none, none]⟩ := by simp only [doRes, h, if_true]
theorem doRes_false {l : List Ins} {a : Int} {r o : List Int} {c : Int} {e : Event} (h : comes e (next l ⟨a, r, o, c⟩) = false) : doRes l a r o c e = ⟨.tu [nState 0 a r o c, bl false], [tI9 r, tI9 o], [none, none, none]⟩ := by simp only [doRes, h, Bool.false_eq_true, if_false]
set_option maxHeartbeats 4000000 in
theorem ok_spec_l2Do (k : Nat) (l : List Ins) (a : Int) (r o : List Int) (c : Int) (e : Event) (hl : l.length ≤ 100000000000) (hs : SOk l.length ⟨a, r, o, c⟩) (hi : IOk l.length (rd l a.toNat)) :
    callE PR C (k + 4) 68 [hIns 0 l, aState 1 a r o c, aEvent e] [tIns l, tI r, tI o] = some (doRes l a r o c e) := by
  have h0 : 0 ≤ a := hs.at0
  have h1 : a < l.length := hs.at1
  have h2 : r.length = 4 := hs.regs
  have h3 : o.length ≤ 60 := hs.out
  have hr := hi.r
  have hop := hi.op
  have htk : ¬ (rd l a.toNat).op = 7 ∨ (0 ≤ (rd l a.toNat).n ∧ (rd l a.toNat).n ≤ 3) ∨ (rd l a.toNat).n = 9 := by
    by_cases h7 : (rd l a.toNat).op = 7
    · exact .inr (hi.take h7)
    · exact .inl h7
  have q1 : r.length ≤ 100000000000 := by omega
  have q2 : o.length ≤ 100000000000 := by omega
  have hq := fun k => ok_spec_l2Next k l a r o c hl hs hi
  have hcase : ((rd l a.toNat).op = 6 ∧ next l ⟨a, r, o, c⟩ = ⟨2, (rd l a.toNat).n, rd r (rd l a.toNat).a.toNat⟩) ∨ ((rd l a.toNat).op = 7 ∧ next l ⟨a, r, o, c⟩ = ⟨3, (rd l a.toNat).n, 0⟩) ∨ ((rd l a.toNat).op = 8 ∧ next l ⟨a, r, o, c⟩ = ⟨4, 0, rd r (rd l a.toNat).a.toNat⟩) ∨ (¬ ((rd l a.toNat).op = 6 ∨ (rd l a.toNat).op = 7 ∨ (rd l a.toNat).op = 8) ∧ next l ⟨a, r, o, c⟩ = ⟨1, 0, 0⟩) := by
    by_cases h6 : (rd l a.toNat).op = 6
    · left; simp [next, h6]
    · by_cases h7 : (rd l a.toNat).op = 7
      · right; left; simp [next, h7]
      · by_cases h8 : (rd l a.toNat).op = 8
        · right; right; left; simp [next, h8]
        · right; right; right; simp [next, h6, h7, h8]
  rcases hcase with ⟨h6, hn⟩ | ⟨h6, hn⟩ | ⟨h6, hn⟩ | ⟨h6, hn⟩
  all_goals simp only [hn] at hq
  all_goals (refine callE_is (callE_w [ResultVar.cell 6 39, ResultVar.tmp 7] rfl Try.func68 rfl (by decide +kernel) rfl (by simp) ?_); (conv => whnf))
  all_goals repeat' ((with_reducible (first | refine sCall.of (hq _) ?_ | refine sCall.of (ok_spec_l2Copy _ _ _ _ _ q1 q2) ?_ | refine sCall.of (ok_spec_l1Num _ _) ?_ | refine sCall.of (ok_spec_l1In _ _ _ _) ?_ | refine sCall.of (ok_spec_l2Fault _ _ _ _ _) ?_ | refine sCall.of (ok_spec_l2Go _ _ _ _ _ _ hl h0 h1) ?_ | refine sCall.of (ok_spec_l2Local _ _ _ _ _ _ hl hs hi h6 e) ?_ | refine gP ?_ | refine gN ?_ | refine fG.split (fun _ => ?_) (fun _ => ?_) | refine fG.not ?_ | refine gY ?_ | refine gF ?_ | refine fG.yes (flat_map (fun _ => rfl) _) ?_ | refine fG.bool (fun _ => ?_) (fun _ => ?_) | refine gS64 ?_ | refine gU8 ?_ | refine gI3 ?_ | refine fE.of rfl ?_ | refine gBq ?_ | refine gNum3 ?_ | refine gSet ?_ | refine gRd ?_ | refine gLk ?_ | refine gRow3 ?_ | refine fB.of (wide_map (fun _ => rfl) _) ?_ | refine fB.of (full_map (fun _ => rfl) _) ?_ | refine gRf ?_ | refine sDraw.none (id := 6) (ty := tys) rfl (by decide +kernel) ?_)) <;> (try (conv => whnf)))
  all_goals clear hq
  all_goals (try dsimp only at *)
  all_goals first
    | (exfalso; omega)
    | (rw [doRes_true (by rw [hn]; first | exact comes_take.2 (by omega) | (rw [comes_other (by simp)]; assumption))])
    | (rw [doRes_false (by rw [hn]; first | (rw [comes_other (by simp)]; assumption) | exact Bool.eq_false_iff.2 (fun h => by have := comes_take.1 h; omega))])
    | skip
  all_goals first | (simp only [did, goesOn_regs, goesOn_out, List.length_set, List.length_append, List.length_cons, List.length_nil, *, decide_true, decide_false, decide_not, Bool.and_assoc, Bool.or_assoc, Bool.true_and, Bool.false_and, Bool.and_true, Bool.and_false, Bool.true_or, Bool.false_or, Bool.or_true, Bool.or_false, Bool.not_true, Bool.not_false, Bool.not_not, if_true, if_false, reduceIte, true_and, and_true, false_and, and_false, true_or, or_true, or_false, false_or, and_self, or_self, not_true_eq_false, not_false_eq_true, Int.reduceEq, Int.reduceNe, Int.reduceLT, Int.reduceLE, Int.reduceNeg, ↓reduceIte]; done) | (simp [did, goesOn_regs, goesOn_out, *]; done) | skip
  case inr.inr.inl.refine_1.refine_2 =>
    have h60 : ¬ (60 : Int) ≤ (o.length : Int) := by omega
    simp [did, goesOn_regs, goesOn_out, h6, h60]
  case inr.inr.inr.refine_1 =>
    have := did_out (l := l) (s := ⟨a, r, o, c⟩) (e := e) (fun h => h6 (.inr (.inr h)))
    simp only at this
    simp [this]

end Go.Proofs.Ytfeenmfehgljgaa.Abs
namespace Go.Proofs.Ytfeenmfehgljgaa.Abs
open Go Go.Proofs
set_option linter.unusedVariables false
set_option linter.unusedSimpArgs false
attribute [local irreducible] callE
def newState : State := ⟨0, List.replicate 4 0, [], 0⟩
theorem ok_impl_StateNew (k : Nat) : callE PR C (k + 1) 54 [] [] = some ⟨nState 0 0 (List.replicate 4 0) [] 0, [tI9 (List.replicate 4 0), tI9 []], []⟩ := by
  (refine callE_is (callE_w [ResultVar.cell 0 39] rfl Try.func54 rfl (by decide +kernel) rfl (by simp) ?_); (conv => whnf))
  repeat' ((with_reducible (first | refine gP ?_ | refine gN ?_ | refine fG.split (fun _ => ?_) (fun _ => ?_) | refine fG.not ?_ | refine gY ?_ | refine gF ?_ | refine fG.yes (flat_map (fun _ => rfl) _) ?_ | refine fG.bool (fun _ => ?_) (fun _ => ?_) | refine gS64 ?_ | refine gU8 ?_ | refine gI3 ?_ | refine fE.of rfl ?_ | refine gBq ?_ | refine gNum3 ?_ | refine gSet ?_ | refine gRd ?_ | refine gLk ?_ | refine gRow3 ?_ | refine fB.of (wide_map (fun _ => rfl) _) ?_ | refine fB.of (full_map (fun _ => rfl) _) ?_ | refine gRf ?_)) <;> (try (conv => whnf)))
  first | rfl | skip
theorem ok_spec_StateNew (k : Nat) : callE PR C (k + 1) 94 [] [] = some ⟨nState 0 0 (List.replicate 4 0) [] 0, [tI9 (List.replicate 4 0), tI9 []], []⟩ := by
  (refine callE_is (callE_w [ResultVar.cell 0 39] rfl Try.func94 rfl (by decide +kernel) rfl (by simp) ?_); (conv => whnf))
  repeat' ((with_reducible (first | refine gP ?_ | refine gN ?_ | refine fG.split (fun _ => ?_) (fun _ => ?_) | refine fG.not ?_ | refine gY ?_ | refine gF ?_ | refine fG.yes (flat_map (fun _ => rfl) _) ?_ | refine fG.bool (fun _ => ?_) (fun _ => ?_) | refine gS64 ?_ | refine gU8 ?_ | refine gI3 ?_ | refine fE.of rfl ?_ | refine gBq ?_ | refine gNum3 ?_ | refine gSet ?_ | refine gRd ?_ | refine gLk ?_ | refine gRow3 ?_ | refine fB.of (wide_map (fun _ => rfl) _) ?_ | refine fB.of (full_map (fun _ => rfl) _) ?_ | refine gRf ?_)) <;> (try (conv => whnf)))
  first | rfl | skip
/-- The state behind events; none where one can't come. -/
def replay (l : List Ins) : State → List Event → Option State
  | s, [] => some s
  | s, e :: es => if s.code = 0 ∧ comes e (next l s) = true then replay l (did l s e) es else none
theorem did_ok {l : List Ins} {s : State} {e : Event} (hs : SOk l.length s) (hi : IOk l.length (rd l s.at_.toNat)) (hc : comes e (next l s) = true) : SOk l.length (did l s e) := by
  have hg : ∀ (s' : State) (x : Int), 0 ≤ s'.at_ → s'.at_ < l.length → s'.regs.length = 4 → s'.out.length ≤ 60 → (∀ i, i < 4 → -1000000000 ≤ rd s'.regs i ∧ rd s'.regs i ≤ 1000000000) → SOk l.length (goesOn l.length s' x) := by
    intro s' x h1 h2 h3 h4 h5
    unfold goesOn
    split
    · rename_i h; exact ⟨h.1, by show x < (l.length : Int); omega, h3, h4, h5⟩
    · exact ⟨h1, h2, h3, h4, h5⟩
  have hset : ∀ (j : Int) (v : Int), 0 ≤ j ∧ j ≤ 3 → -1000000000 ≤ v ∧ v ≤ 1000000000 → ∀ i, i < 4 → -1000000000 ≤ rd (s.regs.set j.toNat v) i ∧ rd (s.regs.set j.toNat v) i ≤ 1000000000 := by
    intro j v hj hv i hi
    have := hs.nums i hi
    have h4 := hs.regs
    simp only [rd, List.getD_eq_getElem?_getD, List.getElem?_set] at this ⊢
    split
    · rename_i e; subst e
      rw [if_pos (by omega)]; exact hv
    · exact this
  unfold did
  split
  · split
    · rename_i hn
      simp only [numOk, decide_eq_true_eq] at hn
      exact hg _ _ hs.at0 hs.at1 (by simp [hs.regs]) hs.out (hset _ _ hi.r hn)
    · exact ⟨hs.at0, hs.at1, hs.regs, hs.out, hs.nums⟩
  · rename_i h15
    split
    · rename_i h7
      have hn : next l s = ⟨3, (rd l s.at_.toNat).n, 0⟩ := by simp [next, h7]
      rw [hn, comes_take] at hc
      exact hg _ _ hs.at0 hs.at1 (by simp [hs.regs]) hs.out (hset _ _ hi.r hc.2.1)
    · split
      · split
        · exact ⟨hs.at0, hs.at1, hs.regs, hs.out, hs.nums⟩
        · exact hg _ _ hs.at0 hs.at1 hs.regs (by simp; omega) hs.nums
      · split
        · exact hg _ _ hs.at0 hs.at1 hs.regs hs.out hs.nums
        · split
          · split <;> exact hg _ _ hs.at0 hs.at1 hs.regs hs.out hs.nums
          · split
            · exact ⟨hs.at0, hs.at1, hs.regs, hs.out, hs.nums⟩
            · exact hg _ _ hs.at0 hs.at1 hs.regs hs.out hs.nums
theorem newState_ok {l : List Ins} (h : 1 ≤ l.length) : SOk l.length newState := by
  refine ⟨by simp [newState], by simp [newState]; omega, by simp [newState], by simp [newState], fun i hi => ?_⟩
  have : rd newState.regs i = 0 := by
    rcases i with _ | _ | _ | _ | i
    · rfl
    · rfl
    · rfl
    · rfl
    · omega
  rw [this]; omega
def replayedRes (l : List Ins) (a : Int) (r o : List Int) (c : Int) (es : List Event) : Res :=
  match replay l ⟨a, r, o, c⟩ es with
  | none => ⟨.tu [nState 0 0 [] [] 0, bl false], [tI9 [], tI9 []], [none, none, none, none]⟩
  | some s => if es.length = 0 then ⟨.tu [aState 1 a r o c, bl true], [], [none, none, none, none]⟩ else ⟨.tu [nSt 0 s, bl true], [tI9 s.regs, tI9 s.out], [none, none, none, none]⟩
/-- A round of a replay. -/
structure RI where
  i : Nat
  s : State
  f : Bool
  b1 : Nat
  b2 : Nat
  d : Bool
theorem replay_step {l : List Ins} {s : State} {es : List Event} {i : Nat} {x : Option State} (hi : i < es.length) (h : x = replay l s (es.drop i)) (hc : s.code = 0) (hk : comes (rd es i) (next l s) = true) : x = replay l (did l s (rd es i)) (es.drop (i + 1)) := by
  rw [h, drop_rd hi, replay, if_pos ⟨hc, hk⟩]
set_option maxHeartbeats 4000000 in
theorem ok_impl_replayed (k : Nat) (l : List Ins) (a : Int) (r o : List Int) (c : Int) (es : List Event) (hl : l.length ≤ 100000000000) (he : es.length ≤ 100000000000) (hs : SOk l.length ⟨a, r, o, c⟩) (hi : ∀ i, i < l.length → IOk l.length (rd l i)) :
    callE PR C (k + 5) 53 [hIns 0 l, aState 1 a r o c, hEvent 3 es] [tIns l, tI r, tI o, tEvent es] = some (replayedRes l a r o c es) := by
  (refine callE_is (callE_w [ResultVar.cell 6 39, ResultVar.tmp 7] rfl Try.func53 rfl (by decide +kernel) rfl (by simp) ?_); (conv => whnf))
  refine loop_rule (ι := RI) (fun x => [(0, hIns 0 l), (4, .pt 4 1 0 [] 0 0), (6, .pt 6 1 0 [] 0 0), (10, hEvent 3 es), (11, i64 es.length), (12, i64 x.i)])
    (fun x => [(1000000, ⟨0, 0, false, tIns l⟩), (1000003, ⟨0, 0, false, tEvent es⟩), (4, ⟨1, 0, x.d, .box [i64 x.s.at_, .h (bif x.f then 1000001 else 10031) x.b1 0 [] 1 0 x.s.regs.length, .h (bif x.f then 1000002 else 20031) x.b2 0 [] 1 0 x.s.out.length, i64 x.s.code]⟩),
      (6, ⟨1, 0, false, .box [i64 0, .nl 1, .nl 1, i64 0]⟩), ((bif x.f then 1000001 else 10031), ⟨x.b1, 0, false, .tree (bif x.f then 0 else 9) (.sl 1 (x.s.regs.map rI))⟩), ((bif x.f then 1000002 else 20031), ⟨x.b2, 0, false, .tree (bif x.f then 0 else 9) (.sl 1 (x.s.out.map rI))⟩)])
    (fun x => es.length - x.i) (fun x => x.i ≤ es.length ∧ SOk l.length x.s ∧ replay l ⟨a, r, o, c⟩ es = replay l x.s (es.drop x.i) ∧ (x.f = true → x.i = 0 ∧ x.s = ⟨a, r, o, c⟩ ∧ x.b1 = 0 ∧ x.b2 = 0) ∧ (x.f = false → 0 < x.i))
    ⟨0, ⟨a, r, o, c⟩, true, 0, 0, false⟩ (by (try dsimp only [cond_true, cond_false]); exact ⟨⟨rfl, rfl, rfl, rfl, rfl, rfl, trivial⟩, ⟨rfl, rfl, rfl, rfl, rfl, rfl, trivial⟩⟩) ⟨by simp, hs, by simp, by simp, by simp⟩ (by simp [C]; omega) ?_
  rintro ⟨i, s, f, b1, b2, d⟩ sl ob ⟨hi1, hs1, hrep, hf1, hf2⟩
  dsimp only at hi1 hs1 hrep hf1 hf2
  have hat0 := hs1.at0
  have hat1 := hs1.at1
  have hi2 := hi s.at_.toNat (by omega)
  cases f
  case' true => obtain ⟨rfl, rfl, rfl, rfl⟩ := hf1 rfl
  all_goals (try dsimp only [cond_true, cond_false])
  all_goals (conv => whnf)
  all_goals repeat' ((with_reducible (first | refine sCall.of (ok_impl_next _ _ _ _ _ _ hl hs1 hi2) ?_ | refine sCall.of (ok_impl_comes _ _ _) ?_ | refine sCall.of (ok_impl_did _ _ _ _ _ _ _ hl hs1 hi2) ?_ | refine gP ?_ | refine gN ?_ | refine fG.split (fun _ => ?_) (fun _ => ?_) | refine fG.not ?_ | refine gY ?_ | refine gF ?_ | refine fG.yes (flat_map (fun _ => rfl) _) ?_ | refine fG.bool (fun _ => ?_) (fun _ => ?_) | refine gS64 ?_ | refine gU8 ?_ | refine gI3 ?_ | refine fE.of rfl ?_ | refine gBq ?_ | refine gNum3 ?_ | refine gSet ?_ | refine gRd ?_ | refine gLk ?_ | refine gRow3 ?_ | refine fB.of (wide_map (fun _ => rfl) _) ?_ | refine fB.of (full_map (fun _ => rfl) _) ?_ | refine gRf ?_ | refine sDraw.mk' (id := 4) [(4, 7)] (ty := tys) rfl (by decide +kernel) ?_)) <;> (try (conv => whnf)))
  case' true.refine_1.refine_1.refine_1 h hc hk =>
    refine ⟨⟨⟨1, did l ⟨a, r, o, c⟩ (rd es 0), false, _, _, true⟩, (by (try dsimp only [cond_true, cond_false]); exact ⟨⟨rfl, rfl, rfl, rfl, rfl, rfl, trivial⟩, ⟨rfl, rfl, rfl, rfl, rfl, rfl, trivial⟩⟩), ?_, ?_⟩⟩
    · exact ⟨by show 1 ≤ es.length; omega, did_ok hs1 hi2 hk, replay_step (i := 0) (by omega) hrep hc hk, by simp, by simp⟩
    · show es.length - 1 < es.length - 0; omega
  case' false.refine_1.refine_1.refine_1 h hc hk =>
    refine ⟨⟨⟨i + 1, did l s (rd es i), false, _, _, true⟩, (by (try dsimp only [cond_true, cond_false]); exact ⟨⟨rfl, rfl, rfl, rfl, rfl, rfl, trivial⟩, ⟨rfl, rfl, rfl, rfl, rfl, rfl, trivial⟩⟩), ?_, ?_⟩⟩
    · exact ⟨by show i + 1 ≤ es.length; omega, did_ok hs1 hi2 hk, replay_step (by omega) hrep hc hk, by simp, by simp⟩
    · show es.length - (i + 1) < es.length - i; omega
  case true.refine_1.refine_1.refine_2 h hc hk =>
    rw [drop_rd (by omega : 0 < es.length), replay, if_neg (fun h2 => by have h3 := h2.2; rw [show comes (rd es 0) (next l ⟨a, r, o, c⟩) = false from hk] at h3; cases h3)] at hrep
    rw [replayedRes, hrep]
    rfl
  case true.refine_1.refine_2 h hc =>
    rw [drop_rd (by omega : 0 < es.length), replay, if_neg (fun h2 => hc h2.1)] at hrep
    rw [replayedRes, hrep]
    rfl
  case false.refine_1.refine_1.refine_2 h hc hk =>
    rw [drop_rd (by omega : i < es.length), replay, if_neg (fun h2 => by have h3 := h2.2; rw [show comes (rd es i) (next l s) = false from hk] at h3; cases h3)] at hrep
    rw [replayedRes, hrep]
    rfl
  case false.refine_1.refine_2 h hc =>
    rw [drop_rd (by omega : i < es.length), replay, if_neg (fun h2 => hc h2.1)] at hrep
    rw [replayedRes, hrep]
    rfl
  case true.refine_2 h =>
    have e : es.length = 0 := by omega
    rw [List.drop_eq_nil_of_le (by omega), replay] at hrep
    rw [replayedRes, hrep]
    simp [e]
  case false.refine_2 h =>
    have hp := hf2 rfl
    have e : ¬ es.length = 0 := by omega
    rw [List.drop_eq_nil_of_le (by omega), replay] at hrep
    rw [replayedRes, hrep]
    simp only [e, if_false]

set_option maxHeartbeats 4000000 in
theorem ok_spec_l3Replay (k : Nat) (l : List Ins) (es : List Event) (hl : l.length ≤ 100000000000) (hl1 : 1 ≤ l.length) (he : es.length ≤ 100000000000) (hi : ∀ i, i < l.length → IOk l.length (rd l i)) :
    callE PR C (k + 5) 75 [hIns 0 l, hEvent 1 es] [tIns l, tEvent es] = some (match replay l newState es with
      | none => ⟨.tu [nState 0 0 [] [] 0, bl false], [tI9 [], tI9 []], [none, none]⟩
      | some s => ⟨.tu [nSt 0 s, bl true], [tI9 s.regs, tI9 s.out], [none, none]⟩) := by
  (refine callE_is (callE_w [ResultVar.cell 4 39, ResultVar.tmp 5] rfl Try.func75 rfl (by decide +kernel) rfl (by simp) ?_); (conv => whnf))
  repeat' ((with_reducible (first | refine sCall.of (ok_spec_StateNew _) ?_ | refine gP ?_ | refine gN ?_ | refine fG.split (fun _ => ?_) (fun _ => ?_) | refine fG.not ?_ | refine gY ?_ | refine gF ?_ | refine fG.yes (flat_map (fun _ => rfl) _) ?_ | refine fG.bool (fun _ => ?_) (fun _ => ?_) | refine gS64 ?_ | refine gU8 ?_ | refine gI3 ?_ | refine fE.of rfl ?_ | refine gBq ?_ | refine gNum3 ?_ | refine gSet ?_ | refine gRd ?_ | refine gLk ?_ | refine gRow3 ?_ | refine fB.of (wide_map (fun _ => rfl) _) ?_ | refine fB.of (full_map (fun _ => rfl) _) ?_ | refine gRf ?_ | refine sDraw.mk' (id := 7) [(1, 10), (5, 10), (6, 10)] (ty := tys) rfl (by decide +kernel) ?_)) <;> (try (conv => whnf)))
  refine loop_rule (ι := RI) (fun x => [(0, hIns 0 l), (1, hEvent 1 es), (4, .pt 4 1 0 [] 0 0), (6, .pt 6 1 0 [] 0 0), (7, i64 x.i)])
    (fun x => [(1000000, ⟨0, 0, false, tIns l⟩), (1000001, ⟨0, 0, false, tEvent es⟩), (6, ⟨1, 0, true, .box [i64 x.s.at_, .h (bif x.f then 10010 else 10028) x.b1 0 [] 1 0 x.s.regs.length, .h (bif x.f then 20010 else 20028) x.b2 0 [] 1 0 x.s.out.length, i64 x.s.code]⟩),
      (4, ⟨1, 0, false, .box [i64 0, .nl 1, .nl 1, i64 0]⟩), ((bif x.f then 10010 else 10028), ⟨x.b1, 0, false, tI9 x.s.regs⟩), ((bif x.f then 20010 else 20028), ⟨x.b2, 0, false, tI9 x.s.out⟩)])
    (fun x => es.length - x.i) (fun x => x.i ≤ es.length ∧ SOk l.length x.s ∧ replay l newState es = replay l x.s (es.drop x.i))
    ⟨0, newState, true, 1, 1, false⟩ (by (try dsimp only [cond_true, cond_false]); exact ⟨⟨rfl, rfl, rfl, rfl, rfl, trivial⟩, ⟨rfl, rfl, rfl, rfl, rfl, rfl, trivial⟩⟩) ⟨by simp, newState_ok hl1, by simp⟩ (by simp [C]; omega) ?_
  rintro ⟨i, s, f, b1, b2, d⟩ sl ob ⟨hi1, hs1, hrep⟩
  dsimp only at hi1 hs1 hrep
  have hat0 := hs1.at0
  have hat1 := hs1.at1
  have hi2 := hi s.at_.toNat (by omega)
  have hdo := fun k e => ok_spec_l2Do k l s.at_ s.regs s.out s.code e hl hs1 hi2
  by_cases hlt : i < es.length
  · by_cases hc : s.code = 0
    · cases hk : comes (rd es i) (next l s) with
      | true =>
        have hd1 := fun k => hdo k (rd es i)
        simp only [doRes_true (show comes (rd es i) (next l ⟨s.at_, s.regs, s.out, s.code⟩) = true from hk)] at hd1
        cases f
        all_goals (try dsimp only [cond_true, cond_false])
        all_goals (conv => whnf)
        all_goals repeat' ((with_reducible (first | refine sCall.of (hd1 _) ?_ | refine gP ?_ | refine gN ?_ | refine fG.split (fun _ => ?_) (fun _ => ?_) | refine fG.not ?_ | refine gY ?_ | refine gF ?_ | refine fG.yes (flat_map (fun _ => rfl) _) ?_ | refine fG.bool (fun _ => ?_) (fun _ => ?_) | refine gS64 ?_ | refine gU8 ?_ | refine gI3 ?_ | refine fE.of rfl ?_ | refine gBq ?_ | refine gNum3 ?_ | refine gSet ?_ | refine gRd ?_ | refine gLk ?_ | refine gRow3 ?_ | refine fB.of (wide_map (fun _ => rfl) _) ?_ | refine fB.of (full_map (fun _ => rfl) _) ?_ | refine gRf ?_ | refine sDraw.mk' (id := 7) [(1, 10), (5, 10), (6, 10)] (ty := tys) rfl (by decide +kernel) ?_)) <;> (try (conv => whnf)))
        all_goals
          refine ⟨⟨⟨i + 1, did l s (rd es i), false, _, _, true⟩, (by (try dsimp only [cond_true, cond_false]); exact ⟨⟨rfl, rfl, rfl, rfl, rfl, trivial⟩, ⟨rfl, rfl, rfl, rfl, rfl, rfl, trivial⟩⟩), ?_, ?_⟩⟩
          · exact ⟨by show i + 1 ≤ es.length; omega, did_ok hs1 hi2 hk, replay_step (by omega) hrep hc hk⟩
          · show es.length - (i + 1) < es.length - i; omega
      | false =>
        have hd1 := fun k => hdo k (rd es i)
        simp only [doRes_false (show comes (rd es i) (next l ⟨s.at_, s.regs, s.out, s.code⟩) = false from hk)] at hd1
        have hn : replay l newState es = none := by rw [hrep, drop_rd hlt, replay, if_neg (fun h => by rw [hk] at h; cases h.2)]
        rw [hn]
        cases f
        all_goals (try dsimp only [cond_true, cond_false])
        all_goals (conv => whnf)
        all_goals repeat' ((with_reducible (first | refine sCall.of (hd1 _) ?_ | refine gP ?_ | refine gN ?_ | refine fG.split (fun _ => ?_) (fun _ => ?_) | refine fG.not ?_ | refine gY ?_ | refine gF ?_ | refine fG.yes (flat_map (fun _ => rfl) _) ?_ | refine fG.bool (fun _ => ?_) (fun _ => ?_) | refine gS64 ?_ | refine gU8 ?_ | refine gI3 ?_ | refine fE.of rfl ?_ | refine gBq ?_ | refine gNum3 ?_ | refine gSet ?_ | refine gRd ?_ | refine gLk ?_ | refine gRow3 ?_ | refine fB.of (wide_map (fun _ => rfl) _) ?_ | refine fB.of (full_map (fun _ => rfl) _) ?_ | refine gRf ?_ | refine sDraw.mk' (id := 7) [(1, 10), (5, 10), (6, 10)] (ty := tys) rfl (by decide +kernel) ?_)) <;> (try (conv => whnf)))
        all_goals rfl
    · have hn : replay l newState es = none := by rw [hrep, drop_rd hlt, replay, if_neg (fun h => hc h.1)]
      rw [hn]
      cases f
      all_goals (try dsimp only [cond_true, cond_false])
      all_goals (conv => whnf)
      all_goals repeat' ((with_reducible (first | refine gP ?_ | refine gN ?_ | refine fG.split (fun _ => ?_) (fun _ => ?_) | refine fG.not ?_ | refine gY ?_ | refine gF ?_ | refine fG.yes (flat_map (fun _ => rfl) _) ?_ | refine fG.bool (fun _ => ?_) (fun _ => ?_) | refine gS64 ?_ | refine gU8 ?_ | refine gI3 ?_ | refine fE.of rfl ?_ | refine gBq ?_ | refine gNum3 ?_ | refine gSet ?_ | refine gRd ?_ | refine gLk ?_ | refine gRow3 ?_ | refine fB.of (wide_map (fun _ => rfl) _) ?_ | refine fB.of (full_map (fun _ => rfl) _) ?_ | refine gRf ?_ | refine sDraw.mk' (id := 7) [(1, 10), (5, 10), (6, 10)] (ty := tys) rfl (by decide +kernel) ?_)) <;> (try (conv => whnf)))
      all_goals rfl
  · have hn : replay l newState es = some s := by rw [hrep, List.drop_eq_nil_of_le (by omega), replay]
    rw [hn]
    cases f
    all_goals (try dsimp only [cond_true, cond_false])
    all_goals (conv => whnf)
    all_goals repeat' ((with_reducible (first | refine gP ?_ | refine gN ?_ | refine fG.split (fun _ => ?_) (fun _ => ?_) | refine fG.not ?_ | refine gY ?_ | refine gF ?_ | refine fG.yes (flat_map (fun _ => rfl) _) ?_ | refine fG.bool (fun _ => ?_) (fun _ => ?_) | refine gS64 ?_ | refine gU8 ?_ | refine gI3 ?_ | refine fE.of rfl ?_ | refine gBq ?_ | refine gNum3 ?_ | refine gSet ?_ | refine gRd ?_ | refine gLk ?_ | refine gRow3 ?_ | refine fB.of (wide_map (fun _ => rfl) _) ?_ | refine fB.of (full_map (fun _ => rfl) _) ?_ | refine gRf ?_ | refine sDraw.mk' (id := 7) [(1, 10), (5, 10), (6, 10)] (ty := tys) rfl (by decide +kernel) ?_)) <;> (try (conv => whnf)))
    all_goals rfl

/-- What a replay of a program comes to. -/
def replayAll (l : List Ins) (es : List Event) : Option State := if progOk l 4 = true ∧ es.length ≤ 200 then replay l newState es else none
def stateRes (x : Option State) (b : List (Option Cont)) : Res := match x with
  | none => ⟨.tu [nState 0 0 [] [] 0, bl false], [tI9 [], tI9 []], b⟩
  | some s => ⟨.tu [nSt 0 s, bl true], [tI9 s.regs, tI9 s.out], b⟩
theorem ok_spec_Replay (k : Nat) (l : List Ins) (es : List Event) (hl : l.length ≤ 100000000000) (he : es.length ≤ 100000000000) :
    callE PR C (k + 6) 51 [hIns 0 l, hEvent 1 es] [tIns l, tEvent es] = some (stateRes (replayAll l es) [none, none]) := by
  by_cases h1 : progOk l 4 = true
  · have hlen := progOk_len h1
    have hp := fun k => ok_spec_ProgOk k l 4 hl (by omega) (by omega)
    simp only [h1] at hp
    by_cases h2 : es.length ≤ 200
    · have hr := fun k => ok_spec_l3Replay k l es hl hlen.1 he (fun i hi => progOk_iok h1 hi)
      have e : replayAll l es = replay l newState es := by simp only [replayAll, h1, h2, and_self, if_true]
      rw [e]
      cases hx : replay l newState es with
      | none =>
        simp only [hx] at hr
        (refine callE_is (callE_w [ResultVar.cell 4 39, ResultVar.tmp 5] rfl Try.func51 rfl (by decide +kernel) rfl (by simp) ?_); (conv => whnf))
        repeat' ((with_reducible (first | refine sCall.of (hp _) ?_ | refine sCall.of (hr _) ?_ | refine gP ?_ | refine gN ?_ | refine fG.split (fun _ => ?_) (fun _ => ?_) | refine fG.not ?_ | refine gY ?_ | refine gF ?_ | refine fG.yes (flat_map (fun _ => rfl) _) ?_ | refine fG.bool (fun _ => ?_) (fun _ => ?_) | refine gS64 ?_ | refine gU8 ?_ | refine gI3 ?_ | refine fE.of rfl ?_ | refine gBq ?_ | refine gNum3 ?_ | refine gSet ?_ | refine gRd ?_ | refine gLk ?_ | refine gRow3 ?_ | refine fB.of (wide_map (fun _ => rfl) _) ?_ | refine fB.of (full_map (fun _ => rfl) _) ?_ | refine gRf ?_)) <;> (try (conv => whnf)))
        rfl
      | some s =>
        simp only [hx] at hr
        (refine callE_is (callE_w [ResultVar.cell 4 39, ResultVar.tmp 5] rfl Try.func51 rfl (by decide +kernel) rfl (by simp) ?_); (conv => whnf))
        repeat' ((with_reducible (first | refine sCall.of (hp _) ?_ | refine sCall.of (hr _) ?_ | refine gP ?_ | refine gN ?_ | refine fG.split (fun _ => ?_) (fun _ => ?_) | refine fG.not ?_ | refine gY ?_ | refine gF ?_ | refine fG.yes (flat_map (fun _ => rfl) _) ?_ | refine fG.bool (fun _ => ?_) (fun _ => ?_) | refine gS64 ?_ | refine gU8 ?_ | refine gI3 ?_ | refine fE.of rfl ?_ | refine gBq ?_ | refine gNum3 ?_ | refine gSet ?_ | refine gRd ?_ | refine gLk ?_ | refine gRow3 ?_ | refine fB.of (wide_map (fun _ => rfl) _) ?_ | refine fB.of (full_map (fun _ => rfl) _) ?_ | refine gRf ?_)) <;> (try (conv => whnf)))
        rfl
    · have e : replayAll l es = none := by simp only [replayAll, h2, and_false, if_false]
      rw [e]
      (refine callE_is (callE_w [ResultVar.cell 4 39, ResultVar.tmp 5] rfl Try.func51 rfl (by decide +kernel) rfl (by simp) ?_); (conv => whnf))
      repeat' ((with_reducible (first | refine sCall.of (hp _) ?_ | refine gP ?_ | refine gN ?_ | refine fG.split (fun _ => ?_) (fun _ => ?_) | refine fG.not ?_ | refine gY ?_ | refine gF ?_ | refine fG.yes (flat_map (fun _ => rfl) _) ?_ | refine fG.bool (fun _ => ?_) (fun _ => ?_) | refine gS64 ?_ | refine gU8 ?_ | refine gI3 ?_ | refine fE.of rfl ?_ | refine gBq ?_ | refine gNum3 ?_ | refine gSet ?_ | refine gRd ?_ | refine gLk ?_ | refine gRow3 ?_ | refine fB.of (wide_map (fun _ => rfl) _) ?_ | refine fB.of (full_map (fun _ => rfl) _) ?_ | refine gRf ?_)) <;> (try (conv => whnf)))
      rfl
  · have h1' : progOk l 4 = false := by simpa using h1
    have hp := fun k => ok_spec_ProgOk k l 4 hl (by omega) (by omega)
    simp only [h1'] at hp
    have e : replayAll l es = none := by simp only [replayAll, h1', Bool.false_eq_true, false_and, if_false]
    rw [e]
    (refine callE_is (callE_w [ResultVar.cell 4 39, ResultVar.tmp 5] rfl Try.func51 rfl (by decide +kernel) rfl (by simp) ?_); (conv => whnf))
    repeat' ((with_reducible (first | refine sCall.of (hp _) ?_ | refine gP ?_ | refine gN ?_ | refine fG.split (fun _ => ?_) (fun _ => ?_) | refine fG.not ?_ | refine gY ?_ | refine gF ?_ | refine fG.yes (flat_map (fun _ => rfl) _) ?_ | refine fG.bool (fun _ => ?_) (fun _ => ?_) | refine gS64 ?_ | refine gU8 ?_ | refine gI3 ?_ | refine fE.of rfl ?_ | refine gBq ?_ | refine gNum3 ?_ | refine gSet ?_ | refine gRd ?_ | refine gLk ?_ | refine gRow3 ?_ | refine fB.of (wide_map (fun _ => rfl) _) ?_ | refine fB.of (full_map (fun _ => rfl) _) ?_ | refine gRf ?_)) <;> (try (conv => whnf)))
    rfl
theorem replay_nil_or {l : List Ins} {s s' : State} {es : List Event} (h : replay l s es = some s') (he : es.length = 0) : s' = s := by
  have : es = [] := List.length_eq_zero_iff.1 he
  subst this
  simpa [replay] using h.symm
theorem ok_impl_Replay (k : Nat) (l : List Ins) (es : List Event) (hl : l.length ≤ 100000000000) (he : es.length ≤ 100000000000) :
    callE PR C (k + 9) 20 [hIns 0 l, hEvent 1 es] [tIns l, tEvent es] = some (stateRes (replayAll l es) [none, none]) := by
  by_cases h1 : progOk l 4 = true
  · have hlen := progOk_len h1
    have hp := fun k => ok_impl_ProgOk k l 4 hl (by omega) (by omega)
    simp only [h1] at hp
    by_cases h2 : es.length ≤ 200
    · have hr := fun k => ok_impl_replayed k l 0 (List.replicate 4 0) [] 0 es hl he (newState_ok hlen.1) (fun i hi => progOk_iok h1 hi)
      have e : replayAll l es = replay l newState es := by simp only [replayAll, h1, h2, and_self, if_true]
      rw [e]
      simp only [replayedRes] at hr
      have e2 : (⟨0, List.replicate 4 0, [], 0⟩ : State) = newState := rfl
      simp only [e2] at hr
      cases hx : replay l newState es with
      | none =>
        simp only [hx] at hr
        (refine callE_is (callE_w [ResultVar.cell 4 39, ResultVar.tmp 5] rfl Try.func20 rfl (by decide +kernel) rfl (by simp) ?_); (conv => whnf))
        repeat' ((with_reducible (first | refine sCall.of (hp _) ?_ | refine sCall.of (ok_impl_StateNew _) ?_ | refine sCall.of (hr _) ?_ | refine gP ?_ | refine gN ?_ | refine fG.split (fun _ => ?_) (fun _ => ?_) | refine fG.not ?_ | refine gY ?_ | refine gF ?_ | refine fG.yes (flat_map (fun _ => rfl) _) ?_ | refine fG.bool (fun _ => ?_) (fun _ => ?_) | refine gS64 ?_ | refine gU8 ?_ | refine gI3 ?_ | refine fE.of rfl ?_ | refine gBq ?_ | refine gNum3 ?_ | refine gSet ?_ | refine gRd ?_ | refine gLk ?_ | refine gRow3 ?_ | refine fB.of (wide_map (fun _ => rfl) _) ?_ | refine fB.of (full_map (fun _ => rfl) _) ?_ | refine gRf ?_)) <;> (try (conv => whnf)))
        rfl
      | some s =>
        simp only [hx] at hr
        by_cases h0 : es.length = 0
        · have := replay_nil_or hx h0
          subst this
          simp only [h0, if_true] at hr
          (refine callE_is (callE_w [ResultVar.cell 4 39, ResultVar.tmp 5] rfl Try.func20 rfl (by decide +kernel) rfl (by simp) ?_); (conv => whnf))
          repeat' ((with_reducible (first | refine sCall.of (hp _) ?_ | refine sCall.of (ok_impl_StateNew _) ?_ | refine sCall.of (hr _) ?_ | refine gP ?_ | refine gN ?_ | refine fG.split (fun _ => ?_) (fun _ => ?_) | refine fG.not ?_ | refine gY ?_ | refine gF ?_ | refine fG.yes (flat_map (fun _ => rfl) _) ?_ | refine fG.bool (fun _ => ?_) (fun _ => ?_) | refine gS64 ?_ | refine gU8 ?_ | refine gI3 ?_ | refine fE.of rfl ?_ | refine gBq ?_ | refine gNum3 ?_ | refine gSet ?_ | refine gRd ?_ | refine gLk ?_ | refine gRow3 ?_ | refine fB.of (wide_map (fun _ => rfl) _) ?_ | refine fB.of (full_map (fun _ => rfl) _) ?_ | refine gRf ?_)) <;> (try (conv => whnf)))
          rfl
        · simp only [h0, if_false] at hr
          (refine callE_is (callE_w [ResultVar.cell 4 39, ResultVar.tmp 5] rfl Try.func20 rfl (by decide +kernel) rfl (by simp) ?_); (conv => whnf))
          repeat' ((with_reducible (first | refine sCall.of (hp _) ?_ | refine sCall.of (ok_impl_StateNew _) ?_ | refine sCall.of (hr _) ?_ | refine gP ?_ | refine gN ?_ | refine fG.split (fun _ => ?_) (fun _ => ?_) | refine fG.not ?_ | refine gY ?_ | refine gF ?_ | refine fG.yes (flat_map (fun _ => rfl) _) ?_ | refine fG.bool (fun _ => ?_) (fun _ => ?_) | refine gS64 ?_ | refine gU8 ?_ | refine gI3 ?_ | refine fE.of rfl ?_ | refine gBq ?_ | refine gNum3 ?_ | refine gSet ?_ | refine gRd ?_ | refine gLk ?_ | refine gRow3 ?_ | refine fB.of (wide_map (fun _ => rfl) _) ?_ | refine fB.of (full_map (fun _ => rfl) _) ?_ | refine gRf ?_)) <;> (try (conv => whnf)))
          rfl
    · have e : replayAll l es = none := by simp only [replayAll, h2, and_false, if_false]
      rw [e]
      (refine callE_is (callE_w [ResultVar.cell 4 39, ResultVar.tmp 5] rfl Try.func20 rfl (by decide +kernel) rfl (by simp) ?_); (conv => whnf))
      repeat' ((with_reducible (first | refine sCall.of (hp _) ?_ | refine gP ?_ | refine gN ?_ | refine fG.split (fun _ => ?_) (fun _ => ?_) | refine fG.not ?_ | refine gY ?_ | refine gF ?_ | refine fG.yes (flat_map (fun _ => rfl) _) ?_ | refine fG.bool (fun _ => ?_) (fun _ => ?_) | refine gS64 ?_ | refine gU8 ?_ | refine gI3 ?_ | refine fE.of rfl ?_ | refine gBq ?_ | refine gNum3 ?_ | refine gSet ?_ | refine gRd ?_ | refine gLk ?_ | refine gRow3 ?_ | refine fB.of (wide_map (fun _ => rfl) _) ?_ | refine fB.of (full_map (fun _ => rfl) _) ?_ | refine gRf ?_)) <;> (try (conv => whnf)))
      rfl
  · have h1' : progOk l 4 = false := by simpa using h1
    have hp := fun k => ok_impl_ProgOk k l 4 hl (by omega) (by omega)
    simp only [h1'] at hp
    have e : replayAll l es = none := by simp only [replayAll, h1', Bool.false_eq_true, false_and, if_false]
    rw [e]
    (refine callE_is (callE_w [ResultVar.cell 4 39, ResultVar.tmp 5] rfl Try.func20 rfl (by decide +kernel) rfl (by simp) ?_); (conv => whnf))
    repeat' ((with_reducible (first | refine sCall.of (hp _) ?_ | refine gP ?_ | refine gN ?_ | refine fG.split (fun _ => ?_) (fun _ => ?_) | refine fG.not ?_ | refine gY ?_ | refine gF ?_ | refine fG.yes (flat_map (fun _ => rfl) _) ?_ | refine fG.bool (fun _ => ?_) (fun _ => ?_) | refine gS64 ?_ | refine gU8 ?_ | refine gI3 ?_ | refine fE.of rfl ?_ | refine gBq ?_ | refine gNum3 ?_ | refine gSet ?_ | refine gRd ?_ | refine gLk ?_ | refine gRow3 ?_ | refine fB.of (wide_map (fun _ => rfl) _) ?_ | refine fB.of (full_map (fun _ => rfl) _) ?_ | refine gRf ?_)) <;> (try (conv => whnf)))
    rfl
def stOf (x : Option State) : State := x.getD default
theorem stateRes_eq (x : Option State) (b : List (Option Cont)) : stateRes x b = ⟨.tu [nSt 0 (stOf x), bl x.isSome], [tI9 (stOf x).regs, tI9 (stOf x).out], b⟩ := by cases x <;> rfl
theorem ok_spec_Replay' (k : Nat) (l : List Ins) (es : List Event) (hl : l.length ≤ 100000000000) (he : es.length ≤ 100000000000) :
    callE PR C (k + 6) 51 [hIns 0 l, hEvent 1 es] [tIns l, tEvent es] = some ⟨.tu [nSt 0 (stOf (replayAll l es)), bl (replayAll l es).isSome], [tI9 (stOf (replayAll l es)).regs, tI9 (stOf (replayAll l es)).out], [none, none]⟩ := by rw [ok_spec_Replay k l es hl he, stateRes_eq]
theorem ok_impl_Replay' (k : Nat) (l : List Ins) (es : List Event) (hl : l.length ≤ 100000000000) (he : es.length ≤ 100000000000) :
    callE PR C (k + 9) 20 [hIns 0 l, hEvent 1 es] [tIns l, tEvent es] = some ⟨.tu [nSt 0 (stOf (replayAll l es)), bl (replayAll l es).isSome], [tI9 (stOf (replayAll l es)).regs, tI9 (stOf (replayAll l es)).out], [none, none]⟩ := by rw [ok_impl_Replay k l es hl he, stateRes_eq]

end Go.Proofs.Ytfeenmfehgljgaa.Abs
namespace Go.Proofs.Ytfeenmfehgljgaa.Abs
open Go Go.Proofs
set_option linter.unusedVariables false
set_option linter.unusedSimpArgs false
attribute [local irreducible] callE
/-- Model: kept states. -/
structure Kept where
  n : Int
  s : State
deriving DecidableEq
instance : Inhabited Kept := ⟨⟨0, default⟩⟩
def rKept (x : Kept) : List T := [.v (.int .i64 x.n), .v (.int .i64 x.s.at_), .sl 1 (x.s.regs.map rI), .sl 1 (x.s.out.map rI), .v (.int .i64 x.s.code)]
theorem snoc_rKept (l : List Kept) (n a c : Int) (r o : List Int) : l.map rKept ++ [[.v (.int .i64 n), .v (.int .i64 a), .sl 1 (r.map rI), .sl 1 (o.map rI), .v (.int .i64 c)]] = (l ++ [(⟨n, ⟨a, r, o, c⟩⟩ : Kept)]).map rKept := by simp [rKept]
theorem full_rKept (x : Kept) : (rKept x).all (fun t => T.full 8 t) = true := by
  have h : ∀ l : List Int, T.full 8 (.sl 1 (l.map rI)) = true := fun l => full_map (fun _ => rfl) l
  simp only [rKept, List.all_cons, List.all_nil, h]
  rfl
theorem gI4 {p A : Prop} (h : A) (e : p := by first | with_reducible assumption | omega | (simp only [Nat.zero_add, Nat.add_zero, Nat.sub_zero, Int.toNat_natCast, Int.toNat_zero, Int.toNat_one, List.length_map, List.length_nil, Int.reduceToNat, Nat.reduceAdd, Nat.reduceSub, Int.sub_zero, Int.reduceAdd, Int.reduceSub, Nat.sub_self, Int.toNat_natCast_add_one, bs_len, List.length_append, List.length_cons, List.length_set, List.length_replicate, List.length_range]; first | done | omega)) : sI p A := sI.mk e h
theorem gNum4 {r r' : Nat} {F : Nat → Prop} (h : F r') (e : r = r' := by first | (simp only [Nat.zero_add, Nat.add_zero, Nat.sub_zero, Int.toNat_natCast, Int.toNat_zero, Int.toNat_one, List.length_map, List.length_nil, Int.reduceToNat, Nat.reduceAdd, Nat.reduceSub, Int.sub_zero, Int.reduceAdd, Int.reduceSub, Nat.sub_self, Int.toNat_natCast_add_one, bs_len]; rfl) | rfl) : sN r F := sN.eq e h
theorem gRow4 {r r' : List (List T)} {F : List (List T) → Prop} (h : F r') (e : r = r' := by first | (simp only [Nat.add_zero, Nat.zero_add, Nat.reduceAdd, List.drop_zero, List.take_succ_cons, List.take_nil, List.drop_succ_cons, List.drop_nil, List.take_zero, List.nil_append, List.append_nil, List.map_nil, drop_suf, take_pre, drop_map, List.take_length, take_len_set, take_len_app, List.set_set, List.length_map, snoc_rKept, snoc_rEvent, snoc_rIns, bytesT_bs, snoc_rI, snoc_rB, snoc_rBool, set_rI, set_rBool, rep_rI, rep_rBool, map_app]; rfl) | rfl) : sR r F := sR.eq e h

abbrev tKept9 (l : List Kept) : Cont := .tree 9 (.sl 5 (l.map rKept))
def keptAt (l : List Ins) (es : List Event) (j : Nat) : Kept := ⟨(8 * j : Nat), stOf (replayAll l (es.take (8 * j)))⟩
def keepAll (l : List Ins) (es : List Event) : List Kept := if (replayAll l es).isSome = true then (List.range (es.length / 8 + 1)).map (keptAt l es) else []
theorem keep_snoc (l : List Ins) (es : List Event) (j : Nat) : (List.range j).map (keptAt l es) ++ [keptAt l es j] = (List.range (j + 1)).map (keptAt l es) := by
  rw [List.range_succ, List.map_append]; rfl
structure KI where
  j : Nat
  l : List Kept
  o : Nat
  b : Nat
set_option maxHeartbeats 4000000 in
theorem ok_impl_KeepAll (k : Nat) (l : List Ins) (es : List Event) (hl : l.length ≤ 100000000000) (he : es.length ≤ 100000000000) :
    callE PR C (k + 10) 18 [hIns 0 l, hEvent 1 es] [tIns l, tEvent es] = some ⟨.h 2000000 1 0 [] 5 0 (keepAll l es).length, [tKept9 (keepAll l es)], [none, none]⟩ := by
  cases hr : (replayAll l es).isSome with
  | false =>
    have hq := fun k => ok_impl_Replay' k l es hl he
    simp only [hr] at hq
    have e : keepAll l es = [] := by simp [keepAll, hr]
    rw [e]
    (refine callE_is (callE_w [ResultVar.tmp 4] rfl Try.func18 rfl (by decide +kernel) rfl (by simp) ?_); (conv => whnf))
    repeat' ((with_reducible (first | refine sCall.of (hq _) ?_ | refine gP ?_ | refine gN ?_ | refine fG.split (fun _ => ?_) (fun _ => ?_) | refine fG.not ?_ | refine gY ?_ | refine gF ?_ | refine fG.yes (flat_map (fun _ => rfl) _) ?_ | refine fG.bool (fun _ => ?_) (fun _ => ?_) | refine gS64 ?_ | refine gU8 ?_ | refine gI4 ?_ | refine fE.of rfl ?_ | refine gBq ?_ | refine gNum4 ?_ | refine gSet ?_ | refine gRd ?_ | refine gLk ?_ | refine gRow4 ?_ | refine fB.of (wide_map (fun _ => rfl) _) ?_ | refine fB.of (full_map (fun _ => rfl) _) ?_ | refine fB.of (full_map (fun x => full_rKept x) _) ?_ | refine gRf ?_)) <;> (try (conv => whnf)))
    rfl
  | true =>
    have hq := fun k => ok_impl_Replay' k l es hl he
    simp only [hr] at hq
    have e : keepAll l es = (List.range (es.length / 8 + 1)).map (keptAt l es) := by simp [keepAll, hr]
    rw [e]
    (refine callE_is (callE_w [ResultVar.tmp 4] rfl Try.func18 rfl (by decide +kernel) rfl (by simp) ?_); (conv => whnf))
    repeat' ((with_reducible (first | refine sCall.of (hq _) ?_ | refine gP ?_ | refine gN ?_ | refine fG.split (fun _ => ?_) (fun _ => ?_) | refine fG.not ?_ | refine gY ?_ | refine gF ?_ | refine fG.yes (flat_map (fun _ => rfl) _) ?_ | refine fG.bool (fun _ => ?_) (fun _ => ?_) | refine gS64 ?_ | refine gU8 ?_ | refine gI4 ?_ | refine fE.of rfl ?_ | refine gBq ?_ | refine gNum4 ?_ | refine gSet ?_ | refine gRd ?_ | refine gLk ?_ | refine gRow4 ?_ | refine fB.of (wide_map (fun _ => rfl) _) ?_ | refine fB.of (full_map (fun _ => rfl) _) ?_ | refine fB.of (full_map (fun x => full_rKept x) _) ?_ | refine gRf ?_)) <;> (try (conv => whnf)))
    refine loop_rule (ι := KI) (fun x => [(0, hIns 0 l), (1, hEvent 1 es), (7, .h x.o x.b 0 [] 5 0 x.l.length), (8, i64 (8 * x.j : Nat))])
      (fun x => [(1000000, ⟨0, 0, false, tIns l⟩), (1000001, ⟨0, 0, false, tEvent es⟩), (x.o, ⟨x.b, 0, false, tKept9 x.l⟩)])
      (fun x => es.length / 8 + 1 - x.j) (fun x => x.j ≤ es.length / 8 + 1 ∧ x.l = (List.range x.j).map (keptAt l es) ∧ (x.o = 19 ∨ x.o = 39)) ⟨0, [], 19, 1⟩ (by (try dsimp only [cond_true, cond_false]); exact ⟨⟨rfl, rfl, rfl, rfl, trivial⟩, ⟨rfl, rfl, rfl, trivial⟩⟩) (by simp) (by simp [C]; omega) ?_
    rintro ⟨j, out, o, b⟩ sl ob ⟨hj, hout, ho⟩
    dsimp only at hj ho hout
    have hlen : out.length = j := by rw [hout]; simp
    have hq2 := fun k => ok_impl_Replay' k l (es.take (8 * j)) hl (by simp; omega)
    rcases ho with rfl | rfl
    all_goals (try dsimp only [cond_true, cond_false])
    all_goals (conv => whnf)
    all_goals repeat' ((with_reducible (first | refine sCall.of (hq2 _) ?_ | refine gP ?_ | refine gN ?_ | refine fG.split (fun _ => ?_) (fun _ => ?_) | refine fG.not ?_ | refine gY ?_ | refine gF ?_ | refine fG.yes (flat_map (fun _ => rfl) _) ?_ | refine fG.bool (fun _ => ?_) (fun _ => ?_) | refine gS64 ?_ | refine gU8 ?_ | refine gI4 ?_ | refine fE.of rfl ?_ | refine gBq ?_ | refine gNum4 ?_ | refine gSet ?_ | refine gRd ?_ | refine gLk ?_ | refine gRow4 ?_ | refine fB.of (wide_map (fun _ => rfl) _) ?_ | refine fB.of (full_map (fun _ => rfl) _) ?_ | refine fB.of (full_map (fun x => full_rKept x) _) ?_ | refine gRf ?_)) <;> (try (conv => whnf)))
    case' inl.refine_1 h | inr.refine_1 h =>
      refine ⟨⟨⟨j + 1, out ++ [keptAt l es j], 39, _⟩, (by (try dsimp only [cond_true, cond_false]); exact ⟨⟨rfl, rfl, rfl, rfl, trivial⟩, ⟨rfl, rfl, rfl, trivial⟩⟩), ?_, ?_⟩⟩
      · exact ⟨by show j + 1 ≤ _; omega, by show _ = _; rw [hout]; exact keep_snoc l es j, .inr rfl⟩
      · show es.length / 8 + 1 - (j + 1) < es.length / 8 + 1 - j; omega
    case inl.refine_2 h | inr.refine_2 h =>
      have : j = es.length / 8 + 1 := by omega
      rw [hout, this]

structure KJ where
  j : Nat
  l : List Kept
  o : Nat
  b : Nat
theorem take_len {α : Type} (l : List α) (n : Nat) (h : l.length ≤ n) : l.take n = l := List.take_of_length_le h
set_option maxHeartbeats 4000000 in
theorem ok_spec_KeepAll (k : Nat) (l : List Ins) (es : List Event) (hl : l.length ≤ 100000000000) (he : es.length ≤ 100000000000) :
    callE PR C (k + 7) 19 [hIns 0 l, hEvent 1 es] [tIns l, tEvent es] = some ⟨.h 2000000 1 0 [] 5 0 (keepAll l es).length, [tKept9 (keepAll l es)], [none, none]⟩ := by
  cases hr : (replayAll l es).isSome with
  | false =>
    have hq := fun k => ok_spec_Replay' k l es hl he
    simp only [hr] at hq
    have e : keepAll l es = [] := by simp [keepAll, hr]
    rw [e]
    (refine callE_is (callE_w [ResultVar.tmp 4] rfl Try.func19 rfl (by decide +kernel) rfl (by simp) ?_); (conv => whnf))
    repeat' ((with_reducible (first | refine sCall.of (hq _) ?_ | refine gP ?_ | refine gN ?_ | refine fG.split (fun _ => ?_) (fun _ => ?_) | refine fG.not ?_ | refine gY ?_ | refine gF ?_ | refine fG.yes (flat_map (fun _ => rfl) _) ?_ | refine fG.bool (fun _ => ?_) (fun _ => ?_) | refine gS64 ?_ | refine gU8 ?_ | refine gI4 ?_ | refine fE.of rfl ?_ | refine gBq ?_ | refine gNum4 ?_ | refine gSet ?_ | refine gRd ?_ | refine gLk ?_ | refine gRow4 ?_ | refine fB.of (wide_map (fun _ => rfl) _) ?_ | refine fB.of (full_map (fun _ => rfl) _) ?_ | refine fB.of (full_map (fun x => full_rKept x) _) ?_ | refine gRf ?_)) <;> (try (conv => whnf)))
    refine loop_rule (ι := Unit) (fun x => [(0, hIns 0 l), (1, hEvent 1 es), (5, .h 11 1 0 [] 5 0 0), (7, bl false), (8, i64 0)])
      (fun x => [(1000000, ⟨0, 0, false, tIns l⟩), (1000001, ⟨0, 0, false, tEvent es⟩), (11, ⟨1, 0, false, tKept9 []⟩)])
      (fun x => 0) (fun x => True) () (by (try dsimp only [cond_true, cond_false]); exact ⟨⟨rfl, rfl, rfl, rfl, rfl, trivial⟩, ⟨rfl, rfl, rfl, trivial⟩⟩) trivial (by simp [C]) ?_
    rintro ⟨⟩ sl ob _
    (try dsimp only [cond_true, cond_false])
    (conv => whnf)
    repeat' ((with_reducible (first | refine gP ?_ | refine gN ?_ | refine fG.split (fun _ => ?_) (fun _ => ?_) | refine fG.not ?_ | refine gY ?_ | refine gF ?_ | refine fG.yes (flat_map (fun _ => rfl) _) ?_ | refine fG.bool (fun _ => ?_) (fun _ => ?_) | refine gS64 ?_ | refine gU8 ?_ | refine gI4 ?_ | refine fE.of rfl ?_ | refine gBq ?_ | refine gNum4 ?_ | refine gSet ?_ | refine gRd ?_ | refine gLk ?_ | refine gRow4 ?_ | refine fB.of (wide_map (fun _ => rfl) _) ?_ | refine fB.of (full_map (fun _ => rfl) _) ?_ | refine fB.of (full_map (fun x => full_rKept x) _) ?_ | refine gRf ?_)) <;> (try (conv => whnf)))
    rfl
  | true =>
    have hq := fun k => ok_spec_Replay' k l es hl he
    simp only [hr] at hq
    have e : keepAll l es = (List.range (es.length / 8 + 1)).map (keptAt l es) := by simp [keepAll, hr]
    rw [e]
    (refine callE_is (callE_w [ResultVar.tmp 4] rfl Try.func19 rfl (by decide +kernel) rfl (by simp) ?_); (conv => whnf))
    repeat' ((with_reducible (first | refine sCall.of (hq _) ?_ | refine gP ?_ | refine gN ?_ | refine fG.split (fun _ => ?_) (fun _ => ?_) | refine fG.not ?_ | refine gY ?_ | refine gF ?_ | refine fG.yes (flat_map (fun _ => rfl) _) ?_ | refine fG.bool (fun _ => ?_) (fun _ => ?_) | refine gS64 ?_ | refine gU8 ?_ | refine gI4 ?_ | refine fE.of rfl ?_ | refine gBq ?_ | refine gNum4 ?_ | refine gSet ?_ | refine gRd ?_ | refine gLk ?_ | refine gRow4 ?_ | refine fB.of (wide_map (fun _ => rfl) _) ?_ | refine fB.of (full_map (fun _ => rfl) _) ?_ | refine fB.of (full_map (fun x => full_rKept x) _) ?_ | refine gRf ?_)) <;> (try (conv => whnf)))
    refine loop_rule (ι := KI) (fun x => [(0, hIns 0 l), (1, hEvent 1 es), (5, .h x.o x.b 0 [] 5 0 x.l.length), (7, bl true), (8, i64 (8 * x.j : Nat))])
      (fun x => [(1000000, ⟨0, 0, false, tIns l⟩), (1000001, ⟨0, 0, false, tEvent es⟩), (x.o, ⟨x.b, 0, false, tKept9 x.l⟩)])
      (fun x => es.length / 8 + 1 - x.j) (fun x => x.j ≤ es.length / 8 + 1 ∧ x.l = (List.range x.j).map (keptAt l es) ∧ (x.o = 11 ∨ x.o = 40)) ⟨0, [], 11, 1⟩ (by (try dsimp only [cond_true, cond_false]); exact ⟨⟨rfl, rfl, rfl, rfl, rfl, trivial⟩, ⟨rfl, rfl, rfl, trivial⟩⟩) (by simp) (by simp [C]; omega) ?_
    rintro ⟨j, out, o, b⟩ sl ob ⟨hj, hout, ho⟩
    dsimp only at hj ho hout
    have hlen : out.length = j := by rw [hout]; simp
    have hq2 := fun k => ok_spec_Replay' k l (es.take (8 * j)) hl (by simp; omega)
    rcases ho with rfl | rfl
    all_goals (try dsimp only [cond_true, cond_false])
    all_goals (conv => whnf)
    all_goals repeat' ((with_reducible (first | refine sCall.of (hq2 _) ?_ | refine gP ?_ | refine gN ?_ | refine fG.split (fun _ => ?_) (fun _ => ?_) | refine fG.not ?_ | refine gY ?_ | refine gF ?_ | refine fG.yes (flat_map (fun _ => rfl) _) ?_ | refine fG.bool (fun _ => ?_) (fun _ => ?_) | refine gS64 ?_ | refine gU8 ?_ | refine gI4 ?_ | refine fE.of rfl ?_ | refine gBq ?_ | refine gNum4 ?_ | refine gSet ?_ | refine gRd ?_ | refine gLk ?_ | refine gRow4 ?_ | refine fB.of (wide_map (fun _ => rfl) _) ?_ | refine fB.of (full_map (fun _ => rfl) _) ?_ | refine fB.of (full_map (fun x => full_rKept x) _) ?_ | refine gRf ?_)) <;> (try (conv => whnf)))
    case' inl.refine_1 h | inr.refine_1 h =>
      refine ⟨⟨⟨j + 1, out ++ [keptAt l es j], 40, _⟩, (by (try dsimp only [cond_true, cond_false]); exact ⟨⟨rfl, rfl, rfl, rfl, rfl, trivial⟩, ⟨rfl, rfl, rfl, trivial⟩⟩), ?_, ?_⟩⟩
      · exact ⟨by show j + 1 ≤ _; omega, by show _ = _; rw [hout]; exact keep_snoc l es j, .inr rfl⟩
      · show es.length / 8 + 1 - (j + 1) < es.length / 8 + 1 - j; omega
    case inl.refine_2 h | inr.refine_2 h =>
      have : j = es.length / 8 + 1 := by omega
      rw [hout, this]

end Go.Proofs.Ytfeenmfehgljgaa.Abs
namespace Go.Proofs.Ytfeenmfehgljgaa.Abs
open Go Go.Proofs
set_option linter.unusedVariables false
set_option linter.unusedSimpArgs false
attribute [local irreducible] callE
/-! ### Helpers of the laws -/
/-- What is left of a budget. -/
def left (m n : Int) : Int := if m - n < 0 then -1 else m - n
theorem ok_laws_szInsS (k : Nat) (l : List Ins) (m : Int) (h0 : 0 ≤ m) (h1 : m ≤ 1048576) (hl : l.length ≤ 140737488355328) : callE PR C (k + 1) 25 [hIns 0 l, i64 m] [tIns l] = some ⟨i64 (left m l.length), [], [none]⟩ := by
  (refine callE_is (callE_w [ResultVar.tmp 4] rfl Try.func25 rfl (by decide +kernel) rfl (by simp) ?_); (conv => whnf))
  repeat' ((with_reducible (first | refine gP ?_ | refine gN ?_ | refine fG.split (fun _ => ?_) (fun _ => ?_) | refine fG.not ?_ | refine gY ?_ | refine gF ?_ | refine fG.yes (flat_map (fun _ => rfl) _) ?_ | refine fG.bool (fun _ => ?_) (fun _ => ?_) | refine gS64 ?_ | refine gU8 ?_ | refine gI4 ?_ | refine fE.of rfl ?_ | refine gBq ?_ | refine gNum4 ?_ | refine gSet ?_ | refine gRd ?_ | refine gLk ?_ | refine gRow4 ?_ | refine fB.of (wide_map (fun _ => rfl) _) ?_ | refine fB.of (full_map (fun _ => rfl) _) ?_ | refine fB.of (full_map (fun x => full_rKept x) _) ?_ | refine gRf ?_)) <;> (try (conv => whnf)))
  all_goals (simp only [left, *, if_true, if_false]; done)
theorem ok_laws_szEventS (k : Nat) (l : List Event) (m : Int) (h0 : 0 ≤ m) (h1 : m ≤ 1048576) (hl : l.length ≤ 140737488355328) : callE PR C (k + 1) 26 [hEvent 0 l, i64 m] [tEvent l] = some ⟨i64 (left m l.length), [], [none]⟩ := by
  (refine callE_is (callE_w [ResultVar.tmp 4] rfl Try.func26 rfl (by decide +kernel) rfl (by simp) ?_); (conv => whnf))
  repeat' ((with_reducible (first | refine gP ?_ | refine gN ?_ | refine fG.split (fun _ => ?_) (fun _ => ?_) | refine fG.not ?_ | refine gY ?_ | refine gF ?_ | refine fG.yes (flat_map (fun _ => rfl) _) ?_ | refine fG.bool (fun _ => ?_) (fun _ => ?_) | refine gS64 ?_ | refine gU8 ?_ | refine gI4 ?_ | refine fE.of rfl ?_ | refine gBq ?_ | refine gNum4 ?_ | refine gSet ?_ | refine gRd ?_ | refine gLk ?_ | refine gRow4 ?_ | refine fB.of (wide_map (fun _ => rfl) _) ?_ | refine fB.of (full_map (fun _ => rfl) _) ?_ | refine fB.of (full_map (fun x => full_rKept x) _) ?_ | refine gRf ?_)) <;> (try (conv => whnf)))
  all_goals (simp only [left, *, if_true, if_false]; done)
set_option maxRecDepth 10000 in
theorem ok_laws_toIns (k : Nat) (o r a b n : Int) : callE PR C (k + 1) 60 [.ag [i64 o, i64 r, i64 a, i64 b, i64 n]] [] = some ⟨.ag [i64 o, i64 r, i64 a, i64 b, i64 n], [], []⟩ := by
  (refine callE_is (callE_w [ResultVar.cell 2 86] rfl Try.func60 rfl (by decide +kernel) rfl (by simp) ?_); (conv => whnf))
  repeat' ((with_reducible (first | refine gP ?_ | refine gN ?_ | refine fG.split (fun _ => ?_) (fun _ => ?_) | refine fG.not ?_ | refine gY ?_ | refine gF ?_ | refine fG.yes (flat_map (fun _ => rfl) _) ?_ | refine fG.bool (fun _ => ?_) (fun _ => ?_) | refine gS64 ?_ | refine gU8 ?_ | refine gI4 ?_ | refine fE.of rfl ?_ | refine gBq ?_ | refine gNum4 ?_ | refine gSet ?_ | refine gRd ?_ | refine gLk ?_ | refine gRow4 ?_ | refine fB.of (wide_map (fun _ => rfl) _) ?_ | refine fB.of (full_map (fun _ => rfl) _) ?_ | refine fB.of (full_map (fun x => full_rKept x) _) ?_ | refine gRf ?_)) <;> (try (conv => whnf)))
set_option maxRecDepth 10000 in
theorem ok_laws_toEvent (k : Nat) (a b c : Int) : callE PR C (k + 1) 61 [.ag [i64 a, i64 b, i64 c]] [] = some ⟨.ag [i64 a, i64 b, i64 c], [], []⟩ := by
  (refine callE_is (callE_w [ResultVar.cell 2 90] rfl Try.func61 rfl (by decide +kernel) rfl (by simp) ?_); (conv => whnf))
  repeat' ((with_reducible (first | refine gP ?_ | refine gN ?_ | refine fG.split (fun _ => ?_) (fun _ => ?_) | refine fG.not ?_ | refine gY ?_ | refine gF ?_ | refine fG.yes (flat_map (fun _ => rfl) _) ?_ | refine fG.bool (fun _ => ?_) (fun _ => ?_) | refine gS64 ?_ | refine gU8 ?_ | refine gI4 ?_ | refine fE.of rfl ?_ | refine gBq ?_ | refine gNum4 ?_ | refine gSet ?_ | refine gRd ?_ | refine gLk ?_ | refine gRow4 ?_ | refine fB.of (wide_map (fun _ => rfl) _) ?_ | refine fB.of (full_map (fun _ => rfl) _) ?_ | refine fB.of (full_map (fun x => full_rKept x) _) ?_ | refine gRf ?_)) <;> (try (conv => whnf)))
theorem ok_laws_eqIns (k : Nat) (o r a b n : Int) : callE PR C (k + 1) 63 [.ag [i64 o, i64 r, i64 a, i64 b, i64 n], .ag [i64 o, i64 r, i64 a, i64 b, i64 n]] [] = some ⟨bl true, [], []⟩ := by
  (refine callE_is (callE_w [ResultVar.tmp 4] rfl Try.func63 rfl (by decide +kernel) rfl (by simp) ?_); (conv => whnf))
  repeat' ((with_reducible (first | refine gP ?_ | refine gN ?_ | refine fG.split (fun _ => ?_) (fun _ => ?_) | refine fG.not ?_ | refine gY ?_ | refine gF ?_ | refine fG.yes (flat_map (fun _ => rfl) _) ?_ | refine fG.bool (fun _ => ?_) (fun _ => ?_) | refine gS64 ?_ | refine gU8 ?_ | refine gI4 ?_ | refine fE.of rfl ?_ | refine gBq ?_ | refine gNum4 ?_ | refine gSet ?_ | refine gRd ?_ | refine gLk ?_ | refine gRow4 ?_ | refine fB.of (wide_map (fun _ => rfl) _) ?_ | refine fB.of (full_map (fun _ => rfl) _) ?_ | refine fB.of (full_map (fun x => full_rKept x) _) ?_ | refine gRf ?_)) <;> (try (conv => whnf)))
theorem ok_laws_eqEvent (k : Nat) (a b c : Int) : callE PR C (k + 1) 64 [.ag [i64 a, i64 b, i64 c], .ag [i64 a, i64 b, i64 c]] [] = some ⟨bl true, [], []⟩ := by
  (refine callE_is (callE_w [ResultVar.tmp 4] rfl Try.func64 rfl (by decide +kernel) rfl (by simp) ?_); (conv => whnf))
  repeat' ((with_reducible (first | refine gP ?_ | refine gN ?_ | refine fG.split (fun _ => ?_) (fun _ => ?_) | refine fG.not ?_ | refine gY ?_ | refine gF ?_ | refine fG.yes (flat_map (fun _ => rfl) _) ?_ | refine fG.bool (fun _ => ?_) (fun _ => ?_) | refine gS64 ?_ | refine gU8 ?_ | refine gI4 ?_ | refine fE.of rfl ?_ | refine gBq ?_ | refine gNum4 ?_ | refine gSet ?_ | refine gRd ?_ | refine gLk ?_ | refine gRow4 ?_ | refine fB.of (wide_map (fun _ => rfl) _) ?_ | refine fB.of (full_map (fun _ => rfl) _) ?_ | refine fB.of (full_map (fun x => full_rKept x) _) ?_ | refine gRf ?_)) <;> (try (conv => whnf)))

theorem set_rIns (l : List Ins) (n : Nat) (a b c d e : Int) : (l.map rIns).set n [.v (.int .i64 a), .v (.int .i64 b), .v (.int .i64 c), .v (.int .i64 d), .v (.int .i64 e)] = (l.set n ⟨a, b, c, d, e⟩).map rIns := by simp [rIns, List.map_set]
theorem rep_rIns (n : Nat) (a b c d e : Int) : List.replicate n [T.v (.int .i64 a), .v (.int .i64 b), .v (.int .i64 c), .v (.int .i64 d), .v (.int .i64 e)] = (List.replicate n (⟨a, b, c, d, e⟩ : Ins)).map rIns := by simp [rIns]
theorem set_rEvent (l : List Event) (n : Nat) (a b c : Int) : (l.map rEvent).set n [.v (.int .i64 a), .v (.int .i64 b), .v (.int .i64 c)] = (l.set n ⟨a, b, c⟩).map rEvent := by simp [rEvent, List.map_set]
theorem rep_rEvent (n : Nat) (a b c : Int) : List.replicate n [T.v (.int .i64 a), .v (.int .i64 b), .v (.int .i64 c)] = (List.replicate n (⟨a, b, c⟩ : Event)).map rEvent := by simp [rEvent]
theorem gI5 {p A : Prop} (h : A) (e : p := by first | with_reducible assumption | omega | (simp only [Nat.zero_add, Nat.add_zero, Nat.sub_zero, Int.toNat_natCast, Int.toNat_zero, Int.toNat_one, List.length_map, List.length_nil, Int.reduceToNat, Nat.reduceAdd, Nat.reduceSub, Int.sub_zero, Int.reduceAdd, Int.reduceSub, Nat.sub_self, Int.toNat_natCast_add_one, bs_len, List.length_append, List.length_cons, List.length_set, List.length_replicate, List.length_range]; first | done | omega)) : sI p A := sI.mk e h
theorem gNum5 {r r' : Nat} {F : Nat → Prop} (h : F r') (e : r = r' := by first | (simp only [Nat.zero_add, Nat.add_zero, Nat.sub_zero, Int.toNat_natCast, Int.toNat_zero, Int.toNat_one, List.length_map, List.length_nil, Int.reduceToNat, Nat.reduceAdd, Nat.reduceSub, Int.sub_zero, Int.reduceAdd, Int.reduceSub, Nat.sub_self, Int.toNat_natCast_add_one, bs_len]; rfl) | rfl) : sN r F := sN.eq e h
theorem gRow5 {r r' : List (List T)} {F : List (List T) → Prop} (h : F r') (e : r = r' := by first | (simp only [Nat.add_zero, Nat.zero_add, Nat.reduceAdd, List.drop_zero, List.take_succ_cons, List.take_nil, List.drop_succ_cons, List.drop_nil, List.take_zero, List.nil_append, List.append_nil, List.map_nil, drop_suf, take_pre, drop_map, List.take_length, take_len_set, take_len_app, List.set_set, List.length_map, set_rIns, rep_rIns, set_rEvent, rep_rEvent, snoc_rKept, snoc_rEvent, snoc_rIns, bytesT_bs, snoc_rI, snoc_rB, snoc_rBool, set_rI, set_rBool, rep_rI, rep_rBool, map_app]; rfl) | rfl) : sR r F := sR.eq e h
/-- A list, filled from the front. -/
def fill {α : Type} [Inhabited α] (l : List α) (j : Nat) : List α := l.take j ++ List.replicate (l.length - j) default
theorem fill_set {α : Type} [Inhabited α] (l : List α) (j : Nat) (h : j < l.length) : (fill l j).set j (rd l j) = fill l (j + 1) := by
  apply List.ext_getElem?
  intro i
  simp only [fill, rd, List.getElem?_set, List.getElem?_append, List.length_take, List.getElem?_take, List.getElem?_replicate, List.length_append, List.length_replicate, List.getD]
  by_cases e : i = j
  · subst e
    have h1 : i < min i l.length + (l.length - i) := by omega
    have h2 : i < min (i + 1) l.length := by omega
    simp [h1, h2, h]
  · have e' : ¬ j = i := fun x => e x.symm
    simp only [e', if_false]
    by_cases h1 : i < min j l.length
    · have h2 : i < min (j + 1) l.length := by omega
      have h3 : i < j := by omega
      have h4 : i < j + 1 := by omega
      simp [h1, h2, h3, h4]
    · have h2 : ¬ i < min (j + 1) l.length := by omega
      simp only [h1, h2, if_false]
      congr 1
      simp only [eq_iff_iff]
      omega
theorem fill_len {α : Type} [Inhabited α] (l : List α) (j : Nat) : (fill l j).length = l.length := by simp [fill]; omega
theorem fill_zero {α : Type} [Inhabited α] (l : List α) : fill l 0 = List.replicate l.length default := by simp [fill]
theorem fill_all {α : Type} [Inhabited α] (l : List α) : fill l l.length = l := by simp [fill]
abbrev tIns9 (l : List Ins) : Cont := .tree 9 (.sl 5 (l.map rIns))
abbrev tEvent9 (l : List Event) : Cont := .tree 9 (.sl 3 (l.map rEvent))
structure TL (α : Type) where
  j : Nat
  l : List α
  g : Nat
  d : Bool
theorem ok_laws_toInsS (k : Nat) (l : List Ins) (hl : l.length ≤ 100000000000) : callE PR C (k + 2) 29 [hIns 0 l] [tIns l] = some ⟨.h 2000000 1 0 [] 5 0 l.length, [tIns9 l], [none]⟩ := by
  (refine callE_is (callE_w [ResultVar.tmp 2] rfl Try.func29 rfl (by decide +kernel) rfl (by simp) ?_); (conv => whnf))
  repeat' ((with_reducible (first | refine gP ?_ | refine gN ?_ | refine fG.split (fun _ => ?_) (fun _ => ?_) | refine fG.not ?_ | refine gY ?_ | refine gF ?_ | refine fG.yes (flat_map (fun _ => rfl) _) ?_ | refine fG.bool (fun _ => ?_) (fun _ => ?_) | refine gS64 ?_ | refine gU8 ?_ | refine gI5 ?_ | refine fE.of rfl ?_ | refine gBq ?_ | refine gNum5 ?_ | refine gSet ?_ | refine gRd ?_ | refine gLk ?_ | refine gRow5 ?_ | refine fB.of (wide_map (fun _ => rfl) _) ?_ | refine fB.of (full_map (fun _ => rfl) _) ?_ | refine fB.of (full_map (fun x => full_rKept x) _) ?_ | refine gRf ?_)) <;> (try (conv => whnf)))
  refine loop_rule (ι := TL Ins) (fun x => [(0, hIns 0 l), (3, .h 7 1 0 [] 5 0 l.length), (4, i64 (x.j : Nat))])
    (fun x => [(1000000, ⟨0, 0, false, tIns l⟩), (7, ⟨1, x.g, x.d, tIns9 x.l⟩)])
    (fun x => l.length - x.j) (fun x => x.j ≤ l.length ∧ x.l = fill l x.j) ⟨0, List.replicate l.length default, 0, false⟩ (by (try dsimp only [cond_true, cond_false]); exact ⟨⟨rfl, rfl, rfl, trivial⟩, ⟨rfl, rfl, trivial⟩⟩) ⟨Nat.zero_le _, (fill_zero l).symm⟩ (by simp [C]; omega) ?_
  rintro ⟨j, out, g, d⟩ sl ob ⟨hj, hout⟩
  dsimp only at hj hout
  have hlen : out.length = l.length := by rw [hout, fill_len]
  (try dsimp only [cond_true, cond_false])
  (conv => whnf)
  repeat' ((with_reducible (first | refine sCall.of (ok_laws_toIns _ _ _ _ _ _) ?_ | refine gP ?_ | refine gN ?_ | refine fG.split (fun _ => ?_) (fun _ => ?_) | refine fG.not ?_ | refine gY ?_ | refine gF ?_ | refine fG.yes (flat_map (fun _ => rfl) _) ?_ | refine fG.bool (fun _ => ?_) (fun _ => ?_) | refine gS64 ?_ | refine gU8 ?_ | refine gI5 ?_ | refine fE.of rfl ?_ | refine gBq ?_ | refine gNum5 ?_ | refine gSet ?_ | refine gRd ?_ | refine gLk ?_ | refine gRow5 ?_ | refine fB.of (wide_map (fun _ => rfl) _) ?_ | refine fB.of (full_map (fun _ => rfl) _) ?_ | refine fB.of (full_map (fun x => full_rKept x) _) ?_ | refine gRf ?_)) <;> (try (conv => whnf)))
  case' refine_1 h =>
    refine ⟨⟨⟨j + 1, out.set j (rd l j), _, _⟩, (by (try dsimp only [cond_true, cond_false]); exact ⟨⟨rfl, rfl, rfl, trivial⟩, ⟨rfl, rfl, trivial⟩⟩), ?_, ?_⟩⟩
    · exact ⟨by show j + 1 ≤ _; omega, by show _ = _; rw [hout]; exact fill_set l j (by omega)⟩
    · show l.length - (j + 1) < l.length - j; omega
  case refine_2 h =>
    have : j = l.length := by omega
    rw [hout, this, fill_all, List.take_length]

theorem ok_laws_toEventS (k : Nat) (l : List Event) (hl : l.length ≤ 100000000000) : callE PR C (k + 2) 30 [hEvent 0 l] [tEvent l] = some ⟨.h 2000000 1 0 [] 3 0 l.length, [tEvent9 l], [none]⟩ := by
  (refine callE_is (callE_w [ResultVar.tmp 2] rfl Try.func30 rfl (by decide +kernel) rfl (by simp) ?_); (conv => whnf))
  repeat' ((with_reducible (first | refine gP ?_ | refine gN ?_ | refine fG.split (fun _ => ?_) (fun _ => ?_) | refine fG.not ?_ | refine gY ?_ | refine gF ?_ | refine fG.yes (flat_map (fun _ => rfl) _) ?_ | refine fG.bool (fun _ => ?_) (fun _ => ?_) | refine gS64 ?_ | refine gU8 ?_ | refine gI5 ?_ | refine fE.of rfl ?_ | refine gBq ?_ | refine gNum5 ?_ | refine gSet ?_ | refine gRd ?_ | refine gLk ?_ | refine gRow5 ?_ | refine fB.of (wide_map (fun _ => rfl) _) ?_ | refine fB.of (full_map (fun _ => rfl) _) ?_ | refine fB.of (full_map (fun x => full_rKept x) _) ?_ | refine gRf ?_)) <;> (try (conv => whnf)))
  refine loop_rule (ι := TL Event) (fun x => [(0, hEvent 0 l), (3, .h 7 1 0 [] 3 0 l.length), (4, i64 (x.j : Nat))])
    (fun x => [(1000000, ⟨0, 0, false, tEvent l⟩), (7, ⟨1, x.g, x.d, tEvent9 x.l⟩)])
    (fun x => l.length - x.j) (fun x => x.j ≤ l.length ∧ x.l = fill l x.j) ⟨0, List.replicate l.length default, 0, false⟩ (by (try dsimp only [cond_true, cond_false]); exact ⟨⟨rfl, rfl, rfl, trivial⟩, ⟨rfl, rfl, trivial⟩⟩) ⟨Nat.zero_le _, (fill_zero l).symm⟩ (by simp [C]; omega) ?_
  rintro ⟨j, out, g, d⟩ sl ob ⟨hj, hout⟩
  dsimp only at hj hout
  have hlen : out.length = l.length := by rw [hout, fill_len]
  (try dsimp only [cond_true, cond_false])
  (conv => whnf)
  repeat' ((with_reducible (first | refine sCall.of (ok_laws_toEvent _ _ _ _) ?_ | refine gP ?_ | refine gN ?_ | refine fG.split (fun _ => ?_) (fun _ => ?_) | refine fG.not ?_ | refine gY ?_ | refine gF ?_ | refine fG.yes (flat_map (fun _ => rfl) _) ?_ | refine fG.bool (fun _ => ?_) (fun _ => ?_) | refine gS64 ?_ | refine gU8 ?_ | refine gI5 ?_ | refine fE.of rfl ?_ | refine gBq ?_ | refine gNum5 ?_ | refine gSet ?_ | refine gRd ?_ | refine gLk ?_ | refine gRow5 ?_ | refine fB.of (wide_map (fun _ => rfl) _) ?_ | refine fB.of (full_map (fun _ => rfl) _) ?_ | refine fB.of (full_map (fun x => full_rKept x) _) ?_ | refine gRf ?_)) <;> (try (conv => whnf)))
  case' refine_1 h =>
    refine ⟨⟨⟨j + 1, out.set j (rd l j), _, _⟩, (by (try dsimp only [cond_true, cond_false]); exact ⟨⟨rfl, rfl, rfl, trivial⟩, ⟨rfl, rfl, trivial⟩⟩), ?_, ?_⟩⟩
    · exact ⟨by show j + 1 ≤ _; omega, by show _ = _; rw [hout]; exact fill_set l j (by omega)⟩
    · show l.length - (j + 1) < l.length - j; omega
  case refine_2 h =>
    have : j = l.length := by omega
    rw [hout, this, fill_all, List.take_length]
theorem ok_laws_eqInsS (k : Nat) (l : List Ins) (hl : l.length ≤ 100000000000) : callE PR C (k + 2) 32 [hIns 0 l, hIns 1 l] [tIns l, tIns l] = some ⟨bl true, [], [none, none]⟩ := by
  (refine callE_is (callE_w [ResultVar.tmp 4] rfl Try.func32 rfl (by decide +kernel) rfl (by simp) ?_); (conv => whnf))
  repeat' ((with_reducible (first | refine gP ?_ | refine gN ?_ | refine fG.split (fun _ => ?_) (fun _ => ?_) | refine fG.not ?_ | refine gY ?_ | refine gF ?_ | refine fG.yes (flat_map (fun _ => rfl) _) ?_ | refine fG.bool (fun _ => ?_) (fun _ => ?_) | refine gS64 ?_ | refine gU8 ?_ | refine gI5 ?_ | refine fE.of rfl ?_ | refine gBq ?_ | refine gNum5 ?_ | refine gSet ?_ | refine gRd ?_ | refine gLk ?_ | refine gRow5 ?_ | refine fB.of (wide_map (fun _ => rfl) _) ?_ | refine fB.of (full_map (fun _ => rfl) _) ?_ | refine fB.of (full_map (fun x => full_rKept x) _) ?_ | refine gRf ?_ | refine sDraw.none (id := 6) (ty := tys) rfl (by decide +kernel) ?_)) <;> (try (conv => whnf)))
  refine loop_rule (ι := Nat) (fun j => [(0, hIns 0 l), (1, hIns 1 l), (5, i64 (j : Nat))])
    (fun x => [(1000000, ⟨0, 0, false, tIns l⟩), (1000001, ⟨0, 0, false, tIns l⟩)])
    (fun j => l.length - j) (fun j => j ≤ l.length) 0 (by (try dsimp only [cond_true, cond_false]); exact ⟨⟨rfl, rfl, rfl, trivial⟩, ⟨rfl, rfl, trivial⟩⟩) (Nat.zero_le _) (by simp [C]; omega) ?_
  rintro j sl ob hj
  (try dsimp only [cond_true, cond_false])
  (conv => whnf)
  repeat' ((with_reducible (first | refine sCall.of (ok_laws_eqIns _ _ _ _ _ _) ?_ | refine gP ?_ | refine gN ?_ | refine fG.split (fun _ => ?_) (fun _ => ?_) | refine fG.not ?_ | refine gY ?_ | refine gF ?_ | refine fG.yes (flat_map (fun _ => rfl) _) ?_ | refine fG.bool (fun _ => ?_) (fun _ => ?_) | refine gS64 ?_ | refine gU8 ?_ | refine gI5 ?_ | refine fE.of rfl ?_ | refine gBq ?_ | refine gNum5 ?_ | refine gSet ?_ | refine gRd ?_ | refine gLk ?_ | refine gRow5 ?_ | refine fB.of (wide_map (fun _ => rfl) _) ?_ | refine fB.of (full_map (fun _ => rfl) _) ?_ | refine fB.of (full_map (fun x => full_rKept x) _) ?_ | refine gRf ?_ | refine sDraw.none (id := 6) (ty := tys) rfl (by decide +kernel) ?_)) <;> (try (conv => whnf)))
  case' refine_1 h =>
    refine ⟨⟨j + 1, (by (try dsimp only [cond_true, cond_false]); exact ⟨⟨rfl, rfl, rfl, trivial⟩, ⟨rfl, rfl, trivial⟩⟩), ?_, ?_⟩⟩
    · show j + 1 ≤ _; omega
    · show l.length - (j + 1) < l.length - j; omega
theorem ok_laws_eqEventS (k : Nat) (l : List Event) (hl : l.length ≤ 100000000000) : callE PR C (k + 2) 33 [hEvent 0 l, hEvent 1 l] [tEvent l, tEvent l] = some ⟨bl true, [], [none, none]⟩ := by
  (refine callE_is (callE_w [ResultVar.tmp 4] rfl Try.func33 rfl (by decide +kernel) rfl (by simp) ?_); (conv => whnf))
  repeat' ((with_reducible (first | refine gP ?_ | refine gN ?_ | refine fG.split (fun _ => ?_) (fun _ => ?_) | refine fG.not ?_ | refine gY ?_ | refine gF ?_ | refine fG.yes (flat_map (fun _ => rfl) _) ?_ | refine fG.bool (fun _ => ?_) (fun _ => ?_) | refine gS64 ?_ | refine gU8 ?_ | refine gI5 ?_ | refine fE.of rfl ?_ | refine gBq ?_ | refine gNum5 ?_ | refine gSet ?_ | refine gRd ?_ | refine gLk ?_ | refine gRow5 ?_ | refine fB.of (wide_map (fun _ => rfl) _) ?_ | refine fB.of (full_map (fun _ => rfl) _) ?_ | refine fB.of (full_map (fun x => full_rKept x) _) ?_ | refine gRf ?_ | refine sDraw.none (id := 6) (ty := tys) rfl (by decide +kernel) ?_)) <;> (try (conv => whnf)))
  refine loop_rule (ι := Nat) (fun j => [(0, hEvent 0 l), (1, hEvent 1 l), (5, i64 (j : Nat))])
    (fun x => [(1000000, ⟨0, 0, false, tEvent l⟩), (1000001, ⟨0, 0, false, tEvent l⟩)])
    (fun j => l.length - j) (fun j => j ≤ l.length) 0 (by (try dsimp only [cond_true, cond_false]); exact ⟨⟨rfl, rfl, rfl, trivial⟩, ⟨rfl, rfl, trivial⟩⟩) (Nat.zero_le _) (by simp [C]; omega) ?_
  rintro j sl ob hj
  (try dsimp only [cond_true, cond_false])
  (conv => whnf)
  repeat' ((with_reducible (first | refine sCall.of (ok_laws_eqEvent _ _ _ _) ?_ | refine gP ?_ | refine gN ?_ | refine fG.split (fun _ => ?_) (fun _ => ?_) | refine fG.not ?_ | refine gY ?_ | refine gF ?_ | refine fG.yes (flat_map (fun _ => rfl) _) ?_ | refine fG.bool (fun _ => ?_) (fun _ => ?_) | refine gS64 ?_ | refine gU8 ?_ | refine gI5 ?_ | refine fE.of rfl ?_ | refine gBq ?_ | refine gNum5 ?_ | refine gSet ?_ | refine gRd ?_ | refine gLk ?_ | refine gRow5 ?_ | refine fB.of (wide_map (fun _ => rfl) _) ?_ | refine fB.of (full_map (fun _ => rfl) _) ?_ | refine fB.of (full_map (fun x => full_rKept x) _) ?_ | refine gRf ?_ | refine sDraw.none (id := 6) (ty := tys) rfl (by decide +kernel) ?_)) <;> (try (conv => whnf)))
  case' refine_1 h =>
    refine ⟨⟨j + 1, (by (try dsimp only [cond_true, cond_false]); exact ⟨⟨rfl, rfl, rfl, trivial⟩, ⟨rfl, rfl, trivial⟩⟩), ?_, ?_⟩⟩
    · show j + 1 ≤ _; omega
    · show l.length - (j + 1) < l.length - j; omega
theorem ok_laws_eqIntS (k : Nat) (l : List Int) (hl : l.length ≤ 100000000000) : callE PR C (k + 1) 69 [.h 1000000 0 0 [] 1 0 l.length, .h 1000001 0 0 [] 1 0 l.length] [tI l, tI l] = some ⟨bl true, [], [none, none]⟩ := by
  (refine callE_is (callE_w [ResultVar.tmp 4] rfl Try.func69 rfl (by decide +kernel) rfl (by simp) ?_); (conv => whnf))
  repeat' ((with_reducible (first | refine gP ?_ | refine gN ?_ | refine fG.split (fun _ => ?_) (fun _ => ?_) | refine fG.not ?_ | refine gY ?_ | refine gF ?_ | refine fG.yes (flat_map (fun _ => rfl) _) ?_ | refine fG.bool (fun _ => ?_) (fun _ => ?_) | refine gS64 ?_ | refine gU8 ?_ | refine gI5 ?_ | refine fE.of rfl ?_ | refine gBq ?_ | refine gNum5 ?_ | refine gSet ?_ | refine gRd ?_ | refine gLk ?_ | refine gRow5 ?_ | refine fB.of (wide_map (fun _ => rfl) _) ?_ | refine fB.of (full_map (fun _ => rfl) _) ?_ | refine fB.of (full_map (fun x => full_rKept x) _) ?_ | refine gRf ?_ | refine sDraw.none (id := 6) (ty := tys) rfl (by decide +kernel) ?_)) <;> (try (conv => whnf)))
  refine loop_rule (ι := Nat) (fun j => [(0, .h 1000000 0 0 [] 1 0 l.length), (1, .h 1000001 0 0 [] 1 0 l.length), (5, i64 (j : Nat))])
    (fun x => [(1000000, ⟨0, 0, false, tI l⟩), (1000001, ⟨0, 0, false, tI l⟩)])
    (fun j => l.length - j) (fun j => j ≤ l.length) 0 (by (try dsimp only [cond_true, cond_false]); exact ⟨⟨rfl, rfl, rfl, trivial⟩, ⟨rfl, rfl, trivial⟩⟩) (Nat.zero_le _) (by simp [C]; omega) ?_
  rintro j sl ob hj
  (try dsimp only [cond_true, cond_false])
  (conv => whnf)
  repeat' ((with_reducible (first | refine gP ?_ | refine gN ?_ | refine fG.split (fun _ => ?_) (fun _ => ?_) | refine fG.not ?_ | refine gY ?_ | refine gF ?_ | refine fG.yes (flat_map (fun _ => rfl) _) ?_ | refine fG.bool (fun _ => ?_) (fun _ => ?_) | refine gS64 ?_ | refine gU8 ?_ | refine gI5 ?_ | refine fE.of rfl ?_ | refine gBq ?_ | refine gNum5 ?_ | refine gSet ?_ | refine gRd ?_ | refine gLk ?_ | refine gRow5 ?_ | refine fB.of (wide_map (fun _ => rfl) _) ?_ | refine fB.of (full_map (fun _ => rfl) _) ?_ | refine fB.of (full_map (fun x => full_rKept x) _) ?_ | refine gRf ?_ | refine sDraw.none (id := 6) (ty := tys) rfl (by decide +kernel) ?_)) <;> (try (conv => whnf)))
  case' refine_1 h =>
    refine ⟨⟨j + 1, (by (try dsimp only [cond_true, cond_false]); exact ⟨⟨rfl, rfl, rfl, trivial⟩, ⟨rfl, rfl, trivial⟩⟩), ?_, ?_⟩⟩
    · show j + 1 ≤ _; omega
    · show l.length - (j + 1) < l.length - j; omega
theorem ok_laws_eqState (k : Nat) (a c : Int) (r o : List Int) (hr : r.length ≤ 100000000000) (ho : o.length ≤ 100000000000) : callE PR C (k + 2) 38 [.ag [i64 a, .h 1000000 0 0 [] 1 0 r.length, .h 1000001 0 0 [] 1 0 o.length, i64 c], .ag [i64 a, .h 1000002 0 0 [] 1 0 r.length, .h 1000003 0 0 [] 1 0 o.length, i64 c]] [tI r, tI o, tI r, tI o] = some ⟨bl true, [], [none, none, none, none]⟩ := by
  (refine callE_is (callE_w [ResultVar.tmp 4] rfl Try.func38 rfl (by decide +kernel) rfl (by simp) ?_); (conv => whnf))
  repeat' ((with_reducible (first | refine sCall.of (ok_laws_eqIntS _ _ hr) ?_ | refine sCall.of (ok_laws_eqIntS _ _ ho) ?_ | refine gP ?_ | refine gN ?_ | refine fG.split (fun _ => ?_) (fun _ => ?_) | refine fG.not ?_ | refine gY ?_ | refine gF ?_ | refine fG.yes (flat_map (fun _ => rfl) _) ?_ | refine fG.bool (fun _ => ?_) (fun _ => ?_) | refine gS64 ?_ | refine gU8 ?_ | refine gI5 ?_ | refine fE.of rfl ?_ | refine gBq ?_ | refine gNum5 ?_ | refine gSet ?_ | refine gRd ?_ | refine gLk ?_ | refine gRow5 ?_ | refine fB.of (wide_map (fun _ => rfl) _) ?_ | refine fB.of (full_map (fun _ => rfl) _) ?_ | refine fB.of (full_map (fun x => full_rKept x) _) ?_ | refine gRf ?_)) <;> (try (conv => whnf)))
theorem ok_laws_eqKept (k : Nat) (n a c : Int) (r o : List Int) (hr : r.length ≤ 100000000000) (ho : o.length ≤ 100000000000) : callE PR C (k + 3) 65 [.ag [i64 n, i64 a, .h 1000000 0 0 [] 1 0 r.length, .h 1000001 0 0 [] 1 0 o.length, i64 c], .ag [i64 n, i64 a, .h 1000002 0 0 [] 1 0 r.length, .h 1000003 0 0 [] 1 0 o.length, i64 c]] [tI r, tI o, tI r, tI o] = some ⟨bl true, [], [none, none, none, none]⟩ := by
  (refine callE_is (callE_w [ResultVar.tmp 4] rfl Try.func65 rfl (by decide +kernel) rfl (by simp) ?_); (conv => whnf))
  repeat' ((with_reducible (first | refine sCall.of (ok_laws_eqState _ _ _ _ _ hr ho) ?_ | refine gP ?_ | refine gN ?_ | refine fG.split (fun _ => ?_) (fun _ => ?_) | refine fG.not ?_ | refine gY ?_ | refine gF ?_ | refine fG.yes (flat_map (fun _ => rfl) _) ?_ | refine fG.bool (fun _ => ?_) (fun _ => ?_) | refine gS64 ?_ | refine gU8 ?_ | refine gI5 ?_ | refine fE.of rfl ?_ | refine gBq ?_ | refine gNum5 ?_ | refine gSet ?_ | refine gRd ?_ | refine gLk ?_ | refine gRow5 ?_ | refine fB.of (wide_map (fun _ => rfl) _) ?_ | refine fB.of (full_map (fun _ => rfl) _) ?_ | refine fB.of (full_map (fun x => full_rKept x) _) ?_ | refine gRf ?_)) <;> (try (conv => whnf)))

/-! ### Marks -/
/-- Marked lists: 'one' marks an element from a number on, 'wt' tells how many marks that takes. -/
def marks {α : Type} (one : Int → α → α) (wt : α → Nat) : Int → List α → List α
  | _, [] => []
  | m, x :: r => one m x :: marks one wt (m + wt x) r
def wts {α : Type} (wt : α → Nat) : List α → Nat
  | [] => 0
  | x :: r => wt x + wts wt r
theorem wts_app {α : Type} (wt : α → Nat) (l m : List α) : wts wt (l ++ m) = wts wt l + wts wt m := by
  induction l with
  | nil => simp [wts]
  | cons x l ih => simp only [List.cons_append, wts, ih]; omega
theorem marks_app {α : Type} (one : Int → α → α) (wt : α → Nat) (l r : List α) : ∀ m, marks one wt m (l ++ r) = marks one wt m l ++ marks one wt (m + wts wt l) r := by
  induction l with
  | nil => intro m; simp [wts, marks]
  | cons x l ih => intro m; simp only [List.cons_append, marks, wts, ih]; rw [show m + (wt x : Int) + (wts wt l : Int) = m + ((wt x + wts wt l : Nat) : Int) by omega]
theorem marks_len {α : Type} (one : Int → α → α) (wt : α → Nat) (l : List α) : ∀ m, (marks one wt m l).length = l.length := by
  induction l with
  | nil => intro m; rfl
  | cons x l ih => intro m; simp only [marks, List.length_cons, ih]
theorem take_rd {α : Type} [Inhabited α] {l : List α} {j : Nat} (h : j < l.length) : l.take (j + 1) = l.take j ++ [rd l j] := by
  rw [List.take_succ_eq_append_getElem h]; simp [rd, h]
/-- A list whose first elements are marked. -/
def half {α : Type} (one : Int → α → α) (wt : α → Nat) (m : Int) (l : List α) (j : Nat) : List α := marks one wt m (l.take j) ++ l.drop j
theorem half_len {α : Type} (one : Int → α → α) (wt : α → Nat) (m : Int) (l : List α) (j : Nat) : (half one wt m l j).length = l.length := by simp [half, marks_len]; omega
theorem half_set {α : Type} [Inhabited α] (one : Int → α → α) (wt : α → Nat) (m : Int) (l : List α) (j : Nat) (h : j < l.length) :
    (half one wt m l j).set j (one (m + wts wt (l.take j)) (rd l j)) = half one wt m l (j + 1) := by
  have hl : (marks one wt m (l.take j)).length = j := by simp [marks_len]; omega
  unfold half
  rw [take_rd h, marks_app, drop_rd h, List.set_append, hl]
  simp [marks]
theorem half_rd {α : Type} [Inhabited α] (one : Int → α → α) (wt : α → Nat) (m : Int) (l : List α) (j : Nat) (h : j < l.length) : rd (half one wt m l j) j = rd l j := by
  have hl : (marks one wt m (l.take j)).length = j := by simp [marks_len]; omega
  unfold half
  rw [drop_rd h]
  simp only [rd, List.getD, List.getElem?_append, hl]
  simp
theorem half_zero {α : Type} (one : Int → α → α) (wt : α → Nat) (m : Int) (l : List α) : half one wt m l 0 = l := by simp [half, marks]
theorem half_all {α : Type} (one : Int → α → α) (wt : α → Nat) (m : Int) (l : List α) : half one wt m l l.length = marks one wt m l := by simp [half]
theorem wts_take {α : Type} [Inhabited α] (wt : α → Nat) (l : List α) (j : Nat) (h : j < l.length) : wts wt (l.take (j + 1)) = wts wt (l.take j) + wt (rd l j) := by
  rw [take_rd h, wts_app]; simp [wts]
theorem wts_le {α : Type} (wt : α → Nat) (l : List α) (j : Nat) : wts wt (l.take j) ≤ wts wt l := by
  have := wts_app wt (l.take j) (l.drop j)
  rw [List.take_append_drop] at this
  omega
theorem marks_rd {α : Type} [Inhabited α] (one : Int → α → α) (wt : α → Nat) (m : Int) (l : List α) (j : Nat) (h : j < l.length) : rd (marks one wt m l) j = one (m + wts wt (l.take j)) (rd l j) := by
  have hl : (marks one wt m (l.take j)).length = j := by simp [marks_len]; omega
  have e : l = l.take j ++ rd l j :: l.drop (j + 1) := by rw [← drop_rd h, List.take_append_drop]
  conv => lhs; rw [e]
  rw [marks_app]
  simp only [rd, List.getD, List.getElem?_append, hl]
  simp [marks]
theorem wts_const {α : Type} (n : Nat) (l : List α) : wts (fun _ => n) l = n * l.length := by
  induction l with
  | nil => rfl
  | cons x l ih => simp only [wts, ih, List.length_cons, Nat.mul_add]; omega
structure TM (α : Type) where
  j : Nat
  m : Int
  l : List α
  g : Nat
  d : Bool
abbrev tI8 (l : List Int) : Cont := .tree 8 (.sl 1 (l.map rI))
def mInt (m : Int) (x : Int) : Int := m
def wInt (x : Int) : Nat := 1
abbrev marksI (m : Int) (l : List Int) : List Int := marks mInt wInt m l
theorem wts_wInt (l : List Int) : wts wInt l = l.length := (wts_const 1 l).trans (Nat.one_mul _)
theorem ok_laws_markIntS (k : Nat) (l : List Int) (m : Int) (hl : l.length ≤ 100000000000) (h0 : 0 ≤ m) (h1 : m ≤ 100000000000) : callE PR C (k + 1) 70 [.h 1000000 0 0 [] 1 0 l.length, i64 m] [tI8 l] = some ⟨i64 (m + l.length), [], [some (tI8 (marksI m l))]⟩ := by
  (refine callE_is (callE_w [ResultVar.tmp 4] rfl Try.func70 rfl (by decide +kernel) rfl (by simp) ?_); (conv => whnf))
  repeat' ((with_reducible (first | refine gP ?_ | refine gN ?_ | refine fG.split (fun _ => ?_) (fun _ => ?_) | refine fG.not ?_ | refine gY ?_ | refine gF ?_ | refine fG.yes (flat_map (fun _ => rfl) _) ?_ | refine fG.bool (fun _ => ?_) (fun _ => ?_) | refine gS64 ?_ | refine gU8 ?_ | refine gI5 ?_ | refine fE.of rfl ?_ | refine gBq ?_ | refine gNum5 ?_ | refine gSet ?_ | refine gRd ?_ | refine gLk ?_ | refine gRow5 ?_ | refine fB.of (wide_map (fun _ => rfl) _) ?_ | refine fB.of (full_map (fun _ => rfl) _) ?_ | refine fB.of (full_map (fun x => full_rKept x) _) ?_ | refine gRf ?_)) <;> (try (conv => whnf)))
  refine loop_rule (ι := TM Int) (fun x => [(0, .h 1000000 0 0 [] 1 0 l.length), (1, i64 x.m), (5, i64 (x.j : Nat))])
    (fun x => [(1000000, ⟨0, x.g, x.d, tI8 x.l⟩)])
    (fun x => l.length - x.j) (fun x => x.j ≤ l.length ∧ x.l = half mInt wInt m l x.j ∧ x.m = m + x.j) ⟨0, m, l, 0, false⟩ (by (try dsimp only [cond_true, cond_false]); exact ⟨⟨rfl, rfl, rfl, trivial⟩, ⟨rfl, trivial⟩⟩) ⟨Nat.zero_le _, (half_zero _ _ m l).symm, by simp⟩ (by simp [C]; omega) ?_
  rintro ⟨j, n, out, g, d⟩ sl ob ⟨hj, hout, hn⟩
  dsimp only at hj hout hn
  have hlen : out.length = l.length := by rw [hout, half_len]
  (try dsimp only [cond_true, cond_false])
  (conv => whnf)
  repeat' ((with_reducible (first | refine gP ?_ | refine gN ?_ | refine fG.split (fun _ => ?_) (fun _ => ?_) | refine fG.not ?_ | refine gY ?_ | refine gF ?_ | refine fG.yes (flat_map (fun _ => rfl) _) ?_ | refine fG.bool (fun _ => ?_) (fun _ => ?_) | refine gS64 ?_ | refine gU8 ?_ | refine gI5 ?_ | refine fE.of rfl ?_ | refine gBq ?_ | refine gNum5 ?_ | refine gSet ?_ | refine gRd ?_ | refine gLk ?_ | refine gRow5 ?_ | refine fB.of (wide_map (fun _ => rfl) _) ?_ | refine fB.of (full_map (fun _ => rfl) _) ?_ | refine fB.of (full_map (fun x => full_rKept x) _) ?_ | refine gRf ?_)) <;> (try (conv => whnf)))
  case' refine_1 h =>
    refine ⟨⟨⟨j + 1, n + 1, out.set j n, _, _⟩, (by (try dsimp only [cond_true, cond_false]); exact ⟨⟨rfl, rfl, rfl, trivial⟩, ⟨rfl, trivial⟩⟩), ?_, ?_⟩⟩
    · refine ⟨by show j + 1 ≤ _; omega, ?_, by show _ = _; push_cast; omega⟩
      show _ = _
      rw [← half_set _ _ m l j (by omega), hout, hn]
      simp only [wts_wInt, List.length_take, mInt, show min j l.length = j by omega]
    · show l.length - (j + 1) < l.length - j; omega
  case refine_2 h =>
    have : j = l.length := by omega
    rw [hout, hn, this, half_all]

theorem set_set3 {α : Type} (l : List α) (n : Nat) (x y : α) : (l.set n x).set n y = l.set n y := List.set_set ..
def mIns (m : Int) (x : Ins) : Ins := ⟨m, m + 1, m + 1 + 1, m + 1 + 1 + 1, m + 1 + 1 + 1 + 1⟩
def wIns (x : Ins) : Nat := 5
def mEvent (m : Int) (x : Event) : Event := ⟨m, m + 1, m + 1 + 1⟩
def wEvent (x : Event) : Nat := 3
theorem wts_wIns (l : List Ins) : wts wIns l = 5 * l.length := wts_const 5 l
theorem wts_wEvent (l : List Event) : wts wEvent l = 3 * l.length := wts_const 3 l
theorem ok_laws_markInsS (k : Nat) (l : List Ins) (m : Int) (hl : l.length ≤ 100000000000) (h0 : 0 ≤ m) (h1 : m ≤ 100000000000) : callE PR C (k + 1) 39 [hIns 0 l, i64 m] [tIns9 l] = some ⟨i64 (m + 5 * l.length), [], [some (tIns9 (marks mIns wIns m l))]⟩ := by
  (refine callE_is (callE_w [ResultVar.tmp 4] rfl Try.func39 rfl (by decide +kernel) rfl (by simp) ?_); (conv => whnf))
  repeat' ((with_reducible (first | refine gP ?_ | refine gN ?_ | refine fG.split (fun _ => ?_) (fun _ => ?_) | refine fG.not ?_ | refine gY ?_ | refine gF ?_ | refine fG.yes (flat_map (fun _ => rfl) _) ?_ | refine fG.bool (fun _ => ?_) (fun _ => ?_) | refine gS64 ?_ | refine gU8 ?_ | refine gI5 ?_ | refine fE.of rfl ?_ | refine gBq ?_ | refine gNum5 ?_ | refine gSet ?_ | refine gRd ?_ | refine gLk ?_ | refine gRow5 ?_ | refine fB.of (wide_map (fun _ => rfl) _) ?_ | refine fB.of (full_map (fun _ => rfl) _) ?_ | refine fB.of (full_map (fun x => full_rKept x) _) ?_ | refine gRf ?_)) <;> (try (conv => whnf)))
  refine loop_rule (ι := TM Ins) (fun x => [(0, hIns 0 l), (1, i64 x.m), (5, i64 (x.j : Nat))])
    (fun x => [(1000000, ⟨0, x.g, x.d, tIns9 x.l⟩)])
    (fun x => l.length - x.j) (fun x => x.j ≤ l.length ∧ x.l = half mIns wIns m l x.j ∧ x.m = m + 5 * x.j) ⟨0, m, l, 0, false⟩ (by (try dsimp only [cond_true, cond_false]); exact ⟨⟨rfl, rfl, rfl, trivial⟩, ⟨rfl, trivial⟩⟩) ⟨Nat.zero_le _, (half_zero _ _ m l).symm, by simp⟩ (by simp [C]; omega) ?_
  rintro ⟨j, n, out, g, d⟩ sl ob ⟨hj, hout, hn⟩
  dsimp only at hj hout hn
  have hlen : out.length = l.length := by rw [hout, half_len]
  (try dsimp only [cond_true, cond_false])
  (conv => whnf)
  repeat' ((with_reducible (first | refine gP ?_ | refine gN ?_ | refine fG.split (fun _ => ?_) (fun _ => ?_) | refine fG.not ?_ | refine gY ?_ | refine gF ?_ | refine fG.yes (flat_map (fun _ => rfl) _) ?_ | refine fG.bool (fun _ => ?_) (fun _ => ?_) | refine gS64 ?_ | refine gU8 ?_ | refine gI5 ?_ | refine fE.of rfl ?_ | refine gBq ?_ | refine gNum5 ?_ | refine gSet ?_ | refine gRd ?_ | refine gLk ?_ | refine gRow5 ?_ | refine fB.of (wide_map (fun _ => rfl) _) ?_ | refine fB.of (full_map (fun _ => rfl) _) ?_ | refine fB.of (full_map (fun x => full_rKept x) _) ?_ | refine gRf ?_)) <;> (try (conv => whnf)))
  case' refine_1 h =>
    refine ⟨⟨⟨j + 1, n + 1 + 1 + 1 + 1 + 1, out.set j ⟨n, n + 1, n + 1 + 1, n + 1 + 1 + 1, n + 1 + 1 + 1 + 1⟩, _, _⟩, (by (try dsimp only [cond_true, cond_false]); exact ⟨⟨rfl, rfl, rfl, trivial⟩, ⟨rfl, trivial⟩⟩), ?_, ?_⟩⟩
    · refine ⟨by show j + 1 ≤ _; omega, ?_, by show _ = _; push_cast; omega⟩
      show _ = _
      rw [← half_set _ _ m l j (by omega), hout, hn]
      simp only [wts_wIns, List.length_take, mIns, show min j l.length = j by omega, Int.natCast_mul]
      rfl
    · show l.length - (j + 1) < l.length - j; omega
  case refine_2 h =>
    have : j = l.length := by omega
    rw [hout, hn, this, half_all]
theorem ok_laws_markEventS (k : Nat) (l : List Event) (m : Int) (hl : l.length ≤ 100000000000) (h0 : 0 ≤ m) (h1 : m ≤ 100000000000) : callE PR C (k + 1) 40 [hEvent 0 l, i64 m] [tEvent9 l] = some ⟨i64 (m + 3 * l.length), [], [some (tEvent9 (marks mEvent wEvent m l))]⟩ := by
  (refine callE_is (callE_w [ResultVar.tmp 4] rfl Try.func40 rfl (by decide +kernel) rfl (by simp) ?_); (conv => whnf))
  repeat' ((with_reducible (first | refine gP ?_ | refine gN ?_ | refine fG.split (fun _ => ?_) (fun _ => ?_) | refine fG.not ?_ | refine gY ?_ | refine gF ?_ | refine fG.yes (flat_map (fun _ => rfl) _) ?_ | refine fG.bool (fun _ => ?_) (fun _ => ?_) | refine gS64 ?_ | refine gU8 ?_ | refine gI5 ?_ | refine fE.of rfl ?_ | refine gBq ?_ | refine gNum5 ?_ | refine gSet ?_ | refine gRd ?_ | refine gLk ?_ | refine gRow5 ?_ | refine fB.of (wide_map (fun _ => rfl) _) ?_ | refine fB.of (full_map (fun _ => rfl) _) ?_ | refine fB.of (full_map (fun x => full_rKept x) _) ?_ | refine gRf ?_)) <;> (try (conv => whnf)))
  refine loop_rule (ι := TM Event) (fun x => [(0, hEvent 0 l), (1, i64 x.m), (5, i64 (x.j : Nat))])
    (fun x => [(1000000, ⟨0, x.g, x.d, tEvent9 x.l⟩)])
    (fun x => l.length - x.j) (fun x => x.j ≤ l.length ∧ x.l = half mEvent wEvent m l x.j ∧ x.m = m + 3 * x.j) ⟨0, m, l, 0, false⟩ (by (try dsimp only [cond_true, cond_false]); exact ⟨⟨rfl, rfl, rfl, trivial⟩, ⟨rfl, trivial⟩⟩) ⟨Nat.zero_le _, (half_zero _ _ m l).symm, by simp⟩ (by simp [C]; omega) ?_
  rintro ⟨j, n, out, g, d⟩ sl ob ⟨hj, hout, hn⟩
  dsimp only at hj hout hn
  have hlen : out.length = l.length := by rw [hout, half_len]
  (try dsimp only [cond_true, cond_false])
  (conv => whnf)
  repeat' ((with_reducible (first | refine gP ?_ | refine gN ?_ | refine fG.split (fun _ => ?_) (fun _ => ?_) | refine fG.not ?_ | refine gY ?_ | refine gF ?_ | refine fG.yes (flat_map (fun _ => rfl) _) ?_ | refine fG.bool (fun _ => ?_) (fun _ => ?_) | refine gS64 ?_ | refine gU8 ?_ | refine gI5 ?_ | refine fE.of rfl ?_ | refine gBq ?_ | refine gNum5 ?_ | refine gSet ?_ | refine gRd ?_ | refine gLk ?_ | refine gRow5 ?_ | refine fB.of (wide_map (fun _ => rfl) _) ?_ | refine fB.of (full_map (fun _ => rfl) _) ?_ | refine fB.of (full_map (fun x => full_rKept x) _) ?_ | refine gRf ?_)) <;> (try (conv => whnf)))
  case' refine_1 h =>
    refine ⟨⟨⟨j + 1, n + 1 + 1 + 1, out.set j ⟨n, n + 1, n + 1 + 1⟩, _, _⟩, (by (try dsimp only [cond_true, cond_false]); exact ⟨⟨rfl, rfl, rfl, trivial⟩, ⟨rfl, trivial⟩⟩), ?_, ?_⟩⟩
    · refine ⟨by show j + 1 ≤ _; omega, ?_, by show _ = _; push_cast; omega⟩
      show _ = _
      rw [← half_set _ _ m l j (by omega), hout, hn]
      simp only [wts_wEvent, List.length_take, mEvent, show min j l.length = j by omega, Int.natCast_mul]
      rfl
    · show l.length - (j + 1) < l.length - j; omega
  case refine_2 h =>
    have : j = l.length := by omega
    rw [hout, hn, this, half_all]

abbrev hKept (j : Nat) (l : List Kept) : AV := .h (1000000 + j) 0 0 [] 5 0 l.length
abbrev tKept (l : List Kept) : Cont := .tree 0 (.sl 5 (l.map rKept))
theorem set_rKept (l : List Kept) (n : Nat) (a b c : Int) (r o : List Int) : (l.map rKept).set n [.v (.int .i64 a), .v (.int .i64 b), .sl 1 (r.map rI), .sl 1 (o.map rI), .v (.int .i64 c)] = (l.set n ⟨a, b, r, o, c⟩).map rKept := by simp [rKept, List.map_set]
theorem gI6 {p A : Prop} (h : A) (e : p := by first | with_reducible assumption | omega | (simp only [Nat.zero_add, Nat.add_zero, Nat.sub_zero, Int.toNat_natCast, Int.toNat_zero, Int.toNat_one, List.length_map, List.length_nil, Int.reduceToNat, Nat.reduceAdd, Nat.reduceSub, Int.sub_zero, Int.reduceAdd, Int.reduceSub, Nat.sub_self, Int.toNat_natCast_add_one, bs_len, List.length_append, List.length_cons, List.length_set, List.length_replicate, List.length_range]; first | done | omega)) : sI p A := sI.mk e h
theorem gNum6 {r r' : Nat} {F : Nat → Prop} (h : F r') (e : r = r' := by first | (simp only [Nat.zero_add, Nat.add_zero, Nat.sub_zero, Int.toNat_natCast, Int.toNat_zero, Int.toNat_one, List.length_map, List.length_nil, Int.reduceToNat, Nat.reduceAdd, Nat.reduceSub, Int.sub_zero, Int.reduceAdd, Int.reduceSub, Nat.sub_self, Int.toNat_natCast_add_one, bs_len]; rfl) | rfl) : sN r F := sN.eq e h
theorem gRow6 {r r' : List (List T)} {F : List (List T) → Prop} (h : F r') (e : r = r' := by first | (simp only [Nat.add_zero, Nat.zero_add, Nat.reduceAdd, List.drop_zero, List.take_succ_cons, List.take_nil, List.drop_succ_cons, List.drop_nil, List.take_zero, List.nil_append, List.append_nil, List.map_nil, drop_suf, take_pre, drop_map, List.take_length, take_len_set, take_len_app, List.set_set, List.length_map, set_rKept, set_rIns, rep_rIns, set_rEvent, rep_rEvent, snoc_rKept, snoc_rEvent, snoc_rIns, bytesT_bs, snoc_rI, snoc_rB, snoc_rBool, set_rI, set_rBool, rep_rI, rep_rBool, map_app]; rfl) | rfl) : sR r F := sR.eq e h
def mKept (m : Int) (x : Kept) : Kept := ⟨m, m + 1, marksI (m + 1 + 1) x.s.regs, marksI (m + 1 + 1 + x.s.regs.length) x.s.out, m + 1 + 1 + x.s.regs.length + x.s.out.length⟩
def wKept (x : Kept) : Nat := 3 + x.s.regs.length + x.s.out.length
theorem ok_laws_markIntS' (k : Nat) (l : List Int) (m : Int) (hl : l.length ≤ 100000000000) (h0 : 0 ≤ m) (h1 : m ≤ 100000000000) : callE PR C (k + 1) 70 [.h 1000000 0 0 [] 1 0 (l.map rI).length, i64 m] [tI8 l] = some ⟨i64 (m + l.length), [], [some (tI8 (marksI m l))]⟩ := by
  rw [List.length_map]; exact ok_laws_markIntS k l m hl h0 h1
structure TH where
  j : Nat
  m : Int
theorem ok_laws_heldIntS (k : Nat) (l : List Int) (m : Int) (hl : l.length ≤ 100000000000) (h0 : 0 ≤ m) (h1 : m ≤ 100000000000) (hm : ∀ j : Nat, j < l.length → rd l j = m + j) : callE PR C (k + 1) 71 [.h 1000000 0 0 [] 1 0 l.length, i64 m] [tI l] = some ⟨i64 (m + l.length), [], [none]⟩ := by
  (refine callE_is (callE_w [ResultVar.tmp 4] rfl Try.func71 rfl (by decide +kernel) rfl (by simp) ?_); (conv => whnf))
  repeat' ((with_reducible (first | refine gP ?_ | refine gN ?_ | refine fG.split (fun _ => ?_) (fun _ => ?_) | refine fG.not ?_ | refine gY ?_ | refine gF ?_ | refine fG.yes (flat_map (fun _ => rfl) _) ?_ | refine fG.bool (fun _ => ?_) (fun _ => ?_) | refine gS64 ?_ | refine gU8 ?_ | refine gI6 ?_ | refine fE.of rfl ?_ | refine gBq ?_ | refine gNum6 ?_ | refine gSet ?_ | refine gRd ?_ | refine gLk ?_ | refine gRow6 ?_ | refine fB.of (wide_map (fun _ => rfl) _) ?_ | refine fB.of (full_map (fun _ => rfl) _) ?_ | refine fB.of (full_map (fun x => full_rKept x) _) ?_ | refine gRf ?_)) <;> (try (conv => whnf)))
  refine loop_rule (ι := TH) (fun x => [(0, .h 1000000 0 0 [] 1 0 l.length), (1, i64 x.m), (5, i64 (x.j : Nat))])
    (fun x => [(1000000, ⟨0, 0, false, tI l⟩)])
    (fun x => l.length - x.j) (fun x => x.j ≤ l.length ∧ x.m = m + x.j) ⟨0, m⟩ (by (try dsimp only [cond_true, cond_false]); exact ⟨⟨rfl, rfl, rfl, trivial⟩, ⟨rfl, trivial⟩⟩) ⟨Nat.zero_le _, by simp⟩ (by simp [C]; omega) ?_
  rintro ⟨j, n⟩ sl ob ⟨hj, hn⟩
  dsimp only at hj hn
  (try dsimp only [cond_true, cond_false])
  (conv => whnf)
  have hm' : (j : Int) < l.length → rd l j = n := fun h => (hm j (by omega)).trans hn.symm
  repeat' ((with_reducible (first | refine gP ?_ | refine gN ?_ | refine fG.split (fun _ => ?_) (fun _ => ?_) | refine fG.not ?_ | refine gY ?_ | refine gF ?_ | refine fG.yes (flat_map (fun _ => rfl) _) ?_ | refine fG.bool (fun _ => ?_) (fun _ => ?_) | refine gS64 ?_ | refine gU8 ?_ | refine gI6 ?_ | refine fE.of rfl ?_ | refine gBq ?_ | refine gNum6 ?_ | refine gSet ?_ | refine gRd ?_ | refine gLk ?_ | refine gRow6 ?_ | refine fB.of (wide_map (fun _ => rfl) _) ?_ | refine fB.of (full_map (fun _ => rfl) _) ?_ | refine fB.of (full_map (fun x => full_rKept x) _) ?_ | refine gRf ?_)) <;> (try (conv => whnf)))
  case' refine_1 h =>
    refine ⟨⟨⟨j + 1, n + 1⟩, (by (try dsimp only [cond_true, cond_false]); exact ⟨⟨rfl, rfl, rfl, trivial⟩, ⟨rfl, trivial⟩⟩), ?_, ?_⟩⟩
    · exact ⟨by show j + 1 ≤ _; omega, by show _ = _; push_cast; omega⟩
    · show l.length - (j + 1) < l.length - j; omega
  case refine_2 h =>
    have : j = l.length := by omega
    rw [hn, this]
theorem ok_laws_eqKeptS (k : Nat) (l : List Kept) (hl : l.length ≤ 100000000000) (hx : ∀ j : Nat, j < l.length → (rd l j).s.regs.length ≤ 100000000000 ∧ (rd l j).s.out.length ≤ 100000000000) : callE PR C (k + 4) 34 [hKept 0 l, hKept 1 l] [tKept l, tKept l] = some ⟨bl true, [], [none, none]⟩ := by
  (refine callE_is (callE_w [ResultVar.tmp 4] rfl Try.func34 rfl (by decide +kernel) rfl (by simp) ?_); (conv => whnf))
  repeat' ((with_reducible (first | refine gP ?_ | refine gN ?_ | refine fG.split (fun _ => ?_) (fun _ => ?_) | refine fG.not ?_ | refine gY ?_ | refine gF ?_ | refine fG.yes (flat_map (fun _ => rfl) _) ?_ | refine fG.bool (fun _ => ?_) (fun _ => ?_) | refine gS64 ?_ | refine gU8 ?_ | refine gI6 ?_ | refine fE.of rfl ?_ | refine gBq ?_ | refine gNum6 ?_ | refine gSet ?_ | refine gRd ?_ | refine gLk ?_ | refine gRow6 ?_ | refine fB.of (wide_map (fun _ => rfl) _) ?_ | refine fB.of (full_map (fun _ => rfl) _) ?_ | refine fB.of (full_map (fun x => full_rKept x) _) ?_ | refine gRf ?_ | refine sDraw.none (id := 6) (ty := tys) rfl (by decide +kernel) ?_)) <;> (try (conv => whnf)))
  refine loop_rule (ι := Nat) (fun j => [(0, hKept 0 l), (1, hKept 1 l), (5, i64 (j : Nat))])
    (fun x => [(1000000, ⟨0, 0, false, tKept l⟩), (1000001, ⟨0, 0, false, tKept l⟩)])
    (fun j => l.length - j) (fun j => j ≤ l.length) 0 (by (try dsimp only [cond_true, cond_false]); exact ⟨⟨rfl, rfl, rfl, trivial⟩, ⟨rfl, rfl, trivial⟩⟩) (Nat.zero_le _) (by simp [C]; omega) ?_
  rintro j sl ob hj
  (try dsimp only [cond_true, cond_false])
  (conv => whnf)
  by_cases hjl : j < l.length
  · have hx1 := (hx j hjl).1
    have hx2 := (hx j hjl).2
    repeat' ((with_reducible (first | refine sCall.of (ok_laws_eqKept _ _ _ _ _ _ hx1 hx2) ?_ | refine gP ?_ | refine gN ?_ | refine fG.split (fun _ => ?_) (fun _ => ?_) | refine fG.not ?_ | refine gY ?_ | refine gF ?_ | refine fG.yes (flat_map (fun _ => rfl) _) ?_ | refine fG.bool (fun _ => ?_) (fun _ => ?_) | refine gS64 ?_ | refine gU8 ?_ | refine gI6 ?_ | refine fE.of rfl ?_ | refine gBq ?_ | refine gNum6 ?_ | refine gSet ?_ | refine gRd ?_ | refine gLk ?_ | refine gRow6 ?_ | refine fB.of (wide_map (fun _ => rfl) _) ?_ | refine fB.of (full_map (fun _ => rfl) _) ?_ | refine fB.of (full_map (fun x => full_rKept x) _) ?_ | refine gRf ?_ | refine sDraw.none (id := 6) (ty := tys) rfl (by decide +kernel) ?_)) <;> (try (conv => whnf)))
    refine ⟨⟨j + 1, (by (try dsimp only [cond_true, cond_false]); exact ⟨⟨rfl, rfl, rfl, trivial⟩, ⟨rfl, rfl, trivial⟩⟩), ?_, ?_⟩⟩
    · show j + 1 ≤ _; omega
    · show l.length - (j + 1) < l.length - j; omega
  · repeat' ((with_reducible (first | refine gP ?_ | refine gN ?_ | refine fG.split (fun _ => ?_) (fun _ => ?_) | refine fG.not ?_ | refine gY ?_ | refine gF ?_ | refine fG.yes (flat_map (fun _ => rfl) _) ?_ | refine fG.bool (fun _ => ?_) (fun _ => ?_) | refine gS64 ?_ | refine gU8 ?_ | refine gI6 ?_ | refine fE.of rfl ?_ | refine gBq ?_ | refine gNum6 ?_ | refine gSet ?_ | refine gRd ?_ | refine gLk ?_ | refine gRow6 ?_ | refine fB.of (wide_map (fun _ => rfl) _) ?_ | refine fB.of (full_map (fun _ => rfl) _) ?_ | refine fB.of (full_map (fun x => full_rKept x) _) ?_ | refine gRf ?_ | refine sDraw.none (id := 6) (ty := tys) rfl (by decide +kernel) ?_)) <;> (try (conv => whnf)))
set_option maxHeartbeats 4000000 in
theorem ok_laws_markKeptS (k : Nat) (l : List Kept) (m : Int) (hl : l.length ≤ 100000000000) (h0 : 0 ≤ m) (h1 : m + wts wKept l ≤ 10000000000) (hx : ∀ j : Nat, j < l.length → (rd l j).s.regs.length ≤ 10000000000 ∧ (rd l j).s.out.length ≤ 10000000000) : callE PR C (k + 2) 41 [hKept 0 l, i64 m] [tKept9 l] = some ⟨i64 (m + wts wKept l), [], [some (tKept9 (marks mKept wKept m l))]⟩ := by
  (refine callE_is (callE_w [ResultVar.tmp 4] rfl Try.func41 rfl (by decide +kernel) rfl (by simp) ?_); (conv => whnf))
  repeat' ((with_reducible (first | refine gP ?_ | refine gN ?_ | refine fG.split (fun _ => ?_) (fun _ => ?_) | refine fG.not ?_ | refine gY ?_ | refine gF ?_ | refine fG.yes (flat_map (fun _ => rfl) _) ?_ | refine fG.bool (fun _ => ?_) (fun _ => ?_) | refine gS64 ?_ | refine gU8 ?_ | refine gI6 ?_ | refine fE.of rfl ?_ | refine gBq ?_ | refine gNum6 ?_ | refine gSet ?_ | refine gRd ?_ | refine gLk ?_ | refine gRow6 ?_ | refine fB.of (wide_map (fun _ => rfl) _) ?_ | refine fB.of (full_map (fun _ => rfl) _) ?_ | refine fB.of (full_map (fun x => full_rKept x) _) ?_ | refine gRf ?_)) <;> (try (conv => whnf)))
  refine loop_rule (ι := TM Kept) (fun x => [(0, hKept 0 l), (1, i64 x.m), (5, i64 (x.j : Nat))])
    (fun x => [(1000000, ⟨0, x.g, x.d, tKept9 x.l⟩)])
    (fun x => l.length - x.j) (fun x => x.j ≤ l.length ∧ x.l = half mKept wKept m l x.j ∧ x.m = m + wts wKept (l.take x.j)) ⟨0, m, l, 0, false⟩ (by (try dsimp only [cond_true, cond_false]); exact ⟨⟨rfl, rfl, rfl, trivial⟩, ⟨rfl, trivial⟩⟩) ⟨Nat.zero_le _, (half_zero _ _ m l).symm, by simp [wts]⟩ (by simp [C]; omega) ?_
  rintro ⟨j, n, out, g, d⟩ sl ob ⟨hj, hout, hn⟩
  dsimp only at hj hout hn
  have hlen : out.length = l.length := by rw [hout, half_len]
  have hn1 : n ≤ 10000000000 := by have := wts_le wKept l j; omega
  have hn0 : 0 ≤ n := by omega
  have hrd : j < l.length → rd out j = rd l j := fun h => by rw [hout]; exact half_rd _ _ m l j h
  have hx' : j < l.length → (rd out j).s.regs.length ≤ 10000000000 ∧ (rd out j).s.out.length ≤ 10000000000 := fun h => by rw [hrd h]; exact hx j h
  (try dsimp only [cond_true, cond_false])
  (conv => whnf)
  by_cases hjl : j < l.length
  · have hx1 := (hx' hjl).1
    have hx2 := (hx' hjl).2
    have hq1 := fun k => ok_laws_markIntS' k (rd out j).s.regs (n + 1 + 1) (by omega) (by omega) (by omega)
    have hq2 := fun k => ok_laws_markIntS' k (rd out j).s.out (n + 1 + 1 + (rd out j).s.regs.length) (by omega) (by omega) (by omega)
    repeat' ((with_reducible (first | refine sCall.of (hq1 _) ?_ | refine sCall.of (hq2 _) ?_ | refine gP ?_ | refine gN ?_ | refine fG.split (fun _ => ?_) (fun _ => ?_) | refine fG.not ?_ | refine gY ?_ | refine gF ?_ | refine fG.yes (flat_map (fun _ => rfl) _) ?_ | refine fG.bool (fun _ => ?_) (fun _ => ?_) | refine gS64 ?_ | refine gU8 ?_ | refine gI6 ?_ | refine fE.of rfl ?_ | refine gBq ?_ | refine gNum6 ?_ | refine gSet ?_ | refine gRd ?_ | refine gLk ?_ | refine gRow6 ?_ | refine fB.of (wide_map (fun _ => rfl) _) ?_ | refine fB.of (full_map (fun _ => rfl) _) ?_ | refine fB.of (full_map (fun x => full_rKept x) _) ?_ | refine gRf ?_)) <;> (try (conv => whnf)))
    refine ⟨⟨⟨j + 1, n + 1 + 1 + (rd out j).s.regs.length + (rd out j).s.out.length + 1, out.set j (mKept n (rd out j)), _, _⟩, (by (try dsimp only [cond_true, cond_false]); exact ⟨⟨rfl, rfl, rfl, trivial⟩, ⟨rfl, trivial⟩⟩), ?_, ?_⟩⟩
    · have e := wts_take wKept l j hjl
      refine ⟨by show j + 1 ≤ _; omega, ?_, ?_⟩
      · show _ = _
        rw [← half_set _ _ m l j hjl, hrd hjl, hout, hn]
      · show _ = _
        rw [e, hrd hjl]
        simp only [wKept]
        omega
    · show l.length - (j + 1) < l.length - j; omega
  · have : j = l.length := by omega
    repeat' ((with_reducible (first | refine gP ?_ | refine gN ?_ | refine fG.split (fun _ => ?_) (fun _ => ?_) | refine fG.not ?_ | refine gY ?_ | refine gF ?_ | refine fG.yes (flat_map (fun _ => rfl) _) ?_ | refine fG.bool (fun _ => ?_) (fun _ => ?_) | refine gS64 ?_ | refine gU8 ?_ | refine gI6 ?_ | refine fE.of rfl ?_ | refine gBq ?_ | refine gNum6 ?_ | refine gSet ?_ | refine gRd ?_ | refine gLk ?_ | refine gRow6 ?_ | refine fB.of (wide_map (fun _ => rfl) _) ?_ | refine fB.of (full_map (fun _ => rfl) _) ?_ | refine fB.of (full_map (fun x => full_rKept x) _) ?_ | refine gRf ?_)) <;> (try (conv => whnf)))
    rw [hout, hn, this, half_all, List.take_length]
theorem marksI_rd (m : Int) (l : List Int) (j : Nat) (h : j < (marksI m l).length) : rd (marksI m l) j = m + j := by
  have h' : j < l.length := by rw [marks_len] at h; exact h
  rw [marks_rd _ _ m l j h']
  simp only [mInt, wts_wInt, List.length_take]
  rw [show min j l.length = j by omega]
theorem marksI_len (m : Int) (l : List Int) : (marksI m l).length = l.length := marks_len _ _ _ _
end Go.Proofs.Ytfeenmfehgljgaa.Abs
