/- Part 4 of the words by which the law is followed: an interpreter over data trees, proved of the machine, and what functions of this program come to by it. No condition. -/
import Derived.Laws.Cover3
import Derived.Laws.Bits128
import Derived.Test.YtipfcgbhaalcdaaGreatPA3
namespace Go.Proofs.YtipfcgbhaalcdaaGreat.Abs
open Go
set_option linter.unusedVariables false
set_option linter.unusedSimpArgs false
theorem Is_val {x : AV} {ob : Objs} {K : KO} (h : K x []) : Is (val x) ob K := ⟨_, rfl, h⟩
theorem wSlice_ok {ti : TyI} {x : AV} {lo hi : Option AV} {ob : Objs} {K : AV → Prop} : wSlice ti x lo hi K → Is (match x, lo, hi with
    | .h o b g p sz l n, some (.s (.int _ a)), none => if 0 ≤ a ∧ a ≤ n ∧ ti.elem.isSome = true ∧ ti.esz = sz then val (.h o b g p sz (l + a.toNat) (n - a.toNat)) else .fail
    | .h o b g p sz l n, none, some (.s (.int _ c)) => if 0 ≤ c ∧ c ≤ n ∧ ti.elem.isSome = true ∧ ti.esz = sz then val (.h o b g p sz l c.toNat) else .fail
    | .h o b g p sz l n, some (.s (.int _ a)), some (.s (.int _ c)) => if 0 ≤ a ∧ a ≤ c ∧ c ≤ n ∧ ti.elem.isSome = true ∧ ti.esz = sz then val (.h o b g p sz (l + a.toNat) (c.toNat - a.toNat)) else .fail
    | .nl n, none, some (.s (.int _ c)) => if c = 0 ∧ ti.elem.isSome = true ∧ ti.esz = n then val (.nl n) else .fail
    | .s (.string s), some (.s (.int _ a)), none => if 0 ≤ a ∧ a ≤ s.size ∧ isStr ti = true then val (.s (.string (s.extract a.toNat s.size))) else .fail
    | .s (.string s), none, some (.s (.int _ c)) => if 0 ≤ c ∧ c ≤ s.size ∧ isStr ti = true then val (.s (.string (s.extract 0 c.toNat))) else .fail
    | .s (.string s), some (.s (.int _ a)), some (.s (.int _ c)) => if 0 ≤ a ∧ a ≤ c ∧ c ≤ s.size ∧ isStr ti = true then val (.s (.string (s.extract a.toNat c.toNat))) else .fail
    | _, _, _ => .fail) ob fun v ss => ss = [] ∧ K v := by
  intro h
  unfold wSlice at h
  split at h
  all_goals first
    | exact h.elim
    | (simp only [fB_eq, sI_eq, sN_eq, Bool.and_eq_true] at h
       obtain ⟨⟨h0, h1⟩, h2, h⟩ := h
       have h1 := Nat.eq_of_beq_eq_true h1
       simp only [h0, h1, h2, and_self, true_and, if_true]
       exact ⟨_, rfl, rfl, h⟩)
    | (simp only [fB_eq, sI_eq, Bool.and_eq_true] at h
       obtain ⟨⟨h0, h1⟩, h2, h⟩ := h
       have h1 := Nat.eq_of_beq_eq_true h1
       simp only [h0, h1, h2, and_self, if_true]
       exact ⟨_, rfl, rfl, h⟩)
    | (simp only [fB_eq, sI_eq] at h
       obtain ⟨h0, h2, h⟩ := h
       simp only [h0, h2, and_self, if_true]
       exact ⟨_, rfl, rfl, h⟩)
theorem wZeros_ok {ob : Objs} {d : Nat} {tn : Option TyI} {ti : TyI} {s x : AV} {K : KO} (h : wZeros ob d tn ti.cells ti.bytes s x K) : Is (exZeros d tn ti s x) ob K := by
  unfold wZeros at h
  split at h
  · rename_i tn' z q n hc
    simp only [fB_eq, sI_eq, sR_eq, sN_eq, decide_eq_true_eq] at h
    obtain ⟨h1, ⟨⟨h2, h3⟩, h4⟩, h5⟩ := h
    have hl : lim n.toNat ti.bytes = true := by
      simp only [lim, decide_eq_true_eq]
      obtain ⟨m, rfl⟩ : ∃ m : Nat, n = m := ⟨n.toNat, by omega⟩
      rw [Int.toNat_natCast]
      refine ⟨?_, by omega⟩
      have : (m : Int) * (ti.bytes : Int) = ((m * ti.bytes : Nat) : Int) := by simp
      omega
    unfold exZeros
    simp only [hc, h1, h2, hl, and_self, if_true]
    exact wMk_ok h5
  · exact h.elim
theorem wOp_ok {E : Env} {sl : Slots} {o : Oper} {ob : Objs} {K : KO} (h : wOp E.ty E.call E.md sl (o.dst.getD 0) o.op o.type ob K) : Is (ex E sl o) ob K := by
  obtain ⟨dst, op, typ, pos, after, guard⟩ := o
  simp only at h
  cases op
  case move x => simp only [wOp, fA_eq, wT_eq] at h; simp only [ex]; exact Is_val h
  case assign x => simp only [wOp, fA_eq, wT_eq] at h; simp only [ex]; exact Is_val h
  case pick c a b =>
    simp only [wOp, fA_eq] at h; simp only [ex]
    split at h
    · rename_i t e
      cases t <;> simp only [fG] at h <;> simp only [e] <;> exact Is_val h
    · exact h.elim
  case alloc t =>
    simp only [wOp, fO_eq] at h; simp only [ex]
    obtain ⟨i, hi, h⟩ := h
    simp only [hi]; exact wMk_ok h
  case box t x =>
    simp only [wOp, fA_eq, fO_eq, wT_eq] at h; simp only [ex]
    obtain ⟨l, hl, h⟩ := h
    simp only [hl]; exact wMk_ok h
  case build t parts =>
    simp only [wOp, fO_eq, fB_eq] at h; simp only [ex]
    obtain ⟨i, hi, ha, h⟩ := h
    obtain ⟨l, hl, h⟩ := wFill_eq h
    simp only [hi, ha, if_true, hl, Option.map_some, opt]; exact ⟨_, rfl, h⟩
  case buildSlice t len parts =>
    simp only [wOp, fO_eq, fK_eq, fL1_eq, wT_eq] at h; simp only [ex]
    obtain ⟨ti, h1, e, h2, i, h3, h⟩ := h
    obtain ⟨cells, h4, h⟩ := wFill_eq h
    simp only [fB_eq, fL1_eq, Bool.and_eq_true, Nat.blt_eq, Nat.ble_eq] at h
    obtain ⟨hc, h⟩ := h
    simp only [h1, h2, h3, h4, hc, and_self, if_true]
    refine wGrab_ok (K := fun a : Out => K a.v a.sets) (k' := fun ts l ss => _) _ _ _ h fun ts l ss _ h => ?_
    simp only [fK_eq, fLLT_eq, sR_eq] at h
    exact wMk_ok h
  case load t a =>
    simp only [wOp, fO_eq, fA_eq] at h; simp only [ex]
    obtain ⟨i, hi, h⟩ := h
    simp only [hi]
    obtain ⟨r, h1, h2, h3⟩ := wLoad_ok (E := E) h
    exact ⟨r, h1, by simp only [h2]; exact h3⟩
  case store t a x =>
    simp only [wOp, fO_eq, fA_eq, wT_eq] at h; simp only [ex]
    obtain ⟨i, hi, h⟩ := h
    simp only [hi]
    have hroot : ∀ v, (∀ o b g q p sz lo len, v ≠ AV.h o b g (q :: p) sz lo len) → isRecut (ev sl a) v = false := by
      intro v hv
      cases ev sl a <;> cases v <;> simp only [isRecut]
      rename_i p _ _ _ _ _ p' _ _ _
      cases p' with
      | nil => simp
      | cons q p' => exact absurd rfl (hv _ _ _ _ _ _ _ _)
    split at h
    · rename_i o b g q p sz lo len e
      simp only [sBool_eq, fG_eq] at h
      rw [e]
      by_cases hr : isRecut (ev sl a) (.h o b g (q :: p) sz lo len) = true
      · simp only [hr, if_true, fB_eq] at h ⊢
        have := Nat.eq_of_beq_eq_true h.1
        simp only [this, if_true]
        exact wRecut_ok hr h.2
      · simp only [hr] at h ⊢
        exact wStore_ok h
    · rename_i hv
      rw [hroot _ hv]
      exact wStore_ok h
  case nilCheck x =>
    simp only [wOp, fA_eq] at h; simp only [ex]
    split at h
    · rename_i e; simp only [e]; exact Is_val h
    · exact h.elim
  case binOp op t x y yt =>
    simp only [wOp, fA_eq] at h; simp only [ex]
    obtain ⟨r, h1, h2, h3⟩ := wBin_ok (E := E) (ob := ob) h
    exact ⟨r, h1, by simp only [h2]; exact h3⟩
  case unOp op t x =>
    simp only [wOp, fA_eq, sW_eq] at h; simp only [ex]
    split at h
    · rename_i e; simp only [e]; exact Is_val h
    · rename_i e; simp only [e]; exact Is_val h
    · exact h.elim
  case convert st t x =>
    simp only [wOp, fO_eq, fA_eq] at h; simp only [ex]
    obtain ⟨ti, h1, ts, h2, h⟩ := h
    simp only [h1, h2]
    exact wConv_ok h
  case makeFunc f first cap =>
    cases f with
    | func f =>
      simp only [wOp, fB_eq, fL1_eq] at h; simp only [ex]
      have := Nat.eq_of_beq_eq_true h.1
      simp only [this, if_true]; exact Is_val h.2
    | _ => exact h.elim
  case makeSlice t l c =>
    simp only [wOp, fO_eq, fA_eq] at h; simp only [ex]
    obtain ⟨ti, h1, e, h2, i, h3, h⟩ := h
    simp only [h1, h2, h3]
    split at h
    · rename_i k n k' m e1 e2
      simp only [fB_eq, sI_eq, fK_eq, fL1_eq, Bool.and_eq_true, decide_eq_true_eq, Nat.blt_eq] at h
      obtain ⟨⟨⟨rfl, rfl⟩, h5⟩, h6, h⟩ := h
      simp only [e1, e2, h5, h6, and_self, if_true]
      refine wGrab_ok (K := fun a : Out => K a.v a.sets) (k' := fun ts l ss => _) _ _ _ h fun ts l ss _ h => ?_
      simp only [fLT_eq, sR_eq, sN_eq] at h
      exact wMk_ok h
    · exact h.elim
  case slice t x lo hi mx =>
    cases mx with
    | some y => exact h.elim
    | none =>
      simp only [wOp, fO_eq, fA_eq, fOA_eq] at h; simp only [ex]
      obtain ⟨ti, h1, h⟩ := h
      simp only [h1]
      obtain ⟨r, h1, h2, h3⟩ := wSlice_ok (ob := ob) h
      exact ⟨r, h1, by simp only [h2]; exact h3⟩
  case fieldAddr t x f =>
    simp only [wOp, fA_eq, fO_eq, fK_eq] at h; simp only [ex]
    split at h
    · rename_i e
      obtain ⟨ti, h1, k, h2, h⟩ := h
      simp only [e, h1, h2]; exact Is_val h
    · exact h.elim
  case indexAddr t x ix =>
    simp only [wOp, fA_eq, fO_eq, fB_eq, sI_eq, sN_eq, Bool.and_eq_true] at h; simp only [ex]
    split at h
    · rename_i e1 e2
      obtain ⟨ti, h1, ⟨h2, h3⟩, h4, h⟩ := h
      have h2 := Nat.eq_of_beq_eq_true h2
      simp only [e1, e2, h1, h2, h3, h4, and_self, if_true]; exact Is_val h
    · exact h.elim
  case index t x ix =>
    simp only [wOp, fA_eq, fO_eq, fB_eq, sI_eq, sZ_eq] at h; simp only [ex]
    obtain ⟨ti, h1, h⟩ := h
    split at h
    · rename_i e1 e2
      obtain ⟨h2, h4, h⟩ := h
      simp only [e1, e2, h1, h2, h4, and_self, if_true, Option.any_some]; exact Is_val h
    · exact h.elim
  case extract t i =>
    simp only [wOp, fA_eq, fO_eq] at h; simp only [ex]
    split at h
    · rename_i e
      obtain ⟨v, h1, h⟩ := h
      simp only [e, h1, opt]; exact ⟨_, rfl, h⟩
    · exact h.elim
  case call c =>
    obtain ⟨cl, args, ats⟩ := c
    simp only [wOp] at h
    cases cl with
    | value f =>
      simp only [fB_eq, fA_eq] at h; simp only [ex]
      obtain ⟨h0, h⟩ := h
      have h0 := Nat.eq_of_beq_eq_true h0
      split at h
      · rename_i e
        simp only [wArgs_eq, fL1_eq] at h
        simp only [e, h0, if_true]
        exact wCall_ok h
      · exact h.elim
    | builtin bi =>
      cases bi
      case len =>
        simp only at h; simp only [ex]
        split at h
        · rename_i x t e1 e2
          simp only [fO_eq, fA_eq] at h
          obtain ⟨ti, h1, h⟩ := h
          simp only [e1, e2, List.map_cons, List.map_nil]
          split at h
          · rename_i e; simp only [fB_eq] at h; simp only [e, h1, Option.any_some, h.1, if_true]; exact Is_val h.2
          · rename_i e; simp only [fB_eq] at h; simp only [e, h1, Option.any_some, h.1, if_true]; exact Is_val h.2
          · rename_i e; simp only [fB_eq] at h; simp only [e, h1, Option.any_some, h.1, if_true]; exact Is_val h.2
          · exact h.elim
        · exact h.elim
      case append =>
        simp only at h; simp only [ex]
        split at h
        · rename_i s x t t' e1 e2
          simp only [fO_eq, fA_eq, fK_eq] at h
          obtain ⟨ti, h1, i, h3, h⟩ := h
          simp only [e1, e2, List.map_cons, List.map_nil, h1, h3]
          by_cases h2 : t' = t
          · rw [fG_eq, if_pos (by rw [h2]; exact Nat.beq_refl t)] at h
            simp only [h2, if_true]
            exact wApp_ok (E := E) (ti := { i with bytes := ti.bytes }) h
          · rw [fG_eq, if_neg (fun hb => h2 (Nat.eq_of_beq_eq_true hb))] at h
            simp only [h2, if_false]
            exact wZeros_ok (ti := { i with bytes := ti.bytes }) h
        · exact h.elim
      case cap =>
        simp only at h; simp only [ex]
        split at h
        · rename_i x t e1 e2
          simp only [fO_eq, fA_eq] at h
          obtain ⟨ti, h1, h⟩ := h
          simp only [e1, e2, List.map_cons, List.map_nil]
          split at h
          · rename_i e; simp only [fB_eq] at h; simp only [e, h1, Option.any_some, h.1, if_true]; exact Is_val h.2
          · exact h.elim
        · exact h.elim
      case min =>
        simp only at h; simp only [ex]
        split at h
        · rename_i x y e1
          simp only [fA_eq] at h
          simp only [e1, List.map_cons, List.map_nil]
          split at h
          · rename_i e3 e4
            simp only [fB_eq, Bool.and_eq_true, decide_eq_true_eq, sZ_eq] at h
            obtain ⟨⟨rfl, rfl⟩, h⟩ := h
            simp only [e3, e4]; exact Is_val h
          · exact h.elim
        · exact h.elim
      case max =>
        simp only at h; simp only [ex]
        split at h
        · rename_i x y e1
          simp only [fA_eq] at h
          simp only [e1, List.map_cons, List.map_nil]
          split at h
          · rename_i e3 e4
            simp only [fB_eq, Bool.and_eq_true, decide_eq_true_eq, sZ_eq] at h
            obtain ⟨⟨rfl, rfl⟩, h⟩ := h
            simp only [e3, e4]; exact Is_val h
          · exact h.elim
        · exact h.elim
      all_goals exact h.elim
    | _ => exact h.elim
  all_goals exact h.elim

def updW {α : Type} (f : Nat → α) (n : Nat) (a : α) : Nat → α := fun m => match Nat.beq m n with | true => a | false => f m
theorem updW_eq {α : Type} {f : Nat → α} {n : Nat} {a : α} : updW f n a = upd f n a := by
  funext m
  unfold updW upd
  cases h : Nat.beq m n with
  | true => simp [Nat.eq_of_beq_eq_true h]
  | false => simp [Nat.ne_of_beq_eq_false h]
def wDst (sl : Slots) (d : Option Nat) (v : AV) : Slots := match d with | some d => updW sl d v | none => sl
theorem wDst_eq {sl : Slots} {d : Option Nat} {v : AV} : wDst sl d v = putDst sl d v := by cases d <;> simp only [wDst, putDst, updW_eq]
def wUpds (ob : Objs) : List (Nat × Ob) → Objs
  | [] => ob
  | (n, a) :: r => wUpds (updW ob n a) r
theorem wUpds_eq {ss : List (Nat × Ob)} : ∀ {ob : Objs}, wUpds ob ss = upds ob ss := by
  induction ss with
  | nil => intro ob; rfl
  | cons a r ih => intro ob; obtain ⟨n, a⟩ := a; simp only [wUpds, upds, updW_eq, ih]
section
variable (ty : TypeId → Option TyI) (call : FuncId → List AV → List Cont → Option Res) (md : FuncId → List Bool)
def wOps0 (all : List Oper) : List Oper → Slots → Objs → (Slots → Objs → Prop) → Prop
  | [], sl, ob, K => K sl ob
  | ⟨d, op, t, _, _, g⟩ :: r, sl, ob, K => match g with
    | none => wOp ty call md sl (d.getD 0) op t ob fun v ss => wOps0 all r (wDst sl d v) (wUpds ob ss) K
    | some (j, want) => fO ((all[j]?).bind (·.dst)) fun x => fA (sl x) fun v => match v with
      | .s (.bool b) => (match want with
        | true => fG b (wOp ty call md sl (d.getD 0) op t ob fun v ss => wOps0 all r (wDst sl d v) (wUpds ob ss) K) (wOps0 all r (wDst sl d (.tu [])) ob K)
        | false => fG b (wOps0 all r (wDst sl d (.tu [])) ob K) (wOp ty call md sl (d.getD 0) op t ob fun v ss => wOps0 all r (wDst sl d v) (wUpds ob ss) K))
      | .tu [] => wOps0 all r (wDst sl d (.tu [])) ob K
      | _ => False
def wStep (all : List Oper) (sl : Slots) (ob : Objs) (K : Slots → Objs → Prop) (d : Option Tmp) (op : Op) (t : TypeId) (g : Option (Nat × Bool)) (ih : Slots → Objs → (Slots → Objs → Prop) → Prop) : Prop := match g with
  | none => wOp ty call md sl (d.getD 0) op t ob fun v ss => ih (wDst sl d v) (wUpds ob ss) K
  | some (j, want) => fO ((all[j]?).bind (·.dst)) fun x => fA (sl x) fun v => match v with
    | .s (.bool b) => (match want with
      | true => fG b (wOp ty call md sl (d.getD 0) op t ob fun v ss => ih (wDst sl d v) (wUpds ob ss) K) (ih (wDst sl d (.tu [])) ob K)
      | false => fG b (ih (wDst sl d (.tu [])) ob K) (wOp ty call md sl (d.getD 0) op t ob fun v ss => ih (wDst sl d v) (wUpds ob ss) K))
    | .tu [] => ih (wDst sl d (.tu [])) ob K
    | _ => False
def wOps (all r : List Oper) (sl : Slots) (ob : Objs) (K : Slots → Objs → Prop) : Prop :=
  List.rec (motive := fun _ => Slots → Objs → (Slots → Objs → Prop) → Prop) (fun sl ob K => K sl ob)
    (fun o _ ih sl ob K => match o with | ⟨d, op, t, _, _, g⟩ => wStep ty call md all sl ob K d op t g ih) r sl ob K
end
theorem wOps_eq {ty : TypeId → Option TyI} {call : FuncId → List AV → List Cont → Option Res} {md : FuncId → List Bool} {all r : List Oper} {sl : Slots} {ob : Objs} {K : Slots → Objs → Prop} : wOps ty call md all r sl ob K = wOps0 ty call md all r sl ob K := by
  unfold wOps
  induction r generalizing sl ob K with
  | nil => rfl
  | cons o r ih =>
    obtain ⟨d, op, t, pos, after, g⟩ := o
    have e : wStep ty call md all sl ob K d op t g (wOps0 ty call md all r) = wOps0 ty call md all (⟨d, op, t, pos, after, g⟩ :: r) sl ob K := by
      simp only [wOps0, wStep]
    rw [← e]
    refine congrArg (wStep ty call md all sl ob K d op t g) ?_
    funext sl ob K
    exact ih
theorem wOps0_ok {E : Env} {all : List Oper} {K : Slots → Objs → Prop} : ∀ (r : List Oper) (sl : Slots) (ob : Objs), wOps0 E.ty E.call E.md all r sl ob K → ∃ s, runOps E all r ⟨sl, ob⟩ = some s ∧ K s.sl s.ob := by
  intro r
  induction r with
  | nil => intro sl ob h; exact ⟨_, rfl, h⟩
  | cons o r ih =>
    intro sl ob h
    obtain ⟨d, op, t, pos, after, g⟩ := o
    have key : (wOp E.ty E.call E.md sl (d.getD 0) op t ob fun v ss => wOps0 E.ty E.call E.md all r (wDst sl d v) (wUpds ob ss) K) → ∃ out, (ex E sl ⟨d, op, t, pos, after, g⟩).run ob = some out ∧ ∃ s, runOps E all r ⟨putDst sl d out.v, upds ob out.sets⟩ = some s ∧ K s.sl s.ob := by
      intro h
      obtain ⟨out, h1, h2⟩ := wOp_ok (E := E) (o := ⟨d, op, t, pos, after, g⟩) h
      rw [wDst_eq, wUpds_eq] at h2
      exact ⟨out, h1, ih _ _ h2⟩
    cases g with
    | none =>
      simp only [wOps0] at h
      obtain ⟨out, h1, s, h2, h3⟩ := key h
      exact ⟨s, by simp only [runOps, guardOf, h1]; exact h2, h3⟩
    | some q =>
      obtain ⟨j, want⟩ := q
      simp only [wOps0, fO_eq, fA_eq] at h
      obtain ⟨x, hx, h⟩ := h
      split at h
      · rename_i b e
        have hyes : b = want → (wOp E.ty E.call E.md sl (d.getD 0) op t ob fun v ss => wOps0 E.ty E.call E.md all r (wDst sl d v) (wUpds ob ss) K) → ∃ s, runOps E all (⟨d, op, t, pos, after, some (j, want)⟩ :: r) ⟨sl, ob⟩ = some s ∧ K s.sl s.ob := by
          intro hb h
          obtain ⟨out, h1, s, h2, h3⟩ := key h
          exact ⟨s, by simp only [runOps, guardOf, hx, e, hb, beq_self_eq_true, h1]; exact h2, h3⟩
        have hno : b = !want → wOps0 E.ty E.call E.md all r (wDst sl d (.tu [])) ob K → ∃ s, runOps E all (⟨d, op, t, pos, after, some (j, want)⟩ :: r) ⟨sl, ob⟩ = some s ∧ K s.sl s.ob := by
          intro hb h
          rw [wDst_eq] at h
          obtain ⟨s, h2, h3⟩ := ih _ _ h
          exact ⟨s, by simp only [runOps, guardOf, hx, e, hb]; cases want <;> exact h2, h3⟩
        cases want <;> cases b <;> simp only [fG] at h
        · exact hyes rfl h
        · exact hno rfl h
        · exact hno rfl h
        · exact hyes rfl h
      · rename_i e
        rw [wDst_eq] at h
        obtain ⟨s, h2, h3⟩ := ih _ _ h
        exact ⟨s, by simp only [runOps, guardOf, hx, e]; exact h2, h3⟩
      · exact h.elim
theorem wOps_ok {E : Env} {all : List Oper} {K : Slots → Objs → Prop} (r : List Oper) (sl : Slots) (ob : Objs) (h : wOps E.ty E.call E.md all r sl ob K) : ∃ s, runOps E all r ⟨sl, ob⟩ = some s ∧ K s.sl s.ob := wOps0_ok r sl ob (by rw [← wOps_eq]; exact h)
def Ev (E : Env) (n : Nat) (c : Code) (sl : Slots) (ob : Objs) (Q : Exit → Slots → Objs → Prop) : Prop := ∃ e s', run E n c ⟨sl, ob⟩ = some (e, s') ∧ Q e s'.sl s'.ob
structure sLoop (E : Env) (n : Nat) (c : Code) (sl : Slots) (ob : Objs) (Q : Exit → Slots → Objs → Prop) : Prop where
  h : Ev E n (.loop c) sl ob Q
structure sDraw (E : Env) (n : Nat) (id : Nat) (ops : Array Oper) (sl : Slots) (ob : Objs) (Q : Exit → Slots → Objs → Prop) : Prop where
  h : Ev E n (.region id ops true) sl ob Q
def wC0 (E : Env) (n : Nat) : Code → Slots → Objs → (Exit → Slots → Objs → Prop) → Prop
  | .skip, sl, ob, Q => Q .normal sl ob
  | .region id ops draw, sl, ob, Q => (match draw with
    | false => wOps E.ty E.call E.md ops.toList ops.toList sl ob fun sl ob => Q .normal sl ob
    | true => sDraw E n id ops sl ob Q)
  | .seq a b, sl, ob, Q => wC0 E n a sl ob fun e sl ob => match e with
    | .normal => wC0 E n b sl ob Q
    | .exit id => Q (.exit id) sl ob
    | .ret => Q .ret sl ob
  | .cond c a b, sl, ob, Q => fA (ev sl c) fun v => match v with
    | .s (.bool t) => fG t (wC0 E n a sl ob Q) (wC0 E n b sl ob Q)
    | _ => False
  | .block id c, sl, ob, Q => wC0 E n c sl ob fun e sl ob => match e with
    | .normal => Q .normal sl ob
    | .exit id' => (match Nat.beq id' id with | true => Q .normal sl ob | false => Q (.exit id') sl ob)
    | .ret => Q .ret sl ob
  | .loop c, sl, ob, Q => sLoop E n c sl ob Q
  | .exit id, sl, ob, Q => Q (.exit id) sl ob
  | .ret, sl, ob, Q => Q .ret sl ob
  | _, _, _, _ => False
def wSeq (ib : Slots → Objs → (Exit → Slots → Objs → Prop) → Prop) (Q : Exit → Slots → Objs → Prop) (e : Exit) (sl : Slots) (ob : Objs) : Prop := match e with
  | .normal => ib sl ob Q
  | .exit id => Q (.exit id) sl ob
  | .ret => Q .ret sl ob
def wBlk (id : Nat) (Q : Exit → Slots → Objs → Prop) (e : Exit) (sl : Slots) (ob : Objs) : Prop := match e with
  | .normal => Q .normal sl ob
  | .exit id' => (match Nat.beq id' id with | true => Q .normal sl ob | false => Q (.exit id') sl ob)
  | .ret => Q .ret sl ob
def wC (E : Env) (n : Nat) (c : Code) (sl : Slots) (ob : Objs) (Q : Exit → Slots → Objs → Prop) : Prop :=
  Code.rec (motive := fun _ => Slots → Objs → (Exit → Slots → Objs → Prop) → Prop)
    (fun sl ob Q => Q .normal sl ob)
    (fun id ops draw sl ob Q => match draw with
      | false => wOps E.ty E.call E.md ops.toList ops.toList sl ob fun sl ob => Q .normal sl ob
      | true => sDraw E n id ops sl ob Q)
    (fun _ _ ia ib sl ob Q => ia sl ob (wSeq ib Q))
    (fun c _ _ ia ib sl ob Q => fA (ev sl c) fun v => match v with
      | .s (.bool t) => fG t (ia sl ob Q) (ib sl ob Q)
      | _ => False)
    (fun id _ ic sl ob Q => ic sl ob (wBlk id Q))
    (fun c _ sl ob Q => sLoop E n c sl ob Q)
    (fun _ _ _ _ _ _ _ _ _ => False)
    (fun id sl ob Q => Q (.exit id) sl ob)
    (fun _ _ _ _ _ => False)
    (fun _ _ _ _ => False)
    (fun _ _ _ _ => False)
    (fun sl ob Q => Q .ret sl ob)
    (fun _ _ _ _ => False) c sl ob Q
theorem wC_eq {E : Env} {n : Nat} {c : Code} {sl : Slots} {ob : Objs} {Q : Exit → Slots → Objs → Prop} : wC E n c sl ob Q = wC0 E n c sl ob Q := by
  unfold wC
  induction c generalizing sl ob Q with
  | seq a b iha ihb =>
    simp only [wC0]
    refine Eq.trans iha ?_
    refine congrArg (wC0 E n a sl ob) ?_
    funext e sl ob
    cases e with
    | normal => exact ihb
    | exit id => rfl
    | ret => rfl
  | cond c a b iha ihb =>
    simp only [wC0]
    congr 1
    funext v
    cases v with
    | s x => cases x with
      | bool t => simp only [iha, ihb]
      | _ => rfl
    | _ => rfl
  | block id c ih =>
    simp only [wC0]
    refine Eq.trans ih ?_
    congr 1
  | _ => rfl
theorem wC0_ok {E : Env} {n : Nat} : ∀ (c : Code) (sl : Slots) (ob : Objs) (Q : Exit → Slots → Objs → Prop), wC0 E n c sl ob Q → Ev E n c sl ob Q := by
  intro c
  induction c with
  | skip => intro sl ob Q h; exact ⟨_, _, rfl, h⟩
  | region id ops draw =>
    intro sl ob Q h
    cases draw with
    | true => exact sDraw.h h
    | false =>
      obtain ⟨s, h1, h2⟩ := wOps_ok _ _ _ h
      exact ⟨.normal, s, by simp only [run, h1, Option.map_some], h2⟩
  | seq a b iha ihb =>
    intro sl ob Q h
    obtain ⟨e, s, h1, h2⟩ := iha _ _ _ h
    cases e with
    | normal =>
      obtain ⟨e', s', h3, h4⟩ := ihb _ _ _ h2
      exact ⟨e', s', by simp only [run, h1]; exact h3, h4⟩
    | exit id => exact ⟨_, _, by simp only [run, h1], h2⟩
    | ret => exact ⟨_, _, by simp only [run, h1], h2⟩
  | cond c a b iha ihb =>
    intro sl ob Q h
    simp only [wC0, fA_eq] at h
    split at h
    · rename_i t e
      cases t with
      | true =>
        obtain ⟨e', s', h3, h4⟩ := iha _ _ _ h
        exact ⟨e', s', by simp only [run, e, if_true]; exact h3, h4⟩
      | false =>
        obtain ⟨e', s', h3, h4⟩ := ihb _ _ _ h
        exact ⟨e', s', by simp only [run, e, Bool.false_eq_true, if_false]; exact h3, h4⟩
    · exact h.elim
  | block id c ih =>
    intro sl ob Q h
    obtain ⟨e, s, h1, h2⟩ := ih _ _ _ h
    cases e with
    | normal => exact ⟨_, _, by simp only [run, h1], h2⟩
    | ret => exact ⟨_, _, by simp only [run, h1], h2⟩
    | exit id' =>
      simp only at h2
      cases hb : Nat.beq id' id with
      | true => simp only [hb] at h2; exact ⟨.normal, s, by simp only [run, h1, Nat.eq_of_beq_eq_true hb, if_true], h2⟩
      | false => simp only [hb] at h2; exact ⟨.exit id', s, by simp only [run, h1, Nat.ne_of_beq_eq_false hb, if_false], h2⟩
  | loop c ih => intro sl ob Q h; exact sLoop.h h
  | exit id => intro sl ob Q h; exact ⟨_, _, rfl, h⟩
  | ret => intro sl ob Q h; exact ⟨_, _, rfl, h⟩
  | _ => intro sl ob Q h; exact h.elim
theorem wC_ok {E : Env} {n : Nat} (c : Code) (sl : Slots) (ob : Objs) (Q : Exit → Slots → Objs → Prop) (h : wC E n c sl ob Q) : Ev E n c sl ob Q := wC0_ok c sl ob Q (by rw [← wC_eq]; exact h)
theorem sDraw.none {E : Env} {n id : Nat} {ops : Array Oper} {sl : Slots} {ob : Objs} {Q : Exit → Slots → Objs → Prop} {ty : TypeId → Option TyI} (hty : E.ty = ty) (h : unord ty ops = []) (h2 : wOps E.ty E.call E.md ops.toList ops.toList sl ob fun sl ob => Q .normal sl ob) : sDraw E n id ops sl ob Q := by
  subst hty
  obtain ⟨s, h1, h2⟩ := wOps_ok _ _ _ h2
  refine ⟨?_⟩
  exact ⟨.normal, s, by simp only [run, h, true_or, if_true, h1, Option.map_some], h2⟩

theorem loopN_of {B : St → Option (Exit × St)} (I : Nat → St → Prop) {Q : Exit → St → Prop}
    (round : ∀ m s, I m s → ∃ e s', B s = some (e, s') ∧ (match e with | .normal => ∃ m', m' < m ∧ I m' s' | e => Q e s')) :
    ∀ (n m : Nat) (s : St), m < n → I m s → ∃ e s', loopN B n s = some (e, s') ∧ Q e s' := by
  intro n
  induction n with
  | zero => intro m s h; exact absurd h (Nat.not_lt_zero _)
  | succ n ih =>
    intro m s hm hI
    obtain ⟨e, s', h1, h2⟩ := round m s hI
    simp only [loopN, h1]
    cases e with
    | normal =>
      obtain ⟨m', hm', hI'⟩ := h2
      exact ih m' s' (by omega) hI'
    | exit id => exact ⟨_, _, rfl, h2⟩
    | ret => exact ⟨_, _, rfl, h2⟩
structure sNext (I : Nat → Slots → Objs → Prop) (m : Nat) (sl : Slots) (ob : Objs) : Prop where
  h : ∃ m', m' < m ∧ I m' sl ob
theorem sLoop.rule {E : Env} {n : Nat} {c : Code} {sl : Slots} {ob : Objs} {Q : Exit → Slots → Objs → Prop} (I : Nat → Slots → Objs → Prop) (m : Nat) (hm : m < n) (h : I m sl ob)
    (round : ∀ m sl ob, I m sl ob → wC E n c sl ob fun e sl ob => match e with
      | .normal => sNext I m sl ob
      | .exit id => Q (.exit id) sl ob
      | .ret => Q .ret sl ob) : sLoop E n c sl ob Q := by
  obtain ⟨e, s', h1, h2⟩ := loopN_of (B := run E n c) (fun m s => I m s.sl s.ob) (Q := fun e s => Q e s.sl s.ob) (fun m s h => by
    obtain ⟨e, s', h1, h2⟩ := wC_ok _ _ _ _ (round m s.sl s.ob h)
    refine ⟨e, s', h1, ?_⟩
    cases e with
    | normal => exact sNext.h h2
    | exit id => exact h2
    | ret => exact h2) n m ⟨sl, ob⟩ hm h
  exact ⟨⟨e, s', h1, h2⟩⟩
theorem updW_self {α : Type} {f : Nat → α} {n : Nat} {a : α} (h : f n = a) : f = updW f n a := by
  funext m
  rw [updW_eq]
  unfold upd
  split
  · rename_i e; rw [e, h]
  · rfl

def wRets (E : Env) (ob : Objs) (sl : Slots) : List ResultVar → (List AV → Prop) → Prop
  | [], K => K []
  | .tmp t :: r, K => fA (sl t) fun v => wRets E ob sl r fun l => K (v :: l)
  | .cell a t :: r, K => fO (E.ty t) fun ti => fA (sl a) fun a => wLoad ob ti a fun v => fA v fun v => wRets E ob sl r fun l => K (v :: l)
theorem wRets_ok {E : Env} {ob : Objs} {sl : Slots} : ∀ (r : List ResultVar) (K : List AV → Prop), wRets E ob sl r K → ∃ l, retVs E ⟨sl, ob⟩ r = some l ∧ K l := by
  intro r
  induction r with
  | nil => intro K h; exact ⟨_, rfl, h⟩
  | cons x r ih =>
    intro K h
    cases x with
    | tmp t =>
      simp only [wRets, fA_eq] at h
      obtain ⟨l, h1, h2⟩ := ih _ h
      exact ⟨_, by simp only [retVs, h1], h2⟩
    | cell a t =>
      simp only [wRets, fA_eq, fO_eq] at h
      obtain ⟨ti, h0, h⟩ := h
      obtain ⟨out, h1, _, h⟩ := wLoad_ok (E := E) h
      obtain ⟨l, h3, h4⟩ := ih _ h
      exact ⟨_, by simp only [retVs, h0, h1, h3], h4⟩
abbrev MV := List (Nat × Nat × Nat × Nat)
def wExpo0 (ob : Objs) (conts : List Cont) : Nat → List AV → MV → List Cont → (List AV → MV → List Cont → Prop) → Prop
  | _, [], mv, ns, K => K [] mv ns
  | k + 1, .s x :: r, mv, ns, K => wExpo0 ob conts k r mv ns fun l mv ns => K (.s x :: l) mv ns
  | k + 1, .u :: r, mv, ns, K => wExpo0 ob conts k r mv ns fun l mv ns => K (.u :: l) mv ns
  | k + 1, .nl sz :: r, mv, ns, K => fLen ns fun n => fLC (ns ++ [.tree 9 (.sl sz [])]) fun ns => wExpo0 ob conts k r mv ns fun l mv ns => fK (2000000 + n) fun i => K (.h i 1 0 [] sz 0 0 :: l) mv ns
  | k + 1, .ag c :: r, mv, ns, K => wExpo0 ob conts k c mv ns fun c mv ns => wExpo0 ob conts k r mv ns fun l mv ns => K (.ag c :: l) mv ns
  | k + 1, .tu c :: r, mv, ns, K => wExpo0 ob conts k c mv ns fun c mv ns => wExpo0 ob conts k r mv ns fun l mv ns => K (.tu c :: l) mv ns
  | k + 1, .h o b _ p sz lo len :: r, mv, ns, K => fNil p (fOb (ob o) fun b' _ _ c => fE b' b (match c with
      | .tree lv t => (match lv with
        | 0 => (match conts[o - 1000000]? with
          | some (.tree 0 (.sl sz' rows)) => fB (Nat.beq b 0 && Nat.ble 1000000 o && Nat.beq sz' sz) (sI (lo + len ≤ rows.length) (wExpo0 ob conts k r mv ns fun l mv ns => K (.h o 0 0 [] sz lo len :: l) mv ns))
          | _ => False)
        | lv + 1 => (match t with
          | .sl _ rows => (match mv.find? (fun q => Nat.beq q.1 o) with
            | some (_, j, lo', len') => sI (lo' = lo ∧ len' = len ∧ (lo = 0 ∨ 0 < len)) (wExpo0 ob conts k r mv ns fun l mv ns => fK (2000000 + j) fun i => K (.h i 1 0 [] sz 0 len :: l) mv ns)
            | none => sR ((rows.drop lo).take len) fun sub => fB (T.full (lv + 1) (.sl sz sub)) (fLen ns fun n => fLC (ns ++ [.tree (lv + 1) (.sl sz sub)]) fun ns => wExpo0 ob conts k r ((o, n, lo, len) :: mv) ns fun l mv ns => fK (2000000 + n) fun i => K (.h i 1 0 [] sz 0 len :: l) mv ns))
          | _ => False))
      | _ => False))
  | k + 1, .pt o b _ p i j :: r, mv, ns, K => fNil p (fB (Nat.beq i 0 && Nat.beq j 0) (fOb (ob o) fun b' _ _ c => fE b' b (match c with
      | .box cells => fG (Nat.ble 1000000 o && Nat.blt o (1000000 + conts.length))
          (fB (Nat.beq b 0 && isBox conts[o - 1000000]?) (wExpo0 ob conts k r mv ns fun l mv ns => K (.pt o 0 0 [] 0 0 :: l) mv ns))
          (match mv.find? (fun q => Nat.beq q.1 o) with
            | some _ => False
            | none => wExpo0 ob conts k cells ((o, 0, 0, 0) :: mv) ns fun c mv ns1 => fLen ns1 fun n => fLC (ns1 ++ [.box c]) fun ns2 => wExpo0 ob conts k r mv ns2 fun l mv ns2 => fK (2000000 + n) fun i => K (.pt i 1 0 [] 0 0 :: l) mv ns2)
      | _ => False)))
  | _, _ :: _, _, _, _ => False
def wExpo (ob : Objs) (conts : List Cont) (k : Nat) (l : List AV) (mv : MV) (ns : List Cont) (K : List AV → MV → List Cont → Prop) : Prop :=
  Nat.rec (motive := fun _ => List AV → MV → List Cont → (List AV → MV → List Cont → Prop) → Prop)
   (fun l mv ns K => match l with | [] => K [] mv ns | _ :: _ => False)
   (fun _ ih l mv ns K => match l with
    | [] => K [] mv ns
    | x :: r => match x with
      | .s x => ih r mv ns fun l mv ns => K (.s x :: l) mv ns
      | .u => ih r mv ns fun l mv ns => K (.u :: l) mv ns
      | .nl sz => fLen ns fun n => fLC (ns ++ [.tree 9 (.sl sz [])]) fun ns => ih r mv ns fun l mv ns => fK (2000000 + n) fun i => K (.h i 1 0 [] sz 0 0 :: l) mv ns
      | .ag c => ih c mv ns fun c mv ns => ih r mv ns fun l mv ns => K (.ag c :: l) mv ns
      | .tu c => ih c mv ns fun c mv ns => ih r mv ns fun l mv ns => K (.tu c :: l) mv ns
      | .h o b _ p sz lo len => fNil p (fOb (ob o) fun b' _ _ c => fE b' b (match c with
        | .tree lv t => (match lv with
          | 0 => (match conts[o - 1000000]? with
            | some (.tree 0 (.sl sz' rows)) => fB (Nat.beq b 0 && Nat.ble 1000000 o && Nat.beq sz' sz) (sI (lo + len ≤ rows.length) (ih r mv ns fun l mv ns => K (.h o 0 0 [] sz lo len :: l) mv ns))
            | _ => False)
          | lv + 1 => (match t with
            | .sl _ rows => (match mv.find? (fun q => Nat.beq q.1 o) with
              | some (_, j, lo', len') => sI (lo' = lo ∧ len' = len ∧ (lo = 0 ∨ 0 < len)) (ih r mv ns fun l mv ns => fK (2000000 + j) fun i => K (.h i 1 0 [] sz 0 len :: l) mv ns)
              | none => sR ((rows.drop lo).take len) fun sub => fB (T.full (lv + 1) (.sl sz sub)) (fLen ns fun n => fLC (ns ++ [.tree (lv + 1) (.sl sz sub)]) fun ns => ih r ((o, n, lo, len) :: mv) ns fun l mv ns => fK (2000000 + n) fun i => K (.h i 1 0 [] sz 0 len :: l) mv ns))
            | _ => False))
        | _ => False))
      | .pt o b _ p i j => fNil p (fB (Nat.beq i 0 && Nat.beq j 0) (fOb (ob o) fun b' _ _ c => fE b' b (match c with
        | .box cells => fG (Nat.ble 1000000 o && Nat.blt o (1000000 + conts.length))
            (fB (Nat.beq b 0 && isBox conts[o - 1000000]?) (ih r mv ns fun l mv ns => K (.pt o 0 0 [] 0 0 :: l) mv ns))
            (match mv.find? (fun q => Nat.beq q.1 o) with
              | some _ => False
              | none => ih cells ((o, 0, 0, 0) :: mv) ns fun c mv ns1 => fLen ns1 fun n => fLC (ns1 ++ [.box c]) fun ns2 => ih r mv ns2 fun l mv ns2 => fK (2000000 + n) fun i => K (.pt i 1 0 [] 0 0 :: l) mv ns2)
        | _ => False)))
      | .fn _ _ => False) k l mv ns K
theorem wExpo_eq {ob : Objs} {conts : List Cont} {k : Nat} {l : List AV} {mv : MV} {ns : List Cont} {K : List AV → MV → List Cont → Prop} : wExpo ob conts k l mv ns K = wExpo0 ob conts k l mv ns K := by
  unfold wExpo
  induction k generalizing l mv ns K with
  | zero => cases l with
    | nil => rfl
    | cons x l =>
      have e : wExpo0 ob conts 0 (x :: l) mv ns K = False := by cases x <;> simp [wExpo0]
      exact e.symm
  | succ k ih =>
    cases l with
    | nil => rfl
    | cons x r =>
      cases x with
      | s x => exact ih
      | u => exact ih
      | nl sz => simp only [wExpo0]; congr 1; funext n; congr 1; funext ns; exact ih
      | ag c => simp only [wExpo0]; refine Eq.trans ih ?_; congr 1; funext c mv ns; exact ih
      | tu c => simp only [wExpo0]; refine Eq.trans ih ?_; congr 1; funext c mv ns; exact ih
      | fn f c => rfl
      | h o b g p sz lo len =>
        simp only [wExpo0, ih]
      | pt o b g p i j =>
        simp only [wExpo0, ih]
theorem find_beq {mv : MV} {o : Nat} : mv.find? (fun q => Nat.beq q.1 o) = mv.find? (fun q => q.1 == o) := by
  congr 1; funext q; cases h : Nat.beq q.1 o with
  | true => simp [Nat.eq_of_beq_eq_true h]
  | false => simp [Nat.ne_of_beq_eq_false h]
theorem wExpo0_ok {ob : Objs} {conts : List Cont} : ∀ (k : Nat) (l : List AV) (mv : MV) (ns : List Cont) (K : List AV → MV → List Cont → Prop), wExpo0 ob conts k l mv ns K → ∃ l' mv' ns', expo ob conts k l mv ns = some (l', mv', ns') ∧ K l' mv' ns' := by
  intro k
  induction k with
  | zero => intro l mv ns K h; cases l with
    | nil => exact ⟨_, _, _, rfl, by simpa [wExpo0] using h⟩
    | cons x l => simp [wExpo0] at h
  | succ k ih =>
    intro l mv ns K h
    cases l with
    | nil => exact ⟨_, _, _, rfl, by simpa [wExpo0] using h⟩
    | cons x r =>
      cases x with
      | s x =>
        obtain ⟨l', mv', ns', h1, h2⟩ := ih _ _ _ _ h
        exact ⟨_, _, _, by simp only [expo, h1], h2⟩
      | u =>
        obtain ⟨l', mv', ns', h1, h2⟩ := ih _ _ _ _ h
        exact ⟨_, _, _, by simp only [expo, h1], h2⟩
      | nl sz =>
        simp only [wExpo0, fK_eq, fLen_eq, fLC_eq] at h
        obtain ⟨l', mv', ns', h1, h2⟩ := ih _ _ _ _ h
        exact ⟨_, _, _, by simp only [expo, h1], h2⟩
      | ag c =>
        obtain ⟨c', mv1, ns1, h1, h2⟩ := ih _ _ _ _ h
        obtain ⟨l', mv', ns', h3, h4⟩ := ih _ _ _ _ h2
        exact ⟨_, _, _, by simp only [expo, h1, h3], h4⟩
      | tu c =>
        obtain ⟨c', mv1, ns1, h1, h2⟩ := ih _ _ _ _ h
        obtain ⟨l', mv', ns', h3, h4⟩ := ih _ _ _ _ h2
        exact ⟨_, _, _, by simp only [expo, h1, h3], h4⟩
      | fn f c => simp [wExpo0] at h
      | h o b g p sz lo len =>
        simp only [wExpo0, fNil_eq, fOb_eq, fE_eq] at h
        obtain ⟨hp, hb, h⟩ := h
        simp only [expo, hp, hb, and_self, if_true]
        split at h
        · rename_i lv t hc
          simp only [hc]
          split at h
          · split at h
            · rename_i sz' rows hcc
              simp only [fB_eq, sI_eq, Bool.and_eq_true, Nat.ble_eq] at h
              obtain ⟨⟨⟨h1, h2⟩, h3⟩, h4, h⟩ := h
              have h1 := Nat.eq_of_beq_eq_true h1
              have h3 := Nat.eq_of_beq_eq_true h3
              obtain ⟨l', mv', ns', h5, h6⟩ := ih _ _ _ _ h
              simp only [hcc]
              rw [if_pos ⟨h1, h2, h3, h4⟩, h5]
              exact ⟨_, _, _, rfl, h6⟩
            · exact h.elim
          · split at h
            · rename_i sz0 rows
              rw [find_beq] at h
              split at h
              · rename_i q j lo' len' hf
                simp only [sI_eq, fK_eq] at h
                obtain ⟨h1, h⟩ := h
                obtain ⟨l', mv', ns', h5, h6⟩ := ih _ _ _ _ h
                simp only [hf]
                rw [if_pos h1, h5]
                exact ⟨_, _, _, rfl, h6⟩
              · rename_i hf
                simp only [sR_eq, fB_eq, fK_eq, fLen_eq, fLC_eq] at h
                obtain ⟨h1, h⟩ := h
                obtain ⟨l', mv', ns', h5, h6⟩ := ih _ _ _ _ h
                simp only [hf]
                rw [if_pos h1, h5]
                exact ⟨_, _, _, rfl, h6⟩
            · exact h.elim
        · exact h.elim
      | pt o b g p i j =>
        simp only [wExpo0, fNil_eq, fB_eq, fOb_eq, fE_eq, Bool.and_eq_true] at h
        obtain ⟨hp, ⟨hi, hj⟩, hb, h⟩ := h
        have hi := Nat.eq_of_beq_eq_true hi
        have hj := Nat.eq_of_beq_eq_true hj
        simp only [expo, hp, hi, hj, hb, and_self, if_true]
        split at h
        · rename_i cells hc
          simp only [hc]
          by_cases hin : 1000000 ≤ o ∧ o < 1000000 + conts.length
          · have e : (Nat.ble 1000000 o && Nat.blt o (1000000 + conts.length)) = true := by simp only [Bool.and_eq_true, Nat.ble_eq, Nat.blt_eq]; exact hin
            simp only [e, fG] at h
            simp only [hin, and_self, if_true]
            obtain ⟨⟨h1, h2⟩, h⟩ := h
            have h1 := Nat.eq_of_beq_eq_true h1
            obtain ⟨l', mv', ns', h5, h6⟩ := ih _ _ _ _ h
            rw [if_pos ⟨h1, h2⟩, h5]
            exact ⟨_, _, _, rfl, h6⟩
          · have e : (Nat.ble 1000000 o && Nat.blt o (1000000 + conts.length)) = false := by
              cases hh : (Nat.ble 1000000 o && Nat.blt o (1000000 + conts.length)) with
              | false => rfl
              | true => simp only [Bool.and_eq_true, Nat.ble_eq, Nat.blt_eq] at hh; exact absurd hh hin
            simp only [e, fG] at h
            rw [find_beq] at h
            rw [if_neg hin]
            split at h
            · exact h.elim
            · rename_i hf
              simp only [hf]
              obtain ⟨c', mv1, ns1, h1, h2⟩ := ih _ _ _ _ h
              simp only [fK_eq, fLen_eq, fLC_eq] at h2
              obtain ⟨l', mv', ns', h5, h6⟩ := ih _ _ _ _ h2
              rw [h1]
              simp only [h5]
              exact ⟨_, _, _, rfl, h6⟩
        · exact h.elim
theorem wExpo_ok {ob : Objs} {conts : List Cont} (k : Nat) (l : List AV) (mv : MV) (ns : List Cont) (K : List AV → MV → List Cont → Prop) (h : wExpo ob conts k l mv ns K) : ∃ l' mv' ns', expo ob conts k l mv ns = some (l', mv', ns') ∧ K l' mv' ns' := wExpo0_ok k l mv ns K (by rw [← wExpo_eq]; exact h)
def wBack (ob : Objs) (mv : MV) : Nat → List Cont → List AV → (List (Option Cont) → Prop) → Prop
  | _, [], _, K => K []
  | i, .box _ :: r, .ag l :: bs, K => wBack ob mv (i + 1) r bs fun b => K (some (.box l) :: b)
  | i, .tree 0 _ :: r, bs, K => wBack ob mv (i + 1) r bs fun b => K (none :: b)
  | i, .tree (_ + 1) t0 :: r, bs, K => fG (mv.any (fun q => Nat.beq q.1 (1000000 + i))) (wBack ob mv (i + 1) r bs fun b => K (some .dead :: b))
      (fOb (ob (1000000 + i)) fun b0 _ _ c => match c with
        | .tree l t => fB (Nat.beq b0 0) (fB (T.full l t) (sBool (t.like t0) fun q => fB q (wBack ob mv (i + 1) r bs fun b => K (some (.tree l t) :: b))))
        | .dead => wBack ob mv (i + 1) r bs fun b => K (some .dead :: b)
        | .box _ => False)
  | _, _, _, _ => False
theorem any_beq {mv : MV} {o : Nat} : mv.any (fun q => Nat.beq q.1 o) = mv.any (fun q => q.1 == o) := by
  congr 1; funext q; cases h : Nat.beq q.1 o with
  | true => simp [Nat.eq_of_beq_eq_true h]
  | false => simp [Nat.ne_of_beq_eq_false h]
theorem wBack_ok {ob : Objs} {mv : MV} : ∀ (r : List Cont) (i : Nat) (bs : List AV) (K : List (Option Cont) → Prop), wBack ob mv i r bs K → ∃ b, backE ob mv i r bs = some b ∧ K b := by
  intro r
  induction r with
  | nil => intro i bs K h; cases bs <;> exact ⟨[], by simp [backE], by simpa [wBack] using h⟩
  | cons c r ih =>
    intro i bs K h
    cases c with
    | dead => cases bs <;> simp [wBack] at h
    | box l =>
      cases bs with
      | nil => simp [wBack] at h
      | cons x bs =>
        cases x with
        | ag l' =>
          simp only [wBack] at h
          obtain ⟨b, h1, h2⟩ := ih _ _ _ h
          exact ⟨_, by simp only [backE, h1, Option.map_some], h2⟩
        | _ => simp [wBack] at h
    | tree lv t0 =>
      cases lv with
      | zero =>
        have h' : wBack ob mv (i + 1) r bs fun b => K (none :: b) := by cases bs <;> simpa [wBack] using h
        obtain ⟨b, h1, h2⟩ := ih _ _ _ h'
        exact ⟨_, by cases bs <;> simp only [backE, h1, Option.map_some], h2⟩
      | succ lv =>
        have h' : fG (mv.any (fun q => Nat.beq q.1 (1000000 + i))) (wBack ob mv (i + 1) r bs fun b => K (some .dead :: b))
            (fOb (ob (1000000 + i)) fun b0 _ _ c => match c with
              | .tree l t => fB (Nat.beq b0 0) (fB (T.full l t) (sBool (t.like t0) fun q => fB q (wBack ob mv (i + 1) r bs fun b => K (some (.tree l t) :: b))))
              | .dead => wBack ob mv (i + 1) r bs fun b => K (some .dead :: b)
              | .box _ => False) := by cases bs <;> exact h
        have e : backE ob mv i (.tree (lv + 1) t0 :: r) bs = if mv.any (·.1 == 1000000 + i) then (backE ob mv (i + 1) r bs).map (some .dead :: ·)
            else match (ob (1000000 + i)).c with
              | .tree l t => if T.full l t = true ∧ t.like t0 = true ∧ (ob (1000000 + i)).birth = 0 then (backE ob mv (i + 1) r bs).map (some (.tree l t) :: ·) else none
              | .dead => (backE ob mv (i + 1) r bs).map (some .dead :: ·)
              | .box _ => none := by cases bs <;> rfl
        rw [e]
        rw [any_beq] at h'
        cases ha : mv.any (fun q => q.1 == 1000000 + i) with
        | true =>
          simp only [ha, fG] at h'
          obtain ⟨b, h1, h2⟩ := ih _ _ _ h'
          exact ⟨_, by simp only [h1, Option.map_some, if_true], h2⟩
        | false =>
          simp only [ha, fG, fOb_eq] at h'
          simp only [Bool.false_eq_true, if_false]
          split at h'
          · rename_i l t hc
            simp only [fB_eq, sBool_eq] at h'
            obtain ⟨h0, h1, h2, h3⟩ := h'
            have h0 := Nat.eq_of_beq_eq_true h0
            obtain ⟨b, h4, h5⟩ := ih _ _ _ h3
            exact ⟨_, by simp only [hc, h0, h1, h2, and_self, if_true, h4, Option.map_some], h5⟩
          · rename_i hc
            obtain ⟨b, h4, h5⟩ := ih _ _ _ h'
            exact ⟨_, by simp only [hc, h4, Option.map_some], h5⟩
          · exact h'.elim
def wLeave (E : Env) (rs : List ResultVar) (conts : List Cont) (sl : Slots) (ob : Objs) (F : Res → Prop) : Prop :=
  wRets E ob sl rs fun vs => fL2 (oneOf vs :: boxArgs ob 0 conts) fun l => wExpo ob conts 99 l [] [] fun l mv ns => match l with
    | v :: bs => wBack ob mv 0 conts bs fun b => F ⟨v, ns, b⟩
    | [] => False
theorem wLeave_ok {E : Env} {rs : List ResultVar} {conts : List Cont} {sl : Slots} {ob : Objs} {F : Res → Prop} (h : wLeave E rs conts sl ob F) : ∃ r, leave E rs conts ⟨sl, ob⟩ = some r ∧ F r := by
  obtain ⟨vs, h1, h⟩ := wRets_ok _ _ h
  simp only [fL2_eq] at h
  obtain ⟨l, mv, ns, h2, h⟩ := wExpo_ok _ _ _ _ _ h
  cases l with
  | nil => exact h.elim
  | cons v bs =>
    obtain ⟨b, h3, h⟩ := wBack_ok _ _ _ _ h
    exact ⟨_, by simp only [leave, h1, h2, h3], h⟩
structure Told (x : Option Res) (F : Res → Prop) : Prop where
  h : ∃ r, x = some r ∧ F r
def wFn (E : Env) (n : Nat) (rs : List ResultVar) (conts : List Cont) (c : Code) (sl : Slots) (ob : Objs) (F : Res → Prop) : Prop :=
  wC E n c sl ob fun e sl ob => match e with
    | .exit _ => False
    | .normal => wLeave E rs conts sl ob F
    | .ret => wLeave E rs conts sl ob F
def inOb (conts : List Cont) : Objs := fun o => ⟨0, 0, false, match Nat.ble 1000000 o with | true => conts.getD (o - 1000000) .dead | false => .dead⟩
theorem inOb_eq {conts : List Cont} : inOb conts = obIn conts := by
  funext o
  unfold inOb obIn
  cases h : Nat.ble 1000000 o with
  | true => rw [Nat.ble_eq] at h; rw [if_pos h]
  | false => rw [if_neg (by intro hh; rw [← Nat.ble_eq] at hh; rw [hh] at h; cases h)]
theorem callE_w {P : Program} {C : Conf} {k f : Nat} {args : List AV} {conts : List Cont} {F : Res → Prop} {fn : Func} {c : Code} (rs : List ResultVar) (hp : C.prim f = none) (hf : P.funcs[f]? = some fn) (hb : fn.body = some c) (hok : (codeOk fn.ntmps c && fn.name != "runtime.NumGoroutine") = true) (hrs : fn.results.toList = rs) (hn : conts.length < 1000000)
    (h : wFn ⟨C.ty, callE P C k, C.md, fn.ntmps⟩ C.fuel rs conts c (slIn args) (inOb conts) F) : Told (callE P C (k + 1) f args conts) F := by
  subst hrs
  rw [inOb_eq] at h
  obtain ⟨e, s', h1, h2⟩ := wC_ok _ _ _ _ h
  cases e with
  | exit id => exact h2.elim
  | normal =>
    obtain ⟨r, h3, h4⟩ := wLeave_ok h2
    exact ⟨⟨r, by simp only [callE, hp, hf, hb, hok, hn, and_self, if_true, Conf.env, h1, h3], h4⟩⟩
  | ret =>
    obtain ⟨r, h3, h4⟩ := wLeave_ok h2
    exact ⟨⟨r, by simp only [callE, hp, hf, hb, hok, hn, and_self, if_true, Conf.env, h1, h3], h4⟩⟩
end Go.Proofs.YtipfcgbhaalcdaaGreat.Abs
namespace Go.Proofs.YtipfcgbhaalcdaaGreat.Abs
open Go
set_option linter.unusedVariables false
set_option linter.unusedSimpArgs false
def idW : AV → List Nat
  | .h o _ _ _ _ _ _ => [o]
  | .pt o _ _ _ _ _ => [o]
  | _ => []
def idsW : List AV → List Nat
  | [] => []
  | a :: r => idW a ++ idsW r
def reach (ob : Objs) : Nat → List AV → List Nat
  | 0, _ => []
  | _ + 1, [] => []
  | n + 1, .h o _ _ _ _ _ _ :: r => o :: reach ob n r
  | n + 1, .pt o _ _ _ _ _ :: r => o :: ((match (ob o).c with | .box l => reach ob n l | _ => []) ++ reach ob n r)
  | n + 1, .ag c :: r => reach ob n c ++ reach ob n r
  | n + 1, .fn _ c :: r => reach ob n c ++ reach ob n r
  | n + 1, _ :: r => reach ob n r
def cellsOf (x : AV) : List AV := match x.cells? with | some l => l | none => []
def has? (l : List Nat) (x : Nat) : Bool := l.any (Nat.beq x)
def fam (d x : Nat) : Bool := Nat.ble 10000 x && Nat.beq (x % 5000) (d % 5000)
def bsCells (ty : TypeId → Option TyI) (sl : Slots) (t : TypeId) (len : Nat) (parts : Array (Nat × Operand)) : List AV := match ty t with
  | some ti => (match ti.elem with
    | some e => (match ty e with
      | some i => (match fillAt (fun k => some (k * i.cells.length, i.cells.length)) ((List.replicate len i.cells).flatten) (parts.toList.map fun (k, x) => (k, wT ty sl e x)) with
        | some l => l
        | none => [])
      | none => [])
    | none => [])
  | none => []
def msCells (ty : TypeId → Option TyI) (t : TypeId) : List AV := match ty t with
  | some ti => (match ti.elem with
    | some e => (match ty e with
      | some i => i.cells
      | none => [])
    | none => [])
  | none => []
def touch (ty : TypeId → Option TyI) (sl : Slots) (ob : Objs) (dd : Nat) (op : Op) (x : Nat) : Bool := match op with
  | .load _ a => has? (idW (ev sl a)) x
  | .store t a v => has? (idW (ev sl a)) x || has? (idsW (cellsOf (wT ty sl t v))) x
  | .alloc _ => Nat.beq x dd
  | .box _ _ => Nat.beq x dd
  | .makeSlice t _ _ => Nat.beq x dd || has? (idsW (msCells ty t)) x
  | .convert _ _ a => Nat.beq x dd || has? (idW (ev sl a)) x
  | .buildSlice t len parts => Nat.beq x dd || has? (idsW (bsCells ty sl t len parts)) x
  | .call c => (match c.callee with
    | .builtin .append => Nat.beq x dd || c.args.toList.any fun a => has? (idW (ev sl a)) x
    | .value f => fam dd x || (match ev sl f with
      | .fn _ caps => has? (reach ob 99 ((((c.args.toList.zip c.argTypes.toList).map fun (x, t) => wT ty sl t x)) ++ caps)) x
      | _ => false)
    | _ => false)
  | _ => false
theorem has?_iff {l : List Nat} {x : Nat} : has? l x = true ↔ x ∈ l := by
  unfold has?
  rw [List.any_eq_true]
  constructor
  · rintro ⟨y, hy, h⟩; rw [Nat.eq_of_beq_eq_true h]; exact hy
  · intro h; exact ⟨x, h, Nat.beq_refl x⟩
theorem beq_iff {x y : Nat} : Nat.beq x y = true ↔ x = y := ⟨Nat.eq_of_beq_eq_true, fun h => by rw [h]; exact Nat.beq_refl y⟩

section
variable {α : Type} {ob : Objs}
theorem ids_mk {d : Nat} {c : Cont} {k : Nat → AV} {ss : List (Nat × Ob)} {x : Nat} (h : x ∈ (mk d c k ss).ids ob) : x = d := by
  simp only [mk, Rd.ids, List.mem_singleton] at h; exact h
theorem ids_look {o b g : Nat} {p : List (Nat × Nat)} {k : Ob → Nat → T → Nat → List (List T) → Rd α} {x : Nat} (h : x ∈ (look o b g p k).ids ob) : x = o ∨ ∃ y l t s r, x ∈ (k y l t s r).ids ob := by
  simp only [look, Rd.ids, List.mem_cons] at h
  rcases h with h | h
  · exact .inl h
  · right
    split at h
    · split at h
      · split at h
        · exact ⟨_, _, _, _, _, h⟩
        · simp [Rd.ids] at h
      · simp [Rd.ids] at h
    · simp [Rd.ids] at h
theorem ids_grab {x : Nat} : ∀ (l : List AV) (mv : List Nat) (k : List T → Nat → List (Nat × Ob) → Rd α), x ∈ (grab l mv k).ids ob → x ∈ idsW l ∨ ∃ ts n ss, x ∈ (k ts n ss).ids ob := by
  intro l
  induction l with
  | nil => intro mv k h; exact .inr ⟨_, _, _, h⟩
  | cons a l ih =>
    intro mv k h
    have step : ∀ (mv : List Nat) (k' : List T → Nat → List (Nat × Ob) → Rd α), x ∈ (grab l mv k').ids ob → (∀ ts n ss, x ∈ (k' ts n ss).ids ob → ∃ ts n ss, x ∈ (k ts n ss).ids ob) → x ∈ idsW (a :: l) ∨ ∃ ts n ss, x ∈ (k ts n ss).ids ob := by
      intro mv k' h hk
      rcases ih mv k' h with h | ⟨ts, n, ss, h⟩
      · left; simp only [idsW, List.mem_append]; exact .inr h
      · right; exact hk _ _ _ h
    cases a with
    | s v => exact step mv _ h fun ts n ss h => ⟨_, _, _, h⟩
    | nl sz => exact step mv _ h fun ts n ss h => ⟨_, _, _, h⟩
    | h o b g p sz lo len =>
      rcases ids_look h with h | ⟨y, lv, t, s, r, h⟩
      · left; simp [idsW, idW, h]
      · split at h
        · simp [Rd.ids] at h
        · split at h
          · exact step mv _ h fun ts n ss h => ⟨_, _, _, h⟩
          · split at h
            · exact step _ _ h fun ts n ss h => ⟨_, _, _, h⟩
            · simp [Rd.ids] at h
    | _ => simp [grab, Rd.ids] at h
theorem ids_tail {x : Nat} {v : AV} {k : List (List T) → Nat → List (Nat × Ob) → Rd α} (h : x ∈ (exTail v k).ids ob) : x ∈ idW v ∨ ∃ ts n ss, x ∈ (k ts n ss).ids ob := by
  cases v with
  | nl n => exact .inr ⟨_, _, _, h⟩
  | h o b g p sz lo len =>
    rcases ids_look h with h | ⟨y, lv, t, s, r, h⟩
    · left; simp [idW, h]
    · split at h
      · exact .inr ⟨_, _, _, h⟩
      · split at h
        · exact .inr ⟨_, _, _, h⟩
        · simp [Rd.ids] at h
  | _ => simp [exTail, Rd.ids] at h
theorem ids_append {E : Env} {d sz : Nat} {ti : TyI} {s v : AV} {x : Nat} (h : x ∈ (exAppend E d ti sz s v).ids ob) : x = d ∨ x ∈ idW s ∨ x ∈ idW v := by
  rcases ids_tail h with h | ⟨ts, n, ss, h⟩
  · exact .inr (.inr h)
  · split at h
    · split at h
      · split at h
        · exact .inl (ids_mk h)
        · simp [Rd.ids] at h
      · rcases ids_look h with h | ⟨y, lv, t, s, r, h⟩
        · right; left; simp [idW, h]
        · split at h
          · exact .inl (ids_mk h)
          · simp [Rd.ids] at h
      · simp [Rd.ids] at h
    · simp [Rd.ids] at h
theorem ids_store {n : Nat} {a v : AV} {x : Nat} (h : x ∈ (exStore n a v).ids ob) : x ∈ idW a ∨ x ∈ idsW (cellsOf v) := by
  cases a with
  | pt o b g p i j =>
    simp only [exStore, Rd.ids, List.mem_cons] at h
    rcases h with h | h
    · left; simp [idW, h]
    · right
      split at h
      · split at h
        · split at h <;> simp [Rd.ids] at h
        · simp [Rd.ids] at h
      · split at h
        · split at h
          · split at h
            · split at h
              · rename_i l hl
                rcases ids_grab _ _ _ h with h | ⟨ts, n, ss, h⟩
                · simp only [cellsOf, hl]; exact h
                · split at h <;> simp [Rd.ids] at h
              · simp [Rd.ids] at h
            · simp [Rd.ids] at h
          · simp [Rd.ids] at h
        · simp [Rd.ids] at h
      · simp [Rd.ids] at h
  | _ => simp [exStore, Rd.ids] at h
theorem ids_recut {a v : AV} {x : Nat} (h : x ∈ (exRecut a v).ids ob) : x ∈ idW a := by
  cases a with
  | pt o b g p i j => cases v with
    | h o' b' g' p' sz' lo len =>
      simp only [exRecut] at h
      split at h
      · rcases ids_look h with h | ⟨y, lv, t, s, r, h⟩
        · simp [idW, h]
        · simp only [recutK] at h
          split at h
          · split at h
            · split at h <;> simp [Rd.ids] at h
            · simp [Rd.ids] at h
          · simp [Rd.ids] at h
      · simp [Rd.ids] at h
    | _ => simp [exRecut, Rd.ids] at h
  | _ => simp [exRecut, Rd.ids] at h
theorem ids_load {E : Env} {ti : TyI} {a : AV} {x : Nat} (h : x ∈ (exLoad E ti a).ids ob) : x ∈ idW a := by
  cases a with
  | pt o b g p i j =>
    simp only [exLoad, Rd.ids, List.mem_cons] at h
    rcases h with h | h
    · simp [idW, h]
    · exfalso
      split at h
      · split at h
        · split at h
          · split at h <;> simp [val, Rd.ids] at h
          · split at h <;> simp [val, Rd.ids] at h
        · simp [Rd.ids] at h
      · split at h
        · split at h
          · split at h
            · split at h
              · split at h <;> simp [val, Rd.ids] at h
              · split at h <;> simp [val, Rd.ids] at h
            · simp [Rd.ids] at h
          · simp [Rd.ids] at h
        · simp [Rd.ids] at h
      · simp [Rd.ids] at h
  | _ => simp [exLoad, Rd.ids] at h
theorem ids_conv {d : Nat} {ti ts : TyI} {bt bs : Bool} {v : AV} {x : Nat} (h : x ∈ (exConv d ti ts bt bs v).ids ob) : x = d ∨ x ∈ idW v := by
  unfold exConv at h
  split at h
  · split at h
    · split at h <;> simp [val, Rd.ids] at h
    · simp [Rd.ids] at h
  · split at h
    · exact .inl (ids_mk h)
    · simp [Rd.ids] at h
  · split at h <;> simp [val, Rd.ids] at h
  · split at h
    · rcases ids_look h with h | ⟨y, lv, t, s, r, h⟩
      · right; simp [idW, h]
      · split at h
        · split at h <;> simp [val, Rd.ids] at h
        · simp [Rd.ids] at h
    · simp [Rd.ids] at h
  · simp [Rd.ids] at h
def srcIds : List (Cont × Src) → List Nat
  | [] => []
  | (_, .root o _) :: r => o :: srcIds r
  | (_, .nest o _ _ _ _) :: r => o :: srcIds r
  | (_, .box o _) :: r => o :: srcIds r
  | (_, .ro _) :: r => srcIds r
theorem srcIds_app {a b : List (Cont × Src)} : srcIds (a ++ b) = srcIds a ++ srcIds b := by
  induction a with
  | nil => rfl
  | cons e a ih => obtain ⟨c, s⟩ := e; cases s <;> simp [srcIds, ih]
theorem ids_imp {md : List Bool} {x : Nat} : ∀ (n : Nat) (l : List AV) (es : List (Cont × Src)) (k : List AV → List (Cont × Src) → Rd α), x ∈ (imp md n l es k).ids ob →
    x ∈ reach ob n l ∨ ∃ l' es', (∀ y, y ∈ srcIds es' → y ∈ srcIds es ∨ y ∈ reach ob n l) ∧ x ∈ (k l' es').ids ob := by
  intro n
  induction n with
  | zero => intro l es k h; cases l with
    | nil => exact .inr ⟨_, _, fun y h => .inl h, h⟩
    | cons a l => simp [imp, Rd.ids] at h
  | succ n ih =>
    intro l es k h
    cases l with
    | nil => exact .inr ⟨_, _, fun y h => .inl h, h⟩
    | cons a r =>
      cases a with
      | s v =>
        rcases ih r es _ h with h | ⟨l', es', h1, h2⟩
        · left; simpa [reach] using h
        · exact .inr ⟨_, _, fun y hy => by simpa [reach] using h1 y hy, h2⟩
      | u =>
        rcases ih r es _ h with h | ⟨l', es', h1, h2⟩
        · left; simpa [reach] using h
        · exact .inr ⟨_, _, fun y hy => by simpa [reach] using h1 y hy, h2⟩
      | nl sz =>
        simp only [imp] at h
        split at h
        · rcases ih r es _ h with h | ⟨l', es', h1, h2⟩
          · left; simpa [reach] using h
          · exact .inr ⟨_, _, fun y hy => by simpa [reach] using h1 y hy, h2⟩
        · rcases ih r _ _ h with h | ⟨l', es', h1, h2⟩
          · left; simpa [reach] using h
          · exact .inr ⟨_, _, fun y hy => by simpa [reach, srcIds_app, srcIds] using h1 y hy, h2⟩
      | ag c =>
        rcases ih c es _ h with h | ⟨l1, es1, h1, h2⟩
        · left; simp only [reach, List.mem_append]; exact .inl h
        · rcases ih r es1 _ h2 with h | ⟨l', es', h3, h4⟩
          · left; simp only [reach, List.mem_append]; exact .inr h
          · refine .inr ⟨_, _, fun y hy => ?_, h4⟩
            simp only [reach, List.mem_append]
            rcases h3 y hy with h | h
            · rcases h1 y h with h | h
              · exact .inl h
              · exact .inr (.inl h)
            · exact .inr (.inr h)
      | fn f c =>
        rcases ih c es _ h with h | ⟨l1, es1, h1, h2⟩
        · left; simp only [reach, List.mem_append]; exact .inl h
        · rcases ih r es1 _ h2 with h | ⟨l', es', h3, h4⟩
          · left; simp only [reach, List.mem_append]; exact .inr h
          · refine .inr ⟨_, _, fun y hy => ?_, h4⟩
            simp only [reach, List.mem_append]
            rcases h3 y hy with h | h
            · rcases h1 y h with h | h
              · exact .inl h
              · exact .inr (.inl h)
            · exact .inr (.inr h)
      | tu c => simp [imp, Rd.ids] at h
      | h o b g p sz lo len =>
        rcases ids_look h with h | ⟨ob', lvl, t, sz', rows, h⟩
        · left; simp [reach, h]
        · have fin : ∀ (e : Cont × Src) (k' : List AV → List (Cont × Src) → Rd α), (∀ y, y ∈ srcIds [e] → y = o) → x ∈ (imp md n r (es ++ [e]) k').ids ob → (∀ l es, x ∈ (k' l es).ids ob → ∃ l' es', (∀ y, y ∈ srcIds es' → y ∈ srcIds es) ∧ x ∈ (k l' es').ids ob) →
              x ∈ reach ob (n + 1) (.h o b g p sz lo len :: r) ∨ ∃ l' es', (∀ y, y ∈ srcIds es' → y ∈ srcIds es ∨ y ∈ reach ob (n + 1) (.h o b g p sz lo len :: r)) ∧ x ∈ (k l' es').ids ob := by
            intro e k' he h hk
            rcases ih r _ _ h with h | ⟨l', es', h1, h2⟩
            · left; simp only [reach, List.mem_cons]; exact .inr h
            · obtain ⟨l2, es2, h3, h4⟩ := hk _ _ h2
              refine .inr ⟨l2, es2, fun y hy => ?_, h4⟩
              simp only [reach, List.mem_cons]
              rcases h1 y (h3 y hy) with h | h
              · rw [srcIds_app, List.mem_append] at h
                rcases h with h | h
                · exact .inl h
                · exact .inr (.inl (he y h))
              · exact .inr (.inr h)
          split at h
          · split at h
            · refine fin _ _ ?_ h fun l es h => ⟨_, _, fun y hy => hy, h⟩
              intro y hy
              by_cases hp : p = [] <;> simpa [hp, srcIds] using hy
            · simp [Rd.ids] at h
          · refine fin _ _ ?_ h fun l es h => ⟨_, _, fun y hy => hy, h⟩
            intro y hy
            simp [srcIds] at hy
      | pt o b g p i j =>
        cases p with
        | cons a p => simp [imp, Rd.ids] at h
        | nil => cases i with
          | succ i => simp [imp, Rd.ids] at h
          | zero => cases j with
            | succ j => simp [imp, Rd.ids] at h
            | zero =>
              simp only [imp, lookBox, Rd.ids, List.mem_cons] at h
              rcases h with h | h
              · left; simp [reach, h]
              · split at h
                · rename_i cells hc
                  split at h
                  · have er : reach ob (n + 1) (.pt o b g [] 0 0 :: r) = o :: (reach ob n cells ++ reach ob n r) := by simp only [reach, hc]
                    rw [er]
                    simp only [List.mem_cons, List.mem_append]
                    rcases ih cells es _ h with h | ⟨l1, es1, h1, h2⟩
                    · exact .inl (.inr (.inl h))
                    · rcases ih r _ _ h2 with h | ⟨l', es', h3, h4⟩
                      · exact .inl (.inr (.inr h))
                      · refine .inr ⟨_, _, fun y hy => ?_, h4⟩
                        rcases h3 y hy with h | h
                        · rw [srcIds_app, List.mem_append] at h
                          rcases h with h | h
                          · rcases h1 y h with h | h
                            · exact .inl h
                            · exact .inr (.inr (.inl h))
                          · simp [srcIds] at h; exact .inr (.inl h)
                        · exact .inr (.inr (.inr h))
                  · simp [Rd.ids] at h
                · simp [Rd.ids] at h
theorem ids_new {d x : Nat} : ∀ (r : List Cont) (n : Nat) (k : List AV → Rd α), x ∈ (newIds d n r k).ids ob → fam d x = true ∨ ∃ l, x ∈ (k l).ids ob := by
  intro r
  induction r with
  | nil => intro n k h; exact .inr ⟨_, h⟩
  | cons c r ih =>
    intro n k h
    have hf : fam d (d + 10000 * (n + 1)) = true := by
      simp only [fam, Bool.and_eq_true, Nat.ble_eq, beq_iff]
      omega
    cases c with
    | dead => simp [newIds, Rd.ids] at h
    | tree l t =>
      simp only [newIds, Rd.ids, List.mem_cons] at h
      rcases h with h | h
      · left; rw [h]; exact hf
      · rcases ih _ _ h with h | ⟨l, h⟩
        · exact .inl h
        · exact .inr ⟨_, h⟩
    | box l =>
      simp only [newIds, Rd.ids, List.mem_cons] at h
      rcases h with h | h
      · left; rw [h]; exact hf
      · rcases ih _ _ h with h | ⟨l, h⟩
        · exact .inl h
        · exact .inr ⟨_, h⟩
theorem ids_backs {x : Nat} : ∀ (r : List (Option Cont)) (es : List (Cont × Src)) (k : List (Nat × Ob) → Rd α), x ∈ (backs r es k).ids ob → x ∈ srcIds es ∨ ∃ l, x ∈ (k l).ids ob := by
  intro r
  induction r with
  | nil => intro es k h; cases es with
    | nil => exact .inr ⟨_, h⟩
    | cons e es => simp [backs, Rd.ids] at h
  | cons c r ih =>
    intro es k h
    cases es with
    | nil => cases c <;> simp [backs, Rd.ids] at h
    | cons e es =>
      obtain ⟨c0, s⟩ := e
      have up : ∀ k' : List (Nat × Ob) → Rd α, x ∈ (backs r es k').ids ob → (∀ l, x ∈ (k' l).ids ob → ∃ l, x ∈ (k l).ids ob) → x ∈ srcIds ((c0, s) :: es) ∨ ∃ l, x ∈ (k l).ids ob := by
        intro k' h hk
        rcases ih es k' h with h9 | ⟨l, h⟩
        · left; clear hk; cases s <;> simp [srcIds, h9]
        · exact .inr (hk _ h)
      cases c with
      | none => exact up k h fun l h => ⟨l, h⟩
      | some c =>
        cases s with
        | ro v => cases v with
          | nl n => cases c <;> exact up k h fun l h => ⟨l, h⟩
          | _ => cases c <;> simp [backs, Rd.ids] at h
        | root o b => cases c with
          | dead =>
            simp only [backs, Rd.ids, List.mem_cons] at h
            rcases h with h | h
            · left; simp [srcIds, h]
            · exact up _ h fun l h => ⟨_, h⟩
          | tree l t =>
            simp only [backs, Rd.ids, List.mem_cons] at h
            rcases h with h | h
            · left; simp [srcIds, h]
            · exact up _ h fun l h => ⟨_, h⟩
          | box l => simp [backs, Rd.ids] at h
        | box o b => cases c with
          | dead => simp [backs, Rd.ids] at h
          | tree l t => simp [backs, Rd.ids] at h
          | box l =>
            simp only [backs, Rd.ids, List.mem_cons] at h
            rcases h with h | h
            · left; simp [srcIds, h]
            · exact up _ h fun l h => ⟨_, h⟩
        | nest o b g p lvl => cases c with
          | dead => simp [backs, Rd.ids] at h
          | box l => simp [backs, Rd.ids] at h
          | tree l' t' =>
            simp only [backs, Rd.ids, List.mem_cons] at h
            rcases h with h | h
            · left; simp [srcIds, h]
            · split at h
              · split at h
                · exact up _ h fun l h => ⟨_, h⟩
                · simp [Rd.ids] at h
              · simp [Rd.ids] at h
theorem ids_boxes {x : Nat} {nid : Nat → AV} {src : List (Cont × Src)} : ∀ (r : List (Option Cont)) (es : List (Cont × Src)) (k : List (Nat × Ob) → Rd α), x ∈ (boxBacks nid src r es k).ids ob → x ∈ srcIds es ∨ ∃ l, x ∈ (k l).ids ob := by
  intro r
  induction r with
  | nil => intro es k h; cases es <;> exact .inr ⟨_, h⟩
  | cons c r ih =>
    intro es k h
    cases es with
    | nil => cases c with
      | none => exact .inr ⟨_, h⟩
      | some c => cases c <;> exact .inr ⟨_, h⟩
    | cons e es =>
      obtain ⟨c0, s⟩ := e
      have up : ∀ k' : List (Nat × Ob) → Rd α, x ∈ (boxBacks nid src r es k').ids ob → (∀ l, x ∈ (k' l).ids ob → ∃ l, x ∈ (k l).ids ob) → x ∈ srcIds ((c0, s) :: es) ∨ ∃ l, x ∈ (k l).ids ob := by
        intro k' h hk
        rcases ih es k' h with h9 | ⟨l, h⟩
        · left; clear hk; cases s <;> simp [srcIds, h9]
        · exact .inr (hk _ h)
      cases c with
      | none => exact up k (by simpa only [boxBacks] using h) fun l h => ⟨l, h⟩
      | some c => cases c with
        | dead => exact up k (by simpa only [boxBacks] using h) fun l h => ⟨l, h⟩
        | tree l t => exact up k (by simpa only [boxBacks] using h) fun l h => ⟨l, h⟩
        | box l => cases s with
          | box o b =>
            simp only [boxBacks, Rd.ids, List.mem_cons] at h
            rcases h with h | h
            · left; simp [srcIds, h]
            · exact up _ h fun l h => ⟨_, h⟩
          | root o b => exact up k (by simpa only [boxBacks] using h) fun l h => ⟨l, h⟩
          | nest o b g p lvl => exact up k (by simpa only [boxBacks] using h) fun l h => ⟨l, h⟩
          | ro v => exact up k (by simpa only [boxBacks] using h) fun l h => ⟨l, h⟩
end
theorem ids_call0 {E : Env} {ob : Objs} {d : Nat} {f : FuncId} {args : List AV} {x : Nat} (h : x ∈ (exCall0 E d f args).ids ob) : fam d x = true ∨ x ∈ reach ob 99 args := by
  rcases ids_imp _ _ _ _ h with h | ⟨l, es, h1, h⟩
  · exact .inr h
  · have h1 : ∀ y, y ∈ srcIds es → y ∈ reach ob 99 args := fun y hy => by
      rcases h1 y hy with h | h
      · simp [srcIds] at h
      · exact h
    split at h
    · unfold Rd.ofOpt at h
      split at h
      · rcases ids_new _ _ _ h with h | ⟨vs, h⟩
        · exact .inl h
        · rcases ids_backs _ _ _ h with h | ⟨bs, h⟩
          · exact .inr (h1 _ h)
          · rcases ids_boxes _ _ _ h with h | ⟨xs, h⟩
            · exact .inr (h1 _ h)
            · split at h <;> simp [Rd.ids] at h
      · simp [Rd.ids] at h
    · simp [Rd.ids] at h
theorem ids_call {E : Env} {ob : Objs} {d : Nat} {f : FuncId} {args : List AV} {x : Nat} (h : x ∈ (exCall E d f args).ids ob) : fam d x = true ∨ x ∈ reach ob 99 args := by
  unfold exCall at h
  cases h9 : otherName d (E.md f) args with
  | true =>
    rw [h9] at h
    rcases ids_call0 h with h | h
    · left
      simp only [fam, Bool.and_eq_true, Nat.ble_eq, beq_iff] at h ⊢
      omega
    · exact .inr h
  | false => rw [h9] at h; exact ids_call0 h
theorem touch_ok {E : Env} {sl : Slots} {ob : Objs} {o : Oper} {x : Nat} (h : x ∈ (ex E sl o).ids ob) : touch E.ty sl ob (o.dst.getD 0) o.op x = true := by
  obtain ⟨dst, op, typ, pos, after, guard⟩ := o
  cases op
  case move a => simp [ex, val, Rd.ids] at h
  case assign a => simp [ex, val, Rd.ids] at h
  case pick c a b => simp only [ex] at h; split at h <;> simp [val, Rd.ids] at h
  case alloc t =>
    simp only [ex] at h
    split at h
    · simp only [touch, beq_iff]; exact ids_mk h
    · simp [Rd.ids] at h
  case box t a =>
    simp only [ex] at h
    split at h
    · simp only [touch, beq_iff]; exact ids_mk h
    · simp [Rd.ids] at h
  case build t parts =>
    simp only [ex] at h
    split at h
    · split at h
      · unfold opt at h; split at h <;> simp [Rd.ids] at h
      · simp [Rd.ids] at h
    · simp [Rd.ids] at h
  case buildSlice t len parts =>
    simp only [ex] at h
    split at h
    · rename_i ti hti
      split at h
      · rename_i e he
        split at h
        · rename_i i hi
          split at h
          · rename_i cells hc
            split at h
            · rcases ids_grab _ _ _ h with h | ⟨ts, n, ss, h⟩
              · simp only [touch, bsCells, hti, he, hi, wT_eq, hc, Bool.or_eq_true, has?_iff]
                exact .inr h
              · simp only [touch, Bool.or_eq_true, beq_iff]; exact .inl (ids_mk h)
            · simp [Rd.ids] at h
          · simp [Rd.ids] at h
        · simp [Rd.ids] at h
      · simp [Rd.ids] at h
    · simp [Rd.ids] at h
  case load t a =>
    simp only [ex] at h
    split at h
    · simp only [touch, has?_iff]; exact ids_load h
    · simp [Rd.ids] at h
  case store t a v =>
    simp only [ex] at h
    split at h
    · simp only [touch, wT_eq, Bool.or_eq_true, has?_iff]
      split at h
      · split at h
        · exact .inl (ids_recut h)
        · simp [Rd.ids] at h
      · exact ids_store h
    · simp [Rd.ids] at h
  case nilCheck a => simp only [ex] at h; split at h <;> simp [val, Rd.ids] at h
  case binOp op t a b yt =>
    simp only [ex] at h
    unfold exBin at h
    have ho : ∀ v : Option AV, x ∈ (opt v).ids ob → False := by intro v hv; unfold opt at hv; split at hv <;> simp [Rd.ids] at hv
    split at h
    · split at h
      · split at h <;> simp [val, Rd.ids] at h
      · split at h <;> simp [val, Rd.ids] at h
      · exact (ho _ h).elim
    · split at h
      · exact (ho _ h).elim
      · simp [Rd.ids] at h
    · split at h
      · exact (ho _ h).elim
      · simp [Rd.ids] at h
    · exact (ho _ h).elim
    · simp [Rd.ids] at h
  case unOp op t a => simp only [ex] at h; split at h <;> simp [val, Rd.ids] at h
  case convert st t a =>
    simp only [ex] at h
    split at h
    · simp only [touch, Bool.or_eq_true, beq_iff, has?_iff]; exact ids_conv h
    · simp [Rd.ids] at h
  case makeFunc f first cap =>
    cases f with
    | func f => simp only [ex] at h; split at h <;> simp [val, Rd.ids] at h
    | _ => simp [ex, Rd.ids] at h
  case makeSlice t l c =>
    simp only [ex] at h
    split at h
    · rename_i ti hti
      split at h
      · rename_i e he
        split at h
        · rename_i i hi
          split at h
          · split at h
            · simp only [touch, msCells, hti, he, hi, Bool.or_eq_true, beq_iff, has?_iff]
              rcases ids_grab _ _ _ h with h | ⟨ts, n, ss, h⟩
              · exact .inr h
              · exact .inl (ids_mk h)
            · simp [Rd.ids] at h
          · simp [Rd.ids] at h
        · simp [Rd.ids] at h
      · simp [Rd.ids] at h
    · simp [Rd.ids] at h
  case slice t a lo hi mx =>
    cases mx with
    | some y => simp [ex, Rd.ids] at h
    | none =>
      simp only [ex] at h
      split at h
      · simp [Rd.ids] at h
      · split at h <;> first | (split at h <;> simp [val, Rd.ids] at h; done) | (simp [Rd.ids] at h; done)
  case fieldAddr t a f =>
    simp only [ex] at h
    split at h
    · split at h <;> simp [val, Rd.ids] at h
    · simp [Rd.ids] at h
  case indexAddr t a ix =>
    simp only [ex] at h
    split at h
    · split at h <;> simp [val, Rd.ids] at h
    · simp [Rd.ids] at h
  case index t a ix =>
    simp only [ex] at h
    split at h
    · split at h <;> simp [val, Rd.ids] at h
    · simp [Rd.ids] at h
  case extract a i =>
    simp only [ex] at h
    split at h
    · unfold opt at h; split at h <;> simp [Rd.ids] at h
    · simp [Rd.ids] at h
  case call c =>
    obtain ⟨cl, args, ats⟩ := c
    cases cl with
    | value f =>
      simp only [ex] at h
      split at h
      · rename_i f' caps e
        split at h
        · simp only [touch, e, Bool.or_eq_true, has?_iff, wT_eq]
          exact ids_call h
        · simp [Rd.ids] at h
      · simp [Rd.ids] at h
    | builtin bi =>
      cases bi
      case len =>
        simp only [ex] at h
        split at h
        · split at h <;> simp [val, Rd.ids] at h
        · split at h <;> simp [val, Rd.ids] at h
        · split at h <;> simp [val, Rd.ids] at h
        · simp [Rd.ids] at h
      case append =>
        simp only [ex] at h
        split at h
        · rename_i s v t t' e1 e2
          split at h
          · split at h
            · split at h
              · simp only [touch, Bool.or_eq_true, beq_iff]
                have hm : ∀ y ∈ [s, v], x ∈ idW y → (args.toList.any fun a => has? (idW (ev sl a)) x) = true := by
                  intro y hy hx
                  rw [← e1, List.mem_map] at hy
                  obtain ⟨a, ha, rfl⟩ := hy
                  rw [List.any_eq_true]
                  exact ⟨a, ha, has?_iff.2 hx⟩
                rcases ids_append h with h | h | h
                · exact .inl h
                · exact .inr (hm s (by simp) h)
                · exact .inr (hm v (by simp) h)
              · simp only [touch, Bool.or_eq_true, beq_iff]
                unfold exZeros at h
                split at h
                · split at h
                  · exact .inl (ids_mk h)
                  · simp [Rd.ids] at h
                · simp [Rd.ids] at h
            · simp [Rd.ids] at h
          · simp [Rd.ids] at h
        · simp [Rd.ids] at h
      case cap =>
        simp only [ex] at h
        split at h
        · split at h <;> simp [val, Rd.ids] at h
        · simp [Rd.ids] at h
      case min => simp only [ex] at h; split at h <;> simp [val, Rd.ids] at h
      case max => simp only [ex] at h; split at h <;> simp [val, Rd.ids] at h
      all_goals simp [ex, Rd.ids] at h
    | _ => simp [ex, Rd.ids] at h
  all_goals simp [ex, Rd.ids] at h
abbrev Tr := List (Nat × List Nat × (Nat → Bool))
section
variable (ty : TypeId → Option TyI) (call : FuncId → List AV → List Cont → Option Res) (md : FuncId → List Bool)
def wTStep (all : List Oper) (i : Nat) (sl : Slots) (ob : Objs) (tr : Tr) (K : Slots → Objs → Tr → Prop) (d : Option Tmp) (op : Op) (t : TypeId) (g : Option (Nat × Bool)) (ih : Nat → Slots → Objs → Tr → (Slots → Objs → Tr → Prop) → Prop) : Prop := match g with
  | none => wOp ty call md sl (d.getD 0) op t ob fun v ss => fK (i + 1) fun i' => ih i' (wDst sl d v) (wUpds ob ss) ((i, ss.map (·.1), touch ty sl ob (d.getD 0) op) :: tr) K
  | some (j, want) => fO ((all[j]?).bind (·.dst)) fun x => fA (sl x) fun v => match v with
    | .s (.bool b) => (match want with
      | true => fG b (wOp ty call md sl (d.getD 0) op t ob fun v ss => fK (i + 1) fun i' => ih i' (wDst sl d v) (wUpds ob ss) ((i, ss.map (·.1), touch ty sl ob (d.getD 0) op) :: tr) K) (fK (i + 1) fun i' => ih i' (wDst sl d (.tu [])) ob tr K)
      | false => fG b (fK (i + 1) fun i' => ih i' (wDst sl d (.tu [])) ob tr K) (wOp ty call md sl (d.getD 0) op t ob fun v ss => fK (i + 1) fun i' => ih i' (wDst sl d v) (wUpds ob ss) ((i, ss.map (·.1), touch ty sl ob (d.getD 0) op) :: tr) K))
    | .tu [] => fK (i + 1) fun i' => ih i' (wDst sl d (.tu [])) ob tr K
    | _ => False
def wTr (all r : List Oper) (i : Nat) (sl : Slots) (ob : Objs) (tr : Tr) (K : Slots → Objs → Tr → Prop) : Prop :=
  List.rec (motive := fun _ => Nat → Slots → Objs → Tr → (Slots → Objs → Tr → Prop) → Prop) (fun _ sl ob tr K => K sl ob tr)
    (fun o _ ih i sl ob tr K => match o with | ⟨d, op, t, _, _, g⟩ => wTStep ty call md all i sl ob tr K d op t g ih) r i sl ob tr K
end
def meets (a b : Nat × List Nat × (Nat → Bool)) : Bool := a.2.1.any (fun x => b.2.2 x || has? b.2.1 x) || b.2.1.any (fun x => a.2.2 x)
def pairsW (ps : List (Nat × Nat)) (tr : Tr) : Bool := ps.all fun p => tr.all fun a => tr.all fun b => match Nat.beq a.1 p.1, Nat.beq b.1 p.2 with
  | true, true => !meets a b
  | _, _ => true
theorem wTr_ok {E : Env} {all : List Oper} {K : Slots → Objs → Tr → Prop} : ∀ (r : List Oper) (i : Nat) (sl : Slots) (ob : Objs) (tr : Tr), wTr E.ty E.call E.md all r i sl ob tr K →
    ∃ s tr', runOps E all r ⟨sl, ob⟩ = some s ∧ K s.sl s.ob tr' ∧ (∀ a ∈ tr, a ∈ tr') ∧ ∀ a ∈ trOps E all i r ⟨sl, ob⟩, ∃ a' ∈ tr', a'.1 = a.1 ∧ a'.2.1 = a.2.2 ∧ ∀ x ∈ a.2.1, a'.2.2 x = true := by
  intro r
  induction r with
  | nil => intro i sl ob tr h; exact ⟨_, tr, rfl, h, fun a h => h, fun a h => by simp [trOps] at h⟩
  | cons o r ih =>
    intro i sl ob tr h
    obtain ⟨d, op, t, pos, after, g⟩ := o
    have h' : wTStep E.ty E.call E.md all i sl ob tr K d op t g (wTr E.ty E.call E.md all r) := h
    have yes : guardOf all sl ⟨d, op, t, pos, after, g⟩ = some true → (wOp E.ty E.call E.md sl (d.getD 0) op t ob fun v ss => fK (i + 1) fun i' => wTr E.ty E.call E.md all r i' (wDst sl d v) (wUpds ob ss) ((i, ss.map (·.1), touch E.ty sl ob (d.getD 0) op) :: tr) K) →
        ∃ s tr', runOps E all (⟨d, op, t, pos, after, g⟩ :: r) ⟨sl, ob⟩ = some s ∧ K s.sl s.ob tr' ∧ (∀ a ∈ tr, a ∈ tr') ∧ ∀ a ∈ trOps E all i (⟨d, op, t, pos, after, g⟩ :: r) ⟨sl, ob⟩, ∃ a' ∈ tr', a'.1 = a.1 ∧ a'.2.1 = a.2.2 ∧ ∀ x ∈ a.2.1, a'.2.2 x = true := by
      intro hg h
      obtain ⟨out, h1, h2⟩ := wOp_ok (E := E) (o := ⟨d, op, t, pos, after, g⟩) h
      rw [wDst_eq, wUpds_eq, fK_eq] at h2
      obtain ⟨s, tr', h3, h4, h5, h6⟩ := ih _ _ _ _ h2
      refine ⟨s, tr', by simp only [runOps, hg, h1]; exact h3, h4, fun a ha => h5 _ (List.mem_cons_of_mem _ ha), fun a ha => ?_⟩
      simp only [trOps, hg, h1, List.mem_cons] at ha
      rcases ha with rfl | ha
      · exact ⟨_, h5 _ List.mem_cons_self, rfl, rfl, fun x hx => touch_ok (o := ⟨d, op, t, pos, after, g⟩) hx⟩
      · exact h6 a ha
    have no : guardOf all sl ⟨d, op, t, pos, after, g⟩ = some false → (fK (i + 1) fun i' => wTr E.ty E.call E.md all r i' (wDst sl d (.tu [])) ob tr K) →
        ∃ s tr', runOps E all (⟨d, op, t, pos, after, g⟩ :: r) ⟨sl, ob⟩ = some s ∧ K s.sl s.ob tr' ∧ (∀ a ∈ tr, a ∈ tr') ∧ ∀ a ∈ trOps E all i (⟨d, op, t, pos, after, g⟩ :: r) ⟨sl, ob⟩, ∃ a' ∈ tr', a'.1 = a.1 ∧ a'.2.1 = a.2.2 ∧ ∀ x ∈ a.2.1, a'.2.2 x = true := by
      intro hg h
      rw [wDst_eq, fK_eq] at h
      obtain ⟨s, tr', h3, h4, h5, h6⟩ := ih _ _ _ _ h
      refine ⟨s, tr', by simp only [runOps, hg]; exact h3, h4, h5, fun a ha => ?_⟩
      simp only [trOps, hg] at ha
      exact h6 a ha
    cases g with
    | none => exact yes rfl h'
    | some q =>
      obtain ⟨j, want⟩ := q
      simp only [wTStep, fO_eq, fA_eq] at h'
      obtain ⟨x, hx, h'⟩ := h'
      split at h'
      · rename_i b e
        have hgd : guardOf all sl ⟨d, op, t, pos, after, some (j, want)⟩ = some (b == want) := by simp only [guardOf, hx, e]
        cases want <;> cases b <;> simp only [fG, fGn] at h'
        · exact yes hgd h'
        · exact no hgd h'
        · exact no hgd h'
        · exact yes hgd h'
      · rename_i e
        exact no (by simp only [guardOf, hx, e]) h'
      · exact h'.elim
theorem pairsW_ok {ps : List (Nat × Nat)} {tr : Tr} {tr0 : List (Nat × List Nat × List Nat)} (h : pairsW ps tr = true) (hr : ∀ a ∈ tr0, ∃ a' ∈ tr, a'.1 = a.1 ∧ a'.2.1 = a.2.2 ∧ ∀ x ∈ a.2.1, a'.2.2 x = true) : pairsOk ps tr0 = true := by
  simp only [pairsOk, List.all_eq_true]
  intro p hp a ha b hb
  obtain ⟨a', ha', a1, a2, a3⟩ := hr a ha
  obtain ⟨b', hb', b1, b2, b3⟩ := hr b hb
  simp only [pairsW, List.all_eq_true] at h
  have := h p hp a' ha' b' hb'
  by_cases e : a.1 = p.1 ∧ b.1 = p.2
  · rw [a1, b1, e.1, e.2] at this
    simp only [beq_iff.2 (rfl : p.1 = p.1), beq_iff.2 (rfl : p.2 = p.2), Bool.not_eq_true'] at this
    simp only [meets, Bool.or_eq_false_iff, List.any_eq_false, Bool.or_eq_true, not_or, a2, b2] at this
    obtain ⟨h1, h2⟩ := this
    have q1 : apart a.2.2 (b.2.1 ++ b.2.2) = true := by
      simp only [apart, List.all_eq_true, Bool.not_eq_true', List.contains_eq_mem, decide_eq_false_iff_not, List.mem_append, not_or]
      intro x hx
      refine ⟨fun hh => (h1 x hx).1 (b3 x hh), fun hh => (h1 x hx).2 (has?_iff.2 hh)⟩
    have q2 : apart b.2.2 a.2.1 = true := by
      simp only [apart, List.all_eq_true, Bool.not_eq_true', List.contains_eq_mem, decide_eq_false_iff_not]
      intro x hx hh
      exact h2 x hx (a3 x hh)
    simp [q1, q2]
  · have : (a.1 == p.1 && b.1 == p.2) = false := by
      cases hh : (a.1 == p.1 && b.1 == p.2) with
      | false => rfl
      | true => simp only [Bool.and_eq_true, beq_iff_eq] at hh; exact absurd hh e
    simp [this]
theorem sDraw.mk' {E : Env} {n id : Nat} {ops : Array Oper} {sl : Slots} {ob : Objs} {Q : Exit → Slots → Objs → Prop} {ty : TypeId → Option TyI} (ps : List (Nat × Nat)) (hty : E.ty = ty) (h : unord ty ops = ps) (h2 : wTr E.ty E.call E.md ops.toList ops.toList 0 sl ob [] fun sl ob tr => fB (pairsW ps tr) (Q .normal sl ob)) : sDraw E n id ops sl ob Q := by
  subst hty
  obtain ⟨s, tr', h1, h2, h3, h4⟩ := wTr_ok _ _ _ _ _ h2
  rw [fB_eq] at h2
  have hp := pairsW_ok h2.1 h4
  refine ⟨.normal, s, ?_, h2.2⟩
  simp only [run, h, hp, or_true, if_true, h1, Option.map_some]
end Go.Proofs.YtipfcgbhaalcdaaGreat.Abs
namespace Go.Proofs.YtipfcgbhaalcdaaGreat.Abs
open Go
set_option linter.unusedVariables false
set_option linter.unusedSimpArgs false
def cloneHead (T : TypeId) (q : String) (e : Array Edge) : Oper := ⟨some 4, .binOp .eql T (.tmp 3) (.const (.slice none 0 0)) T, 4, q, e, none⟩
def cloneEnd (T : TypeId) (p1 p2 p3 : String) (e2 e3 : Array Edge) : Code :=
  .seq (.region 3 #[⟨some 5, .buildSlice T 0 #[], T, p1, #[], none⟩, ⟨some 6, .move (.tmp 0), T, p2, #[], none⟩, ⟨some 7, .call ⟨.builtin .append, #[.tmp 5, .tmp 6], #[T, T]⟩, T, p3, e2, none⟩, ⟨some 2, .assign (.tmp 7), T, p3, e3, none⟩] false) .ret
def cloneCond (T : TypeId) (p : String) : Code := .cond (.tmp 4) (.seq (.region 2 #[⟨some 2, .assign (.const (.slice none 0 0)), T, p, #[], none⟩] false) .ret) .skip
def cloneCode (T : TypeId) (p0 p1 p2 p3 : String) (e1 e2 e3 : Array Edge) : Code :=
  .seq (.region 0 #[⟨some 2, .assign (.const (.slice none 0 0)), T, p0, #[], none⟩] false)
    (.seq (.seq (.region 1 #[⟨some 3, .move (.tmp 0), T, p1, #[], none⟩, cloneHead T p1 e1] false) (cloneCond T p2)) (cloneEnd T p3 p3 p3 e2 e3))
theorem wpOp_value {P : Program} {ops : Array Oper} {Q : Go.Exit → Act → World → Prop} {i : Nat} {K : Act → World → Prop} {a : Act} {w : World} {o : Oper} {v : Value} (ho : ops[i]? = some o) (hg : o.guard = none)
    (h : (execOp a.eval o).run P w = .ok (.value v) w) (hK : K (a.put o.dst v) w) : wpOp P ops Q i K a w := by
  unfold wpOp
  rw [ho]
  simp only [Region.wanted, hg, if_true]
  exact .inl (opSound_value (R := fun v' w' => v' = v ∧ w' = w) h ⟨rfl, rfl⟩ K Q fun v' w' hv => by rw [hv.1, hv.2]; exact hK)
def cE (ty : TypeId → Option TyI) : Env := ⟨ty, fun _ _ _ => none, fun _ => [], 8⟩
theorem clone_ok {P : Program} {ty : TypeId → Option TyI} (hTs : ∀ t i, ty t = some i → TyOk P t i) {f t0 sz : Nat} {fn : Func} {p0 p1 p2 p3 : String} {e1 e2 e3 : Array Edge} (hf : P.funcs[f]? = some fn) (hb : fn.body = some (cloneCode t0 p0 p1 p2 p3 e1 e2 e3)) (hn : fn.ntmps = 8)
    (hname : fn.name ≠ "runtime.NumGoroutine") (hres : fn.results.toList = [.tmp 2]) {ti i : TyI} {e : TypeId} (hT : ty t0 = some ti) (he : ti.elem = some e) (hi : ty e = some i) (hc : i.cells.length = sz) (hsz : 0 < sz) (hesz : ti.esz = sz) {rows : List (List T)}
    (hwide : wide sz rows = true) (hflat : flat rows = true) (hfull : T.full 9 (.sl sz rows) = true) (hlim : rows.length * ti.bytes ≤ 140737488355328 ∧ rows.length ≤ 140737488355328) :
    FnOk P f [.h 1000000 0 0 [] sz 0 rows.length] [.tree 0 (.sl sz rows)] ⟨.h 2000000 1 0 [] sz 0 rows.length, [.tree 9 (.sl sz rows)], [none]⟩ := by
  have hTE : TysOk P (cE ty) := hTs
  have hCE : CallOk P (cE ty) := fun f args conts r h => by cases h
  have hul : P.underlying t0 = some (.slice e) := ((hTs t0 ti hT).elem e he).1
  refine ⟨fun w vs => by simp [callFunc, hf, hb, hname], by simp, fun j lv t hj => ?_, fun i c hi => ?_, rfl, fun w A ρ φ Z vs h0 hZA hsz' ha => ?_⟩
  · cases j with
    | zero => simp at hj; obtain ⟨rfl, rfl⟩ := hj; exact hfull
    | succ j => simp at hj
  · cases i with
    | zero => simp at hi; subst hi; exact (backE_ok (ob := fun _ => ⟨0, 0, false, .dead⟩) (mv := []) [.tree 0 (.sl sz rows)] 0 [] [none] (by simp [backE])).2 0 _ rfl
    | succ i => simp at hi
  · have hv0 := ha 0 _ rfl
    generalize hx : vs.getD 0 undef = x0 at hv0
    have hs1 : vs.size = 1 := by simpa using hsz'
    have hstart : Lies w A 8 ⟨slIn [.h 1000000 0 0 [] sz 0 rows.length], obIn [.tree 0 (.sl sz rows)]⟩ { tmps := vs ++ Array.replicate (8 - vs.size) undef, defers := [] } w ρ φ Z := by
      refine ⟨h0, fun k => ?_, by simp; omega, rfl⟩
      simp only [slIn]
      cases k with
      | zero =>
        have : (vs ++ Array.replicate (8 - vs.size) undef).getD 0 undef = vs.getD 0 undef := by
          simp only [Array.getD]
          rw [dif_pos (by simp; omega), dif_pos (by omega)]
          rw [Array.getInternal_eq_getElem, Array.getInternal_eq_getElem, Array.getElem_append_left (by omega)]
        rw [this, hx]; exact hv0
      | succ k => simp; exact .u
    refine calls_of_wp hf hb ?_
    rw [hn]
    unfold cloneCode
    refine wp_seq (region_sound hTE hCE (n := 8) (s' := ⟨upd (slIn [.h 1000000 0 0 [] sz 0 rows.length]) 2 (.nl ti.esz), obIn [.tree 0 (.sl sz rows)]⟩) (by simp [dstOk]) (by simp [runOps, guardOf, ex, evT, ev, cE, hT, val, Rd.run, putDst, upds]) hstart fun a1 w1 ρ1 φ1 Z1 h1 st1 => ?_)
    refine wp_seq (wp_seq (wp_region ?_))
    show wpOps P _ _ [0, 1] a1 w1
    rw [wpOps_cons]
    refine wpOp_sound hTE hCE h1 (o := ⟨some 3, .move (.tmp 0), t0, p1, #[], none⟩) rfl (by simp [dstOk]) (s1 := ⟨upd (upd (slIn [.h 1000000 0 0 [] sz 0 rows.length]) 2 (.nl ti.esz)) 3 (.h 1000000 0 0 [] sz 0 rows.length), obIn [.tree 0 (.sl sz rows)]⟩) ?_ fun a2 w2 ρ2 φ2 Z2 h2 st2 => ?_
    · simp [stepO, guardOf, ex, evT, ev, upd, slIn, val, Rd.run, putDst, upds]
    rw [wpOps_cons]
    have h3 : AVR w2 (obIn [.tree 0 (.sl sz rows)]) ρ2 (.h 1000000 0 0 [] sz 0 rows.length) (a2.tmps.getD 3 undef) := h2.sl 3
    obtain ⟨a3, c3, hx3, hlc3, hnc3⟩ : ∃ a c, a2.tmps.getD 3 undef = .slice a rows.length c ∧ rows.length ≤ c ∧ (a = none → c = 0) := by
      generalize a2.tmps.getD 3 undef = x3 at h3
      cases h3 with | h _ hsl3 _ => exact hsl3
    refine wpOp_value (o := cloneHead t0 p1 e1) (v := .bool a3.isNone) rfl rfl ?_ ?_
    · refine exec_v (exec_bin (o := cloneHead t0 p1 e1) rfl a2.eval) ?_
      have ea : a2.eval (.tmp 3) = .slice a3 rows.length c3 := hx3
      rw [ea]
      show (do eqGuard .eql t0 (.tmp 3) (.const (.slice none 0 0)) (.slice a3 rows.length c3) (.slice none 0 0); binOp .eql t0 (.slice a3 rows.length c3) (.slice none 0 0) : Sem Value).run P w2 = _
      have hg : (eqGuard .eql t0 (.tmp 3) (.const (.slice none 0 0)) (.slice a3 rows.length c3) (.slice none 0 0)).run P w2 = .ok () w2 := by simp [eqGuard]
      have hbq : (binOp .eql t0 (.slice a3 rows.length c3) (.slice none 0 0)).run P w2 = .ok (.bool a3.isNone) w2 := by simp [binOp, Sem.run_bind, run_equal_slice_nil w2 t0 e a3 rows.length c3 hul]
      simp only [Sem.run_bind, hg, hbq, Result.andThen_ok]
    · have h4 : Lies w A 8 ⟨putDst (upd (upd (slIn [.h 1000000 0 0 [] sz 0 rows.length]) 2 (.nl ti.esz)) 3 (.h 1000000 0 0 [] sz 0 rows.length)) (some 4) (.s (.bool a3.isNone)), obIn [.tree 0 (.sl sz rows)]⟩ (a2.put (some 4) (.bool a3.isNone)) w2 ρ2 φ2 Z2 :=
        h2.put h2.inv.stay (fun k hk => by cases hk; decide) (.s rfl)
      have st3 := st1.trans st2
      show Go.Exit.then _ _ .normal _ _
      show (cloneCond t0 p2).wp P _ _ _
      cases hnone : a3.isNone with
      | true =>
        have hr0 : rows = [] := by
          have : a3 = none := by simpa using hnone
          have := hnc3 this
          exact List.length_eq_zero_iff.1 (by omega)
        subst hr0
        rw [hnone] at h4
        refine run_sound hTE hCE (n := 8) (m := 0) (cloneCond t0 p2) (by simp [codeOk, dstOk, cloneCond]) (s' := ⟨upd (putDst (upd (upd (slIn [.h 1000000 0 0 [] sz 0 0]) 2 (.nl ti.esz)) 3 (.h 1000000 0 0 [] sz 0 0)) (some 4) (.s (.bool true))) 2 (.nl ti.esz), obIn [.tree 0 (.sl sz [])]⟩) (x := .ret) ?_ h4 fun a5 w5 ρ5 φ5 Z5 h5 st5 => ?_
        · simp [run, cloneCond, ev, putDst, upd, runOps, guardOf, ex, evT, cE, hT, val, Rd.run, upds]
        · refine body_end (x := .ret) hTE (by simp) h0 hZA (.inr rfl) ?_ h5 (st3.trans st5)
          rw [hres]
          simp [leave, retVs, oneOf, upd, boxArgs, expo, backE, hesz]
      | false =>
        rw [hnone] at h4
        refine run_sound hTE hCE (n := 8) (m := 0) (cloneCond t0 p2) (by simp [codeOk, dstOk, cloneCond]) (s' := ⟨putDst (upd (upd (slIn [.h 1000000 0 0 [] sz 0 rows.length]) 2 (.nl ti.esz)) 3 (.h 1000000 0 0 [] sz 0 rows.length)) (some 4) (.s (.bool false)), obIn [.tree 0 (.sl sz rows)]⟩) (x := .normal) ?_ h4 fun a5 w5 ρ5 φ5 Z5 h5 st5 => ?_
        · simp [run, cloneCond, ev, putDst, upd]
        · show (cloneEnd t0 p3 p3 p3 e2 e3).wp P _ a5 w5
          obtain ⟨s', hrun, hleave⟩ : ∃ s', run (cE ty) 0 (cloneEnd t0 p3 p3 p3 e2 e3) ⟨putDst (upd (upd (slIn [.h 1000000 0 0 [] sz 0 rows.length]) 2 (.nl ti.esz)) 3 (.h 1000000 0 0 [] sz 0 rows.length)) (some 4) (.s (.bool false)), obIn [.tree 0 (.sl sz rows)]⟩ = some (.ret, s') ∧ leave (cE ty) [.tmp 2] [.tree 0 (.sl sz rows)] s' = some ⟨.h 2000000 1 0 [] sz 0 rows.length, [.tree 9 (.sl sz rows)], [none]⟩ := by
            refine ⟨⟨upd (upd (upd (upd (putDst (upd (upd (slIn [.h 1000000 0 0 [] sz 0 rows.length]) 2 (.nl ti.esz)) 3 (.h 1000000 0 0 [] sz 0 rows.length)) (some 4) (.s (.bool false))) 5 (.h 5 1 0 [] sz 0 0)) 6 (.h 1000000 0 0 [] sz 0 rows.length)) 7 (.h 7 1 0 [] sz 0 rows.length)) 2 (.h 7 1 0 [] sz 0 rows.length),
              upd (upd (upd (obIn [.tree 0 (.sl sz rows)]) 5 ⟨1, 0, false, .tree 9 (.sl sz [])⟩) 5 ⟨1, 1, true, .dead⟩) 7 ⟨1, 0, false, .tree 9 (.sl sz rows)⟩⟩, ?_, ?_⟩
            · simp [run, cloneEnd, runOps, guardOf, ex, ev, evT, cE, hT, he, hi, hc, fillAt, grab, mk, val, Rd.run, putDst, upd, upds, exAppend, exTail, look, T.at?, obIn, slIn, hflat, hwide, hsz, lim, hlim]
            · simp [leave, retVs, oneOf, upd, boxArgs, expo, backE, hfull, obIn, slIn]
          refine run_sound hTE hCE (n := 8) (m := 0) (cloneEnd t0 p3 p3 p3 e2 e3) (by simp [codeOk, dstOk, cloneEnd]) hrun h5 fun a6 w6 ρ6 φ6 Z6 h6 st6 => ?_
          exact body_end (x := .ret) hTE (by simp) h0 hZA (.inr rfl) (by rw [hres]; exact hleave) h6 ((st3.trans st5).trans st6)
end Go.Proofs.YtipfcgbhaalcdaaGreat.Abs
namespace Go.Proofs.YtipfcgbhaalcdaaGreat.Abs
open Go Go.Proofs
set_option linter.unusedVariables false
def cloneP (sz bytes : Nat) : List AV → List Cont → Option Res := fun args conts => match args, conts with
  | [.h o 0 0 [] s 0 n], [.tree 0 (.sl s' rows)] => if o = 1000000 ∧ s = sz ∧ s' = sz ∧ n = rows.length ∧ wide sz rows = true ∧ flat rows = true ∧ T.full 9 (.sl sz rows) = true ∧ (rows.length * bytes ≤ 140737488355328 ∧ rows.length ≤ 140737488355328) then
      some ⟨.h 2000000 1 0 [] sz 0 rows.length, [.tree 9 (.sl sz rows)], [none]⟩ else none
  | _, _ => none
def primT (f : Nat) : Option (List AV → List Cont → Option Res) := if f = 114 then some (cloneP 2 16) else if f = 147 then some (cloneP 2 16) else if f = 180 then some (cloneP 5 40) else if f = 182 then some (cloneP 3 24) else if f = 235 then some (cloneP 1 8) else if f = 236 then some (cloneP 1 1) else none
def mdT (f : Nat) : List Bool := if f = 293 then [false, true] else if f = 230 then [true] else if f = 233 then [true] else if f = 231 then [true] else if f = 274 then [false, false, false, false, false, false, false, false, false, false, false, false, false, false, false, false, false, false, false, false, false, false, false, false, false, false, false, false, false, false, false, false, false, false, false, false, false, false, false, false, false, false, false, false, false, false, false, false, false, false, false, false, false, false, false, false, false, false, false, false, false, false, false, false, false, false, false, false, false, false, false, false, false, false, false, false, false, false, false, false, false, false, false, false, false, false, false, false, false, false, true] else if f = 232 then [true] else if f = 65 then [true] else if f = 135 then [true] else if f = 134 then [true] else if f = 136 then [true] else if f = 137 then [true] else if f = 40 then [true, true, true, true] else if f = 256 then [true] else if f = 257 then [true] else if f = 169 then [true, true, true] else if f = 70 then [true, true, true, true, true, true, true] else if f = 153 then [true, true, true, true] else if f = 145 then [true, true, true, true, true, true, true] else if f = 143 then [false, false, true, false, true, true, false] else if f = 286 then [false, false, false, false, false, false, false, false, false, false, false, false, false, false, false, false, false, false, false, false, false, false, false, false, false, false, false, false, false, false, false, false, false, false, false, false, false, false, false, false, false, false, false, false, false, false, false, false, false, false, false, false, false, false, false, false, false, false, false, false, false, false, false, false, false, false, false, false, false, false, false, false, false, false, false, false, false, false, false, false, false, false, false, false, false, false, false, false, false, false, false, true] else if f = 54 then [false, false, false, false, false, false, false, false, false, false, false, false, false, false, false, false, false, false, false, false, false, false, false, false, false, false, false, false, false, false, false, false, false, false, false, false, false, false, false, false, false, false, false, false, false, false, false, false, false, false, false, false, false, false, false, false, false, false, false, false, false, false, false, false, false, false, false, false, false, false, false, false, false, false, false, false, false, false, false, false, false, false, false, false, false, false, false, false, false, false, false, true] else if f = 204 then [false, false, false, false, false, false, false, false, false, false, false, false, false, false, false, false, false, false, false, false, false, false, false, false, false, false, false, false, false, false, false, false, false, false, false, false, false, false, false, false, false, false, false, false, false, false, false, false, false, false, false, false, false, false, false, false, false, false, false, false, false, false, false, false, false, false, false, false, false, false, false, false, false, false, false, false, false, false, false, false, false, false, false, false, false, false, false, false, false, false, false, true] else if f = 129 then [true, false] else if f = 202 then [false, true, false] else if f = 41 then [true] else if f = 24 then [false, false, false, false, false, false, false, false, false, false, false, false, false, false, false, false, false, false, false, false, false, false, false, false, false, false, false, false, false, false, false, false, false, false, false, false, false, false, false, false, false, false, false, false, false, false, false, false, false, false, false, false, false, false, false, false, false, false, false, false, false, false, false, false, false, false, false, false, false, false, false, false, false, false, false, false, false, false, false, false, false, false, false, false, false, false, false, false, false, false, false, true] else if f = 50 then [false, false, false, false, false, false, false, false, false, false, false, false, false, false, false, false, false, false, false, false, false, false, false, false, false, false, false, false, false, false, false, false, false, false, false, false, false, false, false, false, false, false, false, false, false, false, false, false, false, false, false, false, false, false, false, false, false, false, false, false, false, false, false, false, false, false, false, false, false, false, false, false, false, false, false, false, false, false, false, false, false, false, false, false, false, false, false, false, false, false, false, true] else if f = 53 then [false, false, false, false, false, false, false, false, false, false, false, false, false, false, false, false, false, false, false, false, false, false, false, false, false, false, false, false, false, false, false, false, false, false, false, false, false, false, false, false, false, false, false, false, false, false, false, false, false, false, false, false, false, false, false, false, false, false, false, false, false, false, false, false, false, false, false, false, false, false, false, false, false, false, false, false, false, false, false, false, false, false, false, false, false, false, false, false, false, false, false, true] else []
noncomputable def C : Conf := ⟨tys, mdT, primT, 1000000000000⟩
noncomputable abbrev PR : Program := Tryz.prog
abbrev i64 (n : Int) : AV := .s (.int .i64 n)
abbrev bl (b : Bool) : AV := .s (.bool b)
theorem sW.raw {k : IntKind} {n : Int} {F : Int → Prop} (h : F (k.wrap n)) : sW k n F := ⟨h⟩
theorem wrap_i64 (x : Int) (h0 : -9223372036854775808 ≤ x) (h : x ≤ 9223372036854775807) : IntKind.i64.wrap x = x := by
  simp [IntKind.wrap, IntKind.bits, IntKind.signed]
  omega
theorem wrap_u8 (x : Int) (h0 : 0 ≤ x) (h : x < 256) : IntKind.u8.wrap x = x := by
  simp [IntKind.wrap, IntKind.bits, IntKind.signed]
  omega
theorem sW.i64 {n : Int} {F : Int → Prop} (h0 : -9223372036854775808 ≤ n ∧ n ≤ 9223372036854775807) (h : F n) : sW .i64 n F := by
  rw [sW_eq, wrap_i64 n h0.1 h0.2]; exact h
theorem sW.u8 {n : Int} {F : Int → Prop} (h0 : 0 ≤ n ∧ n < 256) (h : F n) : sW .u8 n F := by
  rw [sW_eq, wrap_u8 n h0.1 h0.2]; exact h
theorem sR.raw {r : List (List T)} {F : List (List T) → Prop} (h : F r) : sR r F := ⟨h⟩
theorem sR.eq {r r' : List (List T)} {F : List (List T) → Prop} (e : r = r') (h : F r') : sR r F := by rw [e]; exact ⟨h⟩
theorem sN.raw {r : Nat} {F : Nat → Prop} (h : F r) : sN r F := ⟨h⟩
theorem sN.eq {r r' : Nat} {F : Nat → Prop} (e : r = r') (h : F r') : sN r F := by rw [e]; exact ⟨h⟩
theorem sZ.raw {r : Int} {F : Int → Prop} (h : F r) : sZ r F := ⟨h⟩
theorem sZ.eq {r r' : Int} {F : Int → Prop} (e : r = r') (h : F r') : sZ r F := by rw [e]; exact ⟨h⟩
theorem sBool.raw {r : Bool} {F : Bool → Prop} (h : F r) : sBool r F := ⟨h⟩
theorem sBool.eq {r r' : Bool} {F : Bool → Prop} (e : r = r') (h : F r') : sBool r F := by rw [e]; exact ⟨h⟩
theorem sOpt.of {α : Type} {x : Option α} {a : α} {F : α → Prop} (e : x = some a) (h : F a) : sOpt x F := ⟨⟨a, e, h⟩⟩
theorem fG.pos {p : Prop} [Decidable p] {A B : Prop} (h : p) (h1 : A) : fG (decide p) A B := by rw [decide_eq_true h]; exact h1
theorem fG.neg {p : Prop} [Decidable p] {A B : Prop} (h : ¬ p) (h1 : B) : fG (decide p) A B := by rw [decide_eq_false h]; exact h1
theorem fG.split {p : Prop} [Decidable p] {A B : Prop} (h : p → A) (h1 : ¬ p → B) : fG (decide p) A B := by
  by_cases hp : p
  · exact fG.pos hp (h hp)
  · exact fG.neg hp (h1 hp)
theorem fG.not {b : Bool} {A B : Prop} (h : fG b B A) : fG (!b) A B := by cases b <;> exact h
theorem fG.yes {b : Bool} {A B : Prop} (h : b = true) (h1 : A) : fG b A B := by rw [h]; exact h1
theorem fG.no {b : Bool} {A B : Prop} (h : b = false) (h1 : B) : fG b A B := by rw [h]; exact h1
theorem fG.bool {b : Bool} {A B : Prop} (h : b = true → A) (h1 : b = false → B) : fG b A B := by
  cases b with
  | true => exact h rfl
  | false => exact h1 rfl
theorem fB.of {b : Bool} {A : Prop} (h : b = true) (h1 : A) : fB b A := by rw [h]; exact h1
theorem fO.of {α : Type} {x : Option α} {a : α} {F : α → Prop} (e : x = some a) (h : F a) : fO x F := by rw [e]; exact h
theorem fE.of {a b : Nat} {A : Prop} (e : a = b) (h : A) : fE a b A := by rw [fE_eq]; exact ⟨e, h⟩
theorem sCall.of {x : Option Res} {r : Res} {F : Res → Prop} (e : x = some r) (h : F r) : sCall x F := ⟨⟨r, e, h⟩⟩
theorem sCall.ex {x : Option Res} {R F : Res → Prop} (e : Told x R) (h : ∀ r, R r → F r) : sCall x F := by
  obtain ⟨r, e, hr⟩ := e.h
  exact ⟨⟨r, e, h r hr⟩⟩
theorem callE_is {x : Option Res} {r : Res} (h : Told x fun r' => r' = r) : x = some r := by
  obtain ⟨_, e, rfl⟩ := h.h; exact e
def Fits (f : Slots) : List (Nat × AV) → Prop
  | [] => True
  | (n, v) :: r => f n = v ∧ Fits f r
def FitsO (f : Objs) : List (Nat × Ob) → Prop
  | [] => True
  | (n, v) :: r => f n = v ∧ FitsO f r
def puts (f : Slots) : List (Nat × AV) → Slots
  | [] => f
  | (n, v) :: r => updW (puts f r) n v
def putsO (f : Objs) : List (Nat × Ob) → Objs
  | [] => f
  | (n, v) :: r => updW (putsO f r) n v
theorem Fits.puts {f : Slots} {l : List (Nat × AV)} (h : Fits f l) : f = puts f l := by
  induction l with
  | nil => rfl
  | cons a l ih =>
    obtain ⟨n, v⟩ := a
    obtain ⟨h1, h2⟩ := h
    simp only [Abs.puts]
    rw [← ih h2]
    exact updW_self h1
theorem FitsO.puts {f : Objs} {l : List (Nat × Ob)} (h : FitsO f l) : f = putsO f l := by
  induction l with
  | nil => rfl
  | cons a l ih =>
    obtain ⟨n, v⟩ := a
    obtain ⟨h1, h2⟩ := h
    simp only [putsO]
    rw [← ih h2]
    exact updW_self h1
structure Again {ι : Type} (S : ι → List (Nat × AV)) (O : ι → List (Nat × Ob)) (μ : ι → Nat) (I : ι → Prop) (m : Nat) (sl : Slots) (ob : Objs) : Prop where
  h : ∃ i, (Fits sl (S i) ∧ FitsO ob (O i)) ∧ I i ∧ μ i < m
theorem loop_rule {ι : Type} {E : Env} {n : Nat} {c : Code} {sl : Slots} {ob : Objs} {Q : Exit → Slots → Objs → Prop} (S : ι → List (Nat × AV)) (O : ι → List (Nat × Ob)) (μ : ι → Nat) (I : ι → Prop) (i : ι) (h : Fits sl (S i) ∧ FitsO ob (O i)) (hI : I i) (hm : μ i < n)
    (round : ∀ (i : ι) (sl : Slots) (ob : Objs), I i → wC E n c (puts sl (S i)) (putsO ob (O i)) fun e sl ob => match e with
      | .normal => Again S O μ I (μ i) sl ob
      | .exit id => Q (.exit id) sl ob
      | .ret => Q .ret sl ob) : sLoop E n c sl ob Q := by
  obtain ⟨e, s', h1, h2⟩ := loopN_of (B := run E n c) (fun m s => ∃ i, (Fits s.sl (S i) ∧ FitsO s.ob (O i)) ∧ I i ∧ μ i = m) (Q := fun e s => Q e s.sl s.ob) (fun m s h => by
    obtain ⟨i, ⟨h1, h2⟩, h3, rfl⟩ := h
    obtain ⟨e, s', h4, h5⟩ := wC_ok _ _ _ _ (round i s.sl s.ob h3)
    rw [← h1.puts, ← h2.puts] at h4
    refine ⟨e, s', h4, ?_⟩
    cases e with
    | normal => obtain ⟨i', h6, h7, h8⟩ := h5.h; exact ⟨_, h8, i', h6, h7, rfl⟩
    | exit id => exact h5
    | ret => exact h5) n (μ i) ⟨sl, ob⟩ hm ⟨i, h, hI, rfl⟩
  exact ⟨⟨e, s', h1, h2⟩⟩
def rI (x : Int) : List T := [.v (.int .i64 x)]
def rB (x : Int) : List T := [.v (.int .u8 x)]
def rBool (x : Bool) : List T := [.v (.bool x)]
def rd {α : Type} [Inhabited α] (l : List α) (n : Nat) : α := l.getD n default
theorem map_rd {α β : Type} [Inhabited α] {f : α → β} {l : List α} {n : Nat} (h : n < l.length) : (l.map f)[n]? = some (f (rd l n)) := by
  simp [rd, h]
theorem map_set_rd {α β : Type} {f : α → β} {l : List α} {n : Nat} {x : α} (h : n < l.length) : ((l.set n x).map f)[n]? = some (f x) := by
  simp [h]
theorem drop_rd {α : Type} [Inhabited α] {l : List α} {n : Nat} (h : n < l.length) : l.drop n = rd l n :: l.drop (n + 1) := by
  rw [List.drop_eq_getElem_cons h]
  simp [rd, h]
theorem rd_mem {α : Type} [Inhabited α] {l : List α} {n : Nat} (h : n < l.length) : rd l n ∈ l := by
  simp [rd, h]
theorem take_all {α β : Type} (f : α → β) (l : List α) : (l.map f).take l.length = l.map f := List.take_of_length_le (by simp)
theorem take_map {α β : Type} (f : α → β) (l : List α) (n : Nat) : (l.map f).take n = (l.take n).map f := by simp
theorem drop_map {α β : Type} (f : α → β) (l : List α) (n : Nat) : (l.map f).drop n = (l.drop n).map f := by simp
theorem take_len_set {α : Type} (l : List α) (n : Nat) (x : α) : (l.set n x).take l.length = l.set n x := List.take_of_length_le (by simp)
theorem take_len_app {α : Type} (l m : List α) : (l ++ m).take (l.length + m.length) = l ++ m := List.take_of_length_le (by simp)
theorem take_set {α β : Type} (f : α → β) (l : List α) (n : Nat) (x : α) : ((l.set n x).map f).take l.length = (l.set n x).map f := List.take_of_length_le (by simp)
theorem take_pre {α β : Type} (f : α → β) (l : List α) (n : Nat) : (l.map f).take n = (l.take n).map f := by simp
theorem drop_suf {α β : Type} (f : α → β) (l : List α) (n : Nat) : ((l.map f).drop n).take (l.length - n) = (l.drop n).map f := by rw [List.take_of_length_le (by simp)]; simp
theorem map_app {α β : Type} (f : α → β) (l m : List α) : l.map f ++ m.map f = (l ++ m).map f := by simp
theorem snoc_rI (l : List Int) (x : Int) : l.map rI ++ [[.v (.int .i64 x)]] = (l ++ [x]).map rI := by simp [rI]
theorem snoc_rB (l : List Int) (x : Int) : l.map rB ++ [[.v (.int .u8 x)]] = (l ++ [x]).map rB := by simp [rB]
theorem snoc_rBool (l : List Bool) (x : Bool) : l.map rBool ++ [[.v (.bool x)]] = (l ++ [x]).map rBool := by simp [rBool]
theorem set_rI (l : List Int) (n : Nat) (x : Int) : (l.map rI).set n [.v (.int .i64 x)] = (l.set n x).map rI := by simp [rI, List.map_set]
theorem set_rBool (l : List Bool) (n : Nat) (x : Bool) : (l.map rBool).set n [.v (.bool x)] = (l.set n x).map rBool := by simp [rBool, List.map_set]
theorem rep_rI (n : Nat) (x : Int) : List.replicate n [T.v (.int .i64 x)] = (List.replicate n x).map rI := by simp [rI]
theorem rep_rBool (n : Nat) (x : Bool) : List.replicate n [T.v (.bool x)] = (List.replicate n x).map rBool := by simp [rBool]
theorem nil_map {α β : Type} (f : α → β) : ([] : List β) = ([] : List α).map f := rfl
theorem wide_map {α : Type} {f : α → List T} {n : Nat} (h : ∀ x, ((f x).length == n) = true) (l : List α) : wide n (l.map f) = true := by simp [wide, h]
theorem flat_map {α : Type} {f : α → List T} (h : ∀ x, (f x).all isV = true) (l : List α) : flat (l.map f) = true := by
  simp only [flat, List.all_map, List.all_eq_true]
  intro x _
  exact h x
theorem full_map {α : Type} {f : α → List T} {n s : Nat} (h : ∀ x, (f x).all (fun t => T.full n t) = true) (l : List α) : T.full (n + 1) (.sl s (l.map f)) = true := by
  simp only [T.full, List.all_map, List.all_eq_true]
  intro x _
  exact h x
theorem solid_map {α : Type} {f : α → List T} (h : ∀ x, (f x).all (fun | .hole => false | _ => true) = true) (l : List α) : solid (l.map f) = true := by
  simp only [solid, List.all_map, List.all_eq_true]
  intro x _
  exact h x
theorem like_map {α β : Type} {f : α → List T} {g : β → List T} {s : Nat} {l : List α} {m : List β} (h : l.length = m.length) : T.like (.sl s (l.map f)) (.sl s (m.map g)) = true := by simp [T.like, h]
theorem nums_rB (l : List Int) : nums (l.map rB) = some l := by
  induction l with
  | nil => rfl
  | cons x l ih => simp [rB] at ih ⊢; simp [nums, ih]
def idxP {α : Type} (p : α → Bool) (l : List α) : Int := match l.findIdx? p with | some i => (i : Int) | none => -1
theorem findIdx_step {α : Type} [Inhabited α] {p : α → Bool} {l : List α} {i : Nat} (hi : i < l.length) (h : l.findIdx? p = ((l.drop i).findIdx? p).map (· + i)) (hn : p (rd l i) = false) : l.findIdx? p = ((l.drop (i + 1)).findIdx? p).map (· + (i + 1)) := by
  rw [h, drop_rd hi, List.findIdx?_cons, hn]
  cases (l.drop (i + 1)).findIdx? p with
  | none => rfl
  | some j => simp; omega
theorem findIdx_here {α : Type} [Inhabited α] {p : α → Bool} {l : List α} {i : Nat} (hi : i < l.length) (h : l.findIdx? p = ((l.drop i).findIdx? p).map (· + i)) (hn : p (rd l i) = true) : idxP p l = i := by
  unfold idxP
  rw [h, drop_rd hi, List.findIdx?_cons, hn]
  simp
theorem findIdx_none {α : Type} {p : α → Bool} {l : List α} {i : Nat} (hi : l.length ≤ i) (h : l.findIdx? p = ((l.drop i).findIdx? p).map (· + i)) : idxP p l = -1 := by
  unfold idxP
  rw [h, List.drop_eq_nil_of_le hi]
  simp
theorem idxP_any {α : Type} (p : α → Bool) (l : List α) : decide (0 ≤ idxP p l) = l.any p := by
  unfold idxP
  cases h : l.findIdx? p with
  | none =>
    rw [List.findIdx?_eq_none_iff] at h
    have : l.any p = false := by simp only [List.any_eq_false]; intro x hx; simp [h x hx]
    rw [this]; decide
  | some i =>
    have : l.any p = true := by
      obtain ⟨hi, hp, _⟩ := List.findIdx?_eq_some_iff_getElem.1 h
      rw [List.any_eq_true]; exact ⟨_, List.getElem_mem hi, hp⟩
    rw [this]; simp
theorem gP {p : Prop} [Decidable p] {A B : Prop} (h1 : A) (h : p := by first | with_reducible assumption | omega) : fG (decide p) A B := fG.pos h h1
theorem gN {p : Prop} [Decidable p] {A B : Prop} (h1 : B) (h : ¬ p := by first | with_reducible assumption | omega) : fG (decide p) A B := fG.neg h h1
theorem gY {b : Bool} {A B : Prop} (h1 : A) (h : b = true := by with_reducible assumption) : fG b A B := fG.yes h h1
theorem gF {b : Bool} {A B : Prop} (h1 : B) (h : b = false := by with_reducible assumption) : fG b A B := fG.no h h1
theorem gS64 {n : Int} {F : Int → Prop} (h : F n) (e : -9223372036854775808 ≤ n ∧ n ≤ 9223372036854775807 := by omega) : sW .i64 n F := sW.i64 e h
theorem gU8 {n : Int} {F : Int → Prop} (h : F n) (e : 0 ≤ n ∧ n < 256 := by omega) : sW .u8 n F := sW.u8 e h
theorem gBq {n : Nat} {A : Prop} (h : A) : fB (Nat.beq n n) A := fB.of (Nat.beq_refl n) h
theorem gSet {α β : Type} {f : α → β} {l : List α} {n : Nat} {x : α} {F : β → Prop} (h : F (f x)) (e : n < l.length := by omega) : fO ((l.set n x).map f)[n]? F := fO.of (map_set_rd e) h
theorem gRd {α β : Type} [Inhabited α] {f : α → β} {l : List α} {n : Nat} {F : β → Prop} (h : F (f (rd l n))) (e : n < l.length := by omega) : fO (l.map f)[n]? F := fO.of (map_rd e) h
theorem gLk {α β : Type} {f : α → List T} {g : β → List T} {s : Nat} {l : List α} {m : List β} {F : Bool → Prop} (h : F true) (e : l.length = m.length := by first | with_reducible assumption | omega | (simp only [List.length_set]; omega)) : sBool (T.like (.sl s (l.map f)) (.sl s (m.map g))) F := sBool.eq (like_map e) h
theorem gRf {b : Bool} {A : Prop} (h : A) (e : b = true := by first | rfl | (simp only [full_map, wide_map]; done)) : fB b A := fB.of e h
theorem fitOk {A B : Prop} (h : A ∧ B := by (try dsimp only [cond_true, cond_false]); repeat' (first | exact trivial | exact rfl | refine ⟨?_, ?_⟩)) : A ∧ B := h
theorem fnI {k f : Nat} {args : List AV} {conts : List Cont} {r : Res} {fn : Func} {c : Code} (rs : List ResultVar) (hf : PR.funcs[f]? = some fn) (h : wFn ⟨C.ty, callE PR C k, C.md, fn.ntmps⟩ C.fuel rs conts c (slIn args) (inOb conts) fun r' => r' = r)
    (hp : C.prim f = none := by exact rfl) (hb : fn.body = some c := by exact rfl) (hok : (codeOk fn.ntmps c && fn.name != "runtime.NumGoroutine") = true := by decide +kernel) (hrs : fn.results.toList = rs := by exact rfl) (hn : conts.length < 1000000 := by simp) : callE PR C (k + 1) f args conts = some r := callE_is (callE_w rs hp hf hb hok hrs hn h)
theorem gD {E : Env} {n : Nat} {ops : Array Oper} {sl : Slots} {ob : Objs} {Q : Exit → Slots → Objs → Prop} (id : Nat) (ps : List (Nat × Nat)) (h2 : wTr E.ty E.call E.md ops.toList ops.toList 0 sl ob [] fun sl ob tr => fB (pairsW ps tr) (Q .normal sl ob)) (hty : E.ty = tys := by with_unfolding_all exact rfl) (h : unord tys ops = ps := by decide +kernel) : sDraw E n id ops sl ob Q := sDraw.mk' ps hty h h2
theorem gDn {E : Env} {n : Nat} {ops : Array Oper} {sl : Slots} {ob : Objs} {Q : Exit → Slots → Objs → Prop} (id : Nat) (h2 : wOps E.ty E.call E.md ops.toList ops.toList sl ob fun sl ob => Q .normal sl ob) (hty : E.ty = tys := by with_unfolding_all exact rfl) (h : unord tys ops = [] := by decide +kernel) : sDraw E n id ops sl ob Q := sDraw.none hty h h2
theorem gI0 {p A : Prop} (h : A) (e : p := by first | with_reducible assumption | omega | (simp only [Nat.zero_add, Nat.add_zero, Nat.sub_zero, Int.toNat_natCast, Int.toNat_zero, Int.toNat_one, List.length_map, List.length_nil, Int.reduceToNat, Nat.reduceAdd, Nat.reduceSub, Int.sub_zero, Int.reduceAdd, Int.reduceSub, Nat.sub_self, Int.toNat_natCast_add_one, List.length_append, List.length_cons, List.length_set, List.length_replicate, List.length_range]; first | done | omega)) : sI p A := sI.mk e h
theorem gNum0 {r r' : Nat} {F : Nat → Prop} (h : F r') (e : r = r' := by first | (simp only [Nat.zero_add, Nat.add_zero, Nat.sub_zero, Int.toNat_natCast, Int.toNat_zero, Int.toNat_one, List.length_map, List.length_nil, Int.reduceToNat, Nat.reduceAdd, Nat.reduceSub, Int.sub_zero, Int.reduceAdd, Int.reduceSub, Nat.sub_self, Int.toNat_natCast_add_one]; rfl) | rfl) : sN r F := sN.eq e h
theorem gRow0 {r r' : List (List T)} {F : List (List T) → Prop} (h : F r') (e : r = r' := by first | (simp only [Nat.add_zero, Nat.zero_add, Nat.reduceAdd, List.drop_zero, List.take_succ_cons, List.take_nil, List.drop_succ_cons, List.drop_nil, List.take_zero, List.nil_append, List.append_nil, List.map_nil, drop_suf, take_pre, drop_map, List.take_length, take_len_set, take_len_app, List.set_set, List.length_map, snoc_rI, snoc_rB, snoc_rBool, set_rI, set_rBool, rep_rI, rep_rBool, map_app]; rfl) | rfl) : sR r F := sR.eq e h
theorem gRf0 {b : Bool} {A : Prop} (h : A) (e : b = true := by first | exact Nat.beq_refl _ | exact wide_map (fun _ => rfl) _ | exact full_map (fun _ => rfl) _ | rfl | (simp only [full_map, wide_map]; done)) : fB b A := fB.of e h
theorem st1 {P Q : Prop} (h : Q) (e : Q → P := by with_reducible first | exact fun h => gP h | exact fun h => gN h | exact fun h => fG.not h | exact fun h => gY h | exact fun h => gF h | exact fun h => fG.yes (flat_map (fun _ => rfl) _) h | exact fun h => gS64 h | exact fun h => gU8 h | exact fun h => gI0 h | exact fun h => fE.of rfl h | exact fun h => gNum0 h | exact fun h => gSet h | exact fun h => gRd h | exact fun h => gLk h | exact fun h => gRow0 h | exact fun h => gRf0 h) : P := e h
theorem cloneP_run {sz bytes : Nat} {rows : List (List T)} (h1 : wide sz rows = true) (h2 : flat rows = true) (h3 : T.full 9 (.sl sz rows) = true) (h4 : rows.length * bytes ≤ 140737488355328 ∧ rows.length ≤ 140737488355328) :
    cloneP sz bytes [.h 1000000 0 0 [] sz 0 rows.length] [.tree 0 (.sl sz rows)] = some ⟨.h 2000000 1 0 [] sz 0 rows.length, [.tree 9 (.sl sz rows)], [none]⟩ := by
  simp only [cloneP, h1, h2, h3, h4, and_self, if_true]
theorem cloneP_ok {f t0 sz bytes : Nat} (h : ∀ rows : List (List T), wide sz rows = true → flat rows = true → T.full 9 (.sl sz rows) = true → (rows.length * bytes ≤ 140737488355328 ∧ rows.length ≤ 140737488355328) → FnOk PR f [.h 1000000 0 0 [] sz 0 rows.length] [.tree 0 (.sl sz rows)] ⟨.h 2000000 1 0 [] sz 0 rows.length, [.tree 9 (.sl sz rows)], [none]⟩)
    {args : List AV} {conts : List Cont} {r : Res} (hr : cloneP sz bytes args conts = some r) : FnOk PR f args conts r := by
  unfold cloneP at hr
  split at hr
  · split at hr
    · rename_i hc
      obtain ⟨rfl, rfl, rfl, rfl, h1, h2, h3, h4⟩ := hc
      simp only [Option.some.injEq] at hr
      rw [← hr]
      exact h _ h1 h2 h3 h4
    · cases hr
  · cases hr
theorem prims_ok : PrimsOk PR C := by
  intro f p hp args conts r hr
  have hp : primT f = some p := hp
  unfold primT at hp
  split at hp
  · rename_i e; subst e; cases hp; exact cloneP_ok (t0 := 53) (fun rows h1 h2 h3 h4 => clone_ok tys_ok Tryz.func114 rfl rfl (by decide) rfl rfl rfl rfl rfl (by decide) rfl h1 h2 h3 h4) hr
  split at hp
  · rename_i e; subst e; cases hp; exact cloneP_ok (t0 := 77) (fun rows h1 h2 h3 h4 => clone_ok tys_ok Tryz.func147 rfl rfl (by decide) rfl rfl rfl rfl rfl (by decide) rfl h1 h2 h3 h4) hr
  split at hp
  · rename_i e; subst e; cases hp; exact cloneP_ok (t0 := 113) (fun rows h1 h2 h3 h4 => clone_ok tys_ok Tryz.func180 rfl rfl (by decide) rfl rfl rfl rfl rfl (by decide) rfl h1 h2 h3 h4) hr
  split at hp
  · rename_i e; subst e; cases hp; exact cloneP_ok (t0 := 36) (fun rows h1 h2 h3 h4 => clone_ok tys_ok Tryz.func182 rfl rfl (by decide) rfl rfl rfl rfl rfl (by decide) rfl h1 h2 h3 h4) hr
  split at hp
  · rename_i e; subst e; cases hp; exact cloneP_ok (t0 := 38) (fun rows h1 h2 h3 h4 => clone_ok tys_ok Tryz.func235 rfl rfl (by decide) rfl rfl rfl rfl rfl (by decide) rfl h1 h2 h3 h4) hr
  split at hp
  · rename_i e; subst e; cases hp; exact cloneP_ok (t0 := 39) (fun rows h1 h2 h3 h4 => clone_ok tys_ok Tryz.func236 rfl rfl (by decide) rfl rfl rfl rfl rfl (by decide) rfl h1 h2 h3 h4) hr
  cases hp
theorem callE_prim {k f : Nat} {args : List AV} {conts : List Cont} {p : List AV → List Cont → Option Res} {r : Res} (hp : C.prim f = some p) (h : p args conts = some r) : callE PR C (k + 1) f args conts = some r := by
  simp only [callE, hp, h]
end Go.Proofs.YtipfcgbhaalcdaaGreat.Abs

namespace Go.Proofs.YtipfcgbhaalcdaaGreat.Abs
open Go Go.Proofs
set_option linter.unusedVariables false
set_option linter.unusedSimpArgs false
attribute [local irreducible] callE
theorem ok_impl_in (k : Nat) (x lo hi : Int) : callE PR C (k + 1) 78 [i64 x, i64 lo, i64 hi] [] = some ⟨bl (decide (lo ≤ x ∧ x ≤ hi)), [], []⟩ := by
  (refine fnI [ResultVar.tmp 6] Tryz.func78 ?_; conv => whnf)
  repeat' ((with_reducible (first | refine st1 ?_|refine fG.split (fun _ => ?_) (fun _ => ?_)|refine fG.bool (fun _ => ?_) (fun _ => ?_))) <;> (try (conv => whnf)))

  all_goals (simp; omega)

theorem ok_spec_l1In (k : Nat) (x lo hi : Int) : callE PR C (k + 1) 82 [i64 x, i64 lo, i64 hi] [] = some ⟨bl (decide (lo ≤ x ∧ x ≤ hi)), [], []⟩ := by
  (refine fnI [ResultVar.tmp 6] Tryz.func82 ?_; conv => whnf)
  repeat' ((with_reducible (first | refine st1 ?_|refine fG.split (fun _ => ?_) (fun _ => ?_)|refine fG.bool (fun _ => ?_) (fun _ => ?_))) <;> (try (conv => whnf)))

  all_goals (simp; omega)

theorem ok_spec_l1Num (k : Nat) (x : Int) : callE PR C (k + 2) 263 [i64 x] [] = some ⟨bl (decide (-1000000000 ≤ x ∧ x ≤ 1000000000)), [], []⟩ := by
  (refine fnI [ResultVar.tmp 2] Tryz.func263 ?_; conv => whnf)
  repeat' ((with_reducible (first | refine sCall.of (ok_spec_l1In _ _ _ _) ?_|refine st1 ?_|refine fG.split (fun _ => ?_) (fun _ => ?_)|refine fG.bool (fun _ => ?_) (fun _ => ?_))) <;> (try (conv => whnf)))
  trace_state

structure Ins where
  op : Int
  r : Int
  a : Int
  b : Int
  n : Int
deriving DecidableEq
instance : Inhabited Ins := ⟨⟨0, 0, 0, 0, 0⟩⟩
def rIns (x : Ins) : List T := [.v (.int .i64 x.op), .v (.int .i64 x.r), .v (.int .i64 x.a), .v (.int .i64 x.b), .v (.int .i64 x.n)]
abbrev aIns (x : Ins) : AV := .ag [i64 x.op, i64 x.r, i64 x.a, i64 x.b, i64 x.n]
def numOk (n : Int) : Bool := decide (-1000000000 ≤ n ∧ n ≤ 1000000000)
def inB (n lo hi : Int) : Bool := decide (lo ≤ n ∧ n ≤ hi)
def insOk (x : Ins) (places procs : Int) : Bool :=
  inB x.r 0 3 && inB x.a 0 3 && inB x.b 0 3 && inB procs 1 4 &&
  (if x.op = 1 then numOk x.n && decide (x.a = 0) && decide (x.b = 0)
   else if x.op = 2 ∨ x.op = 3 ∨ x.op = 4 ∨ x.op = 5 then decide (x.n = 0)
   else if x.op = 6 then inB x.n 0 (procs - 1) && decide (x.r = 0) && decide (x.b = 0)
   else if x.op = 7 then (inB x.n 0 (procs - 1) || decide (x.n = 9)) && decide (x.a = 0) && decide (x.b = 0)
   else if x.op = 8 then decide (x.r = 0) && decide (x.b = 0) && decide (x.n = 0)
   else if x.op = 9 then decide (0 ≤ x.n ∧ x.n < places) && decide (x.r = 0) && decide (x.a = 0) && decide (x.b = 0)
   else if x.op = 10 then decide (0 ≤ x.n ∧ x.n < places) && decide (x.r = 0) && decide (x.b = 0)
   else if x.op = 11 then decide (x.r = 0) && decide (x.a = 0) && decide (x.b = 0) && decide (x.n = 0)
   else false)
def progOk (l : List Ins) (procs : Int) : Bool := decide (1 ≤ l.length ∧ l.length ≤ 30) && inB procs 1 4 && l.all fun x => insOk x l.length procs

def bs (l : List UInt8) : ByteArray := ⟨l.toArray⟩
def ints (l : List UInt8) : List Int := l.map fun u => (u.toNat : Int)
theorem bytesT_bs (l : List UInt8) : bytesT (bs l) = (ints l).map rB := by simp [bytesT, bs, ints, rB]
theorem bs_len (l : List UInt8) : (bs l).size = (ints l).length := by simp [bs, ints, ByteArray.size]
theorem ints_length (l : List UInt8) : (ints l).length = l.length := by simp [ints]
theorem gI2 {p A : Prop} (h : A) (e : p := by first | with_reducible assumption | omega | (simp only [Nat.zero_add, Nat.add_zero, Nat.sub_zero, Int.toNat_natCast, Int.toNat_zero, Int.toNat_one, List.length_map, List.length_nil, Int.reduceToNat, Nat.reduceAdd, Nat.reduceSub, Int.sub_zero, Int.reduceAdd, Int.reduceSub, Nat.sub_self, Int.toNat_natCast_add_one, bs_len, List.length_append, List.length_cons, List.length_set, List.length_replicate, List.length_range]; first | done | omega)) : sI p A := sI.mk e h
theorem gNum2 {r r' : Nat} {F : Nat → Prop} (h : F r') (e : r = r' := by first | (simp only [Nat.zero_add, Nat.add_zero, Nat.sub_zero, Int.toNat_natCast, Int.toNat_zero, Int.toNat_one, List.length_map, List.length_nil, Int.reduceToNat, Nat.reduceAdd, Nat.reduceSub, Int.sub_zero, Int.reduceAdd, Int.reduceSub, Nat.sub_self, Int.toNat_natCast_add_one, bs_len]; rfl) | rfl) : sN r F := sN.eq e h
theorem gRow2 {r r' : List (List T)} {F : List (List T) → Prop} (h : F r') (e : r = r' := by first | (simp only [Nat.add_zero, Nat.zero_add, Nat.reduceAdd, List.drop_zero, List.take_succ_cons, List.take_nil, List.drop_succ_cons, List.drop_nil, List.take_zero, List.nil_append, List.append_nil, List.map_nil, drop_suf, take_pre, drop_map, List.take_length, take_len_set, take_len_app, List.set_set, List.length_map, bytesT_bs, snoc_rI, snoc_rB, snoc_rBool, set_rI, set_rBool, rep_rI, rep_rBool, map_app]; rfl) | rfl) : sR r F := sR.eq e h
theorem st2 {P Q : Prop} (h : Q) (e : Q → P := by with_reducible first | exact fun h => gP h | exact fun h => gN h | exact fun h => fG.not h | exact fun h => gY h | exact fun h => gF h | exact fun h => fG.yes (flat_map (fun _ => rfl) _) h | exact fun h => gS64 h | exact fun h => gU8 h | exact fun h => gI2 h | exact fun h => fE.of rfl h | exact fun h => gNum2 h | exact fun h => gSet h | exact fun h => gRd h | exact fun h => gLk h | exact fun h => gRow2 h | exact fun h => gRf0 h) : P := e h
def formL (op : Int) : List UInt8 :=
  if op = 1 then [82, 78] else if op = 2 ∨ op = 3 ∨ op = 4 ∨ op = 5 then [82, 65, 66] else if op = 6 then [80, 65] else if op = 7 then [82, 84] else if op = 8 then [65] else if op = 9 then [76] else if op = 10 then [65, 76] else []
theorem ok_impl_form (k : Nat) (op : Int) : callE PR C (k + 1) 299 [i64 op] [] = some ⟨.tu [.s (.string (bs (formL op))), bl (decide (1 ≤ op ∧ op ≤ 11))], [], []⟩ := by
  (refine fnI [ResultVar.tmp 2, ResultVar.tmp 3] Tryz.func299 ?_; conv => whnf)
  repeat' ((with_reducible (first | refine st2 ?_|refine fG.split (fun _ => ?_) (fun _ => ?_)|refine fG.bool (fun _ => ?_) (fun _ => ?_))) <;> (try (conv => whnf)))
  all_goals first | (simp [formL, bs, ByteArray.empty, *]; done) | skip
  rw [show decide (1 ≤ op ∧ op ≤ 11) = decide (op = 11) by rw [decide_eq_decide]; omega]
  simp [formL, bs, ByteArray.empty, *]
theorem ok_slices_Index_byte (k : Nat) (l : List Int) (v : Int) (hl : l.length ≤ 100000000000) : callE PR C (k + 1) 308 [.h 1000000 0 0 [] 1 0 l.length, .s (.int .u8 v)] [.tree 0 (.sl 1 (l.map rB))] = some ⟨i64 (idxP (fun x => decide (v = x)) l), [], [none]⟩ := by
  (refine fnI [ResultVar.tmp 4] Tryz.func308 ?_; conv => whnf)
  refine loop_rule (ι := Nat) (fun i => [(0, .h 1000000 0 0 [] 1 0 l.length), (1, .s (.int .u8 v)), (7, i64 l.length), (8, i64 i)]) (fun i => [(1000000, ⟨0, 0, false, .tree 0 (.sl 1 (l.map rB))⟩)]) (fun i => l.length - i) (fun i => i ≤ l.length ∧ l.findIdx? (fun x => decide (v = x)) = ((l.drop i).findIdx? (fun x => decide (v = x))).map (· + i)) 0 fitOk (by simp) (by simp [C]; omega) ?_
  rintro i sl ob ⟨hi, hall⟩
  (conv => whnf)
  repeat' ((with_reducible (first | refine st2 ?_|refine fG.split (fun _ => ?_) (fun _ => ?_)|refine fG.bool (fun _ => ?_) (fun _ => ?_))) <;> (try (conv => whnf)))
  case refine_1.refine_1 h hx => rw [findIdx_here (by omega) hall (by simpa using hx)]
  case refine_1.refine_2 h hx =>
    refine ⟨⟨i + 1, fitOk, ?_, ?_⟩⟩
    · exact ⟨by omega, findIdx_step (by omega) hall (by simpa using hx)⟩
    · omega
  case refine_2 h => rw [findIdx_none (by omega) hall]
theorem ok_slices_Contains_byte (k : Nat) (l : List Int) (v : Int) (hl : l.length ≤ 100000000000) : callE PR C (k + 2) 307 [.h 1000000 0 0 [] 1 0 l.length, .s (.int .u8 v)] [.tree 0 (.sl 1 (l.map rB))] = some ⟨bl (l.any fun x => decide (v = x)), [], [none]⟩ := by
  (refine fnI [ResultVar.tmp 4] Tryz.func307 ?_; conv => whnf)
  repeat' ((with_reducible (first | refine sCall.of (ok_slices_Index_byte _ _ _ hl) ?_|refine st2 ?_|refine fG.split (fun _ => ?_) (fun _ => ?_)|refine fG.bool (fun _ => ?_) (fun _ => ?_))) <;> (try (conv => whnf)))
  rw [← idxP_any]
theorem formL_len (op : Int) : (formL op).length ≤ 3 := by
  unfold formL; repeat' split
  all_goals simp
def hasB (op part : Int) : Bool := (ints (formL op)).any fun x => decide (part = x)
theorem ok_impl_has (k : Nat) (op part : Int) : callE PR C (k + 3) 301 [i64 op, .s (.int .u8 part)] [] = some ⟨bl (hasB op part), [], []⟩ := by
  have := formL_len op
  rw [← ints_length] at this
  have h2 : (ints (formL op)).length ≤ 100000000000 := by omega
  (refine fnI [ResultVar.tmp 4] Tryz.func301 ?_; conv => whnf)
  repeat' ((with_reducible (first | refine sCall.of (ok_impl_form _ _) ?_|refine sCall.of (ok_slices_Contains_byte _ _ _ h2) ?_|refine st2 ?_|refine fG.split (fun _ => ?_) (fun _ => ?_)|refine fG.bool (fun _ => ?_) (fun _ => ?_))) <;> (try (conv => whnf)))
  rfl

set_option maxHeartbeats 4000000 in
theorem ok_spec_InsOk (k : Nat) (x : Ins) (places procs : Int) (hp : -9000000000000000000 ≤ procs) (hp1 : procs ≤ 9000000000000000000) : callE PR C (k + 3) 261 [aIns x, i64 places, i64 procs] [] = some ⟨bl (insOk x places procs), [], []⟩ := by
  (refine fnI [ResultVar.tmp 6] Tryz.func261 ?_; conv => whnf)
  repeat' ((with_reducible (first | refine sCall.of (ok_spec_l1In _ _ _ _) ?_|refine sCall.of (ok_spec_l1Num _ _) ?_|refine st2 ?_|refine fG.split (fun _ => ?_) (fun _ => ?_)|refine fG.bool (fun _ => ?_) (fun _ => ?_))) <;> (try (conv => whnf)))
  all_goals refine congrArg (fun q => (⟨bl q, [], []⟩ : Res)) ?_
  all_goals first
    | (simp only [insOk, inB, numOk, *, decide_true, decide_false, decide_not, Bool.and_assoc, Bool.or_assoc, Bool.true_and, Bool.false_and, Bool.and_true, Bool.and_false, Bool.true_or, Bool.false_or, Bool.or_true, Bool.or_false, Bool.not_true, Bool.not_false, Bool.not_not, if_true, if_false, reduceIte, true_and, and_true, false_and, and_false, true_or, or_true, or_false, false_or, and_self, or_self, not_true_eq_false, not_false_eq_true, Int.reduceEq, Int.reduceNe, Int.reduceLT, Int.reduceLE, Int.reduceNeg, ↓reduceIte]; done)
    | (simp [insOk, inB, numOk, *]; done)
    | (simp [insOk, inB, numOk, *]; omega)

abbrev hIns (j : Nat) (l : List Ins) : AV := .h (1000000 + j) 0 0 [] 5 0 l.length
abbrev tIns (l : List Ins) : Cont := .tree 0 (.sl 5 (l.map rIns))
theorem ok_spec_ProgOk (k : Nat) (l : List Ins) (procs : Int) (hl : l.length ≤ 100000000000) (hp : -9000000000000000000 ≤ procs) (hp1 : procs ≤ 9000000000000000000) : callE PR C (k + 4) 174 [hIns 0 l, i64 procs] [tIns l] = some ⟨bl (progOk l procs), [], [none]⟩ := by
  (refine fnI [ResultVar.tmp 4] Tryz.func174 ?_; conv => whnf)
  refine loop_rule (ι := Nat) (fun i => [(0, hIns 0 l), (1, i64 procs), (5, i64 i)]) (fun i => [(1000000, ⟨0, 0, false, tIns l⟩)]) (fun i => l.length - i) (fun i => i ≤ l.length ∧ ((l.all fun x => insOk x l.length procs) = ((l.drop i).all fun x => insOk x l.length procs))) 0 fitOk (by simp) (by simp [C]; omega) ?_
  rintro i sl ob ⟨hi, hall⟩
  (conv => whnf)
  repeat' ((with_reducible (first | refine sCall.of (ok_spec_l1In _ _ _ _) ?_|refine sCall.of (ok_spec_InsOk _ _ _ _ hp hp1) ?_|refine st2 ?_|refine fG.split (fun _ => ?_) (fun _ => ?_)|refine fG.bool (fun _ => ?_) (fun _ => ?_))) <;> (try (conv => whnf)))
  case refine_1.refine_1 h hx =>
    refine ⟨⟨i + 1, fitOk, ?_, ?_⟩⟩
    · exact ⟨by omega, by rw [hall, drop_rd (by omega : i < l.length)]; simp [hx]⟩
    · omega
  case refine_1.refine_2 h hx =>
    rw [drop_rd (by omega : i < l.length)] at hall
    simp [progOk, hall, hx]
  case refine_2.refine_1 h hx =>
    have e : l.drop i = [] := by simp; omega
    rw [e] at hall
    simp [progOk, hall, inB]; omega
  case refine_2.refine_2 h hx => simp [progOk]; omega

theorem ok_impl_numOk (k : Nat) (x : Int) : callE PR C (k + 2) 194 [i64 x] [] = some ⟨bl (numOk x), [], []⟩ := by
  (refine fnI [ResultVar.tmp 2] Tryz.func194 ?_; conv => whnf)
  repeat' ((with_reducible (first | refine sCall.of (ok_impl_in _ _ _ _) ?_|refine st2 ?_|refine fG.split (fun _ => ?_) (fun _ => ?_)|refine fG.bool (fun _ => ?_) (fun _ => ?_))) <;> (try (conv => whnf)))
  rfl
theorem ok_impl_regOk (k : Nat) (n : Int) (had : Bool) : callE PR C (k + 2) 300 [i64 n, bl had] [] = some ⟨bl (decide (n = 0) || (had && inB n 0 3)), [], []⟩ := by
  (refine fnI [ResultVar.tmp 4] Tryz.func300 ?_; conv => whnf)
  cases had
  all_goals (conv => whnf)
  all_goals repeat' ((with_reducible (first | refine sCall.of (ok_impl_in _ _ _ _) ?_|refine st2 ?_|refine fG.split (fun _ => ?_) (fun _ => ?_)|refine fG.bool (fun _ => ?_) (fun _ => ?_))) <;> (try (conv => whnf)))
  all_goals first | rfl | (simp [inB, *]; done) | trace_state
def insOkI (x : Ins) (places procs : Int) : Bool :=
  decide (1 ≤ x.op ∧ x.op ≤ 11) && (decide (1 ≤ procs ∧ procs ≤ 4) && ((decide (x.r = 0) || (hasB x.op 82 && inB x.r 0 3)) && ((decide (x.a = 0) || (hasB x.op 65 && inB x.a 0 3)) && ((decide (x.b = 0) || (hasB x.op 66 && inB x.b 0 3)) &&
    (if hasB x.op 78 then numOk x.n else if hasB x.op 80 then decide (0 ≤ x.n ∧ x.n ≤ procs - 1) else if hasB x.op 84 then decide (x.n = 9) || decide (0 ≤ x.n ∧ x.n ≤ procs - 1) else if hasB x.op 76 then decide (0 ≤ x.n) && decide (x.n < places) else decide (x.n = 0))))))
theorem insOkI_eq (x : Ins) (places procs : Int) : insOkI x places procs = insOk x places procs := by
  obtain ⟨op, r, a, b, n⟩ := x
  have hop : op = 1 ∨ op = 2 ∨ op = 3 ∨ op = 4 ∨ op = 5 ∨ op = 6 ∨ op = 7 ∨ op = 8 ∨ op = 9 ∨ op = 10 ∨ op = 11 ∨ ¬ (1 ≤ op ∧ op ≤ 11) := by omega
  rcases hop with rfl | rfl | rfl | rfl | rfl | rfl | rfl | rfl | rfl | rfl | rfl | h
  case inr.inr.inr.inr.inr.inr.inr.inr.inr.inr.inr =>
    have h1 : ¬ op = 1 := by omega
    have h2 : ¬ (op = 2 ∨ op = 3 ∨ op = 4 ∨ op = 5) := by omega
    have h6 : ¬ op = 6 := by omega
    have h7 : ¬ op = 7 := by omega
    have h8 : ¬ op = 8 := by omega
    have h9 : ¬ op = 9 := by omega
    have h10 : ¬ op = 10 := by omega
    have h11 : ¬ op = 11 := by omega
    simp only [insOkI, insOk, h, h1, h2, h6, h7, h8, h9, h10, h11, decide_false, if_false, Bool.false_and, Bool.and_false]
  all_goals rw [Bool.eq_iff_iff]
  all_goals simp [insOkI, insOk, hasB, ints, formL, inB, numOk]
  all_goals omega
set_option maxHeartbeats 4000000 in
theorem ok_impl_InsOk (k : Nat) (x : Ins) (places procs : Int) (hp : -9000000000000000000 ≤ procs) (hp1 : procs ≤ 9000000000000000000) : callE PR C (k + 4) 268 [aIns x, i64 places, i64 procs] [] = some ⟨bl (insOk x places procs), [], []⟩ := by
  rw [← insOkI_eq]
  (refine fnI [ResultVar.tmp 6] Tryz.func268 ?_; conv => whnf)
  repeat' ((with_reducible (first | refine sCall.of (ok_impl_in _ _ _ _) ?_|refine sCall.of (ok_impl_regOk _ _ _) ?_|refine sCall.of (ok_impl_form _ _) ?_|refine sCall.of (ok_impl_has _ _ _) ?_|refine sCall.of (ok_impl_numOk _ _) ?_|refine st2 ?_|refine fG.split (fun _ => ?_) (fun _ => ?_)|refine fG.bool (fun _ => ?_) (fun _ => ?_)|refine gD 2 [(9, 12), (18, 21), (27, 30)] ?_)) <;> (try (conv => whnf)))
  all_goals refine congrArg (fun q => (⟨bl q, [], []⟩ : Res)) ?_
  all_goals first
    | (simp only [insOkI, *, decide_true, decide_false, decide_not, Bool.and_assoc, Bool.or_assoc, Bool.true_and, Bool.false_and, Bool.and_true, Bool.and_false, Bool.true_or, Bool.false_or, Bool.or_true, Bool.or_false, Bool.not_true, Bool.not_false, Bool.not_not, if_true, if_false, reduceIte, true_and, and_true, false_and, and_false, true_or, or_true, or_false, false_or, and_self, or_self, not_true_eq_false, not_false_eq_true, Int.reduceEq, Int.reduceNe, Int.reduceLT, Int.reduceLE, Int.reduceNeg, ↓reduceIte]; done)
    | (simp [insOkI, *]; done)
    | trace_state

abbrev aProg (l : List Ins) (procs : Int) : List AV := [.pt 1000002 0 0 [] 0 0, .pt 1000003 0 0 [] 0 0]
theorem ok_impl_ProgOk1 (k : Nat) (x : Ins) (l : List Ins) (procs : Int) (hp : -9000000000000000000 ≤ procs) (hp1 : procs ≤ 9000000000000000000) :
    callE PR C (k + 5) 267 [aIns x, .pt 1000001 0 0 [] 0 0, .pt 1000002 0 0 [] 0 0] [tIns l, .box [hIns 0 l], .box [i64 procs]] = some ⟨bl (!insOk x l.length procs), [], [none, some (.box [hIns 0 l]), some (.box [i64 procs])]⟩ := by
  (refine fnI [ResultVar.tmp 4] Tryz.func267 ?_; conv => whnf)
  repeat' ((with_reducible (first | refine sCall.of (ok_impl_InsOk _ _ _ _ hp hp1) ?_|refine st2 ?_|refine fG.split (fun _ => ?_) (fun _ => ?_)|refine fG.bool (fun _ => ?_) (fun _ => ?_))) <;> (try (conv => whnf)))
theorem ok_IndexFunc_Ins (k : Nat) (l : List Ins) (procs : Int) (hl : l.length ≤ 100000000000) (hp : -9000000000000000000 ≤ procs) (hp1 : procs ≤ 9000000000000000000) :
    callE PR C (k + 6) 298 [hIns 0 l, .fn 267 [.pt 1000002 0 0 [] 0 0, .pt 1000003 0 0 [] 0 0]] [tIns l, tIns l, .box [hIns 1 l], .box [i64 procs]] =
      some ⟨i64 (idxP (fun x => !insOk x l.length procs) l), [], [none, none, some (.box [hIns 1 l]), some (.box [i64 procs])]⟩ := by
  (refine fnI [ResultVar.tmp 4] Tryz.func298 ?_; conv => whnf)
  refine loop_rule (ι := Nat × Bool × Bool) (fun i => [(0, hIns 0 l), (1, .fn 267 [.pt 1000002 0 0 [] 0 0, .pt 1000003 0 0 [] 0 0]), (7, i64 l.length), (8, i64 i.1)]) (fun i => [(1000000, ⟨0, 0, false, tIns l⟩), (1000001, ⟨0, 0, false, tIns l⟩), (1000002, ⟨0, 0, i.2.1, .box [hIns 1 l]⟩), (1000003, ⟨0, 0, i.2.2, .box [i64 procs]⟩)]) (fun i => l.length - i.1) (fun i => i.1 ≤ l.length ∧ l.findIdx? (fun x => !insOk x l.length procs) = ((l.drop i.1).findIdx? (fun x => !insOk x l.length procs)).map (· + i.1)) (0, false, false) fitOk (by simp) (by simp [C]; omega) ?_
  rintro ⟨i, d1, d2⟩ sl ob ⟨hi, hall⟩
  dsimp only at hi hall
  (conv => whnf)
  repeat' ((with_reducible (first | refine sCall.of (ok_impl_ProgOk1 _ _ _ _ hp hp1) ?_|refine st2 ?_|refine fG.split (fun _ => ?_) (fun _ => ?_)|refine fG.bool (fun _ => ?_) (fun _ => ?_))) <;> (try (conv => whnf)))
  case refine_1.refine_1 h hx =>
    refine ⟨⟨(i + 1, _, _), fitOk, ?_, ?_⟩⟩
    · exact ⟨by dsimp only at *; omega, findIdx_step (by dsimp only at *; omega) hall (by simp [hx])⟩
    · dsimp only at *; omega
  case refine_1.refine_2 h hx => rw [findIdx_here (by dsimp only at *; omega) hall (by simp [hx])]
  case refine_2 h => rw [findIdx_none (by dsimp only at *; omega) hall]
theorem ok_ContainsFunc_Ins (k : Nat) (l : List Ins) (procs : Int) (hl : l.length ≤ 100000000000) (hp : -9000000000000000000 ≤ procs) (hp1 : procs ≤ 9000000000000000000) :
    callE PR C (k + 7) 266 [hIns 0 l, .fn 267 [.pt 1000002 0 0 [] 0 0, .pt 1000003 0 0 [] 0 0]] [tIns l, tIns l, .box [hIns 1 l], .box [i64 procs]] =
      some ⟨bl (l.any fun x => !insOk x l.length procs), [], [none, none, some (.box [hIns 1 l]), some (.box [i64 procs])]⟩ := by
  (refine fnI [ResultVar.tmp 4] Tryz.func266 ?_; conv => whnf)
  repeat' ((with_reducible (first | refine sCall.of (ok_IndexFunc_Ins _ _ _ hl hp hp1) ?_|refine st2 ?_|refine fG.split (fun _ => ?_) (fun _ => ?_)|refine fG.bool (fun _ => ?_) (fun _ => ?_))) <;> (try (conv => whnf)))
  rw [← idxP_any]
theorem ok_impl_ProgOk (k : Nat) (l : List Ins) (procs : Int) (hl : l.length ≤ 100000000000) (hp : -9000000000000000000 ≤ procs) (hp1 : procs ≤ 9000000000000000000) : callE PR C (k + 8) 195 [hIns 0 l, i64 procs] [tIns l] = some ⟨bl (progOk l procs), [], [none]⟩ := by
  (refine fnI [ResultVar.tmp 4] Tryz.func195 ?_; conv => whnf)
  repeat' ((with_reducible (first | refine sCall.of (ok_impl_in _ _ _ _) ?_|refine sCall.of (ok_ContainsFunc_Ins _ _ _ hl hp hp1) ?_|refine st2 ?_|refine fG.split (fun _ => ?_) (fun _ => ?_)|refine fG.bool (fun _ => ?_) (fun _ => ?_))) <;> (try (conv => whnf)))
  case refine_1 hlen =>
    have e : (l.any fun x => !insOk x l.length procs) = !(l.all fun x => insOk x l.length procs) := by rw [List.all_eq_not_any_not]; simp
    rw [e]
    have h0 : decide (1 ≤ l.length ∧ l.length ≤ 30) = true := by simp; omega
    simp only [progOk, h0, Bool.not_not, Bool.true_and]
    cases hb : inB procs 1 4 with
    | true => simp
    | false =>
      cases l with
      | nil => simp at hlen
      | cons x l => simp [insOk, hb]
  case refine_2 hlen =>
    have h0 : decide (1 ≤ l.length ∧ l.length ≤ 30) = false := by simp; omega
    simp [progOk, h0]

end Go.Proofs.YtipfcgbhaalcdaaGreat.Abs
namespace Go.Proofs.YtipfcgbhaalcdaaGreat.Abs
open Go Go.Proofs
set_option linter.unusedVariables false
set_option linter.unusedSimpArgs false
attribute [local irreducible] callE
structure State where
  at_ : Int
  regs : List Int
  out : List Int
  code : Int
deriving DecidableEq
instance : Inhabited State := ⟨⟨0, [], [], 0⟩⟩
structure Event where
  kind : Int
  peer : Int
  v : Int
deriving DecidableEq
instance : Inhabited Event := ⟨⟨0, 0, 0⟩⟩
def rEvent (e : Event) : List T := [.v (.int .i64 e.kind), .v (.int .i64 e.peer), .v (.int .i64 e.v)]
def rState (s : State) : List T := [.v (.int .i64 s.at_), .sl 1 (s.regs.map rI), .sl 1 (s.out.map rI), .v (.int .i64 s.code)]
abbrev aEvent (e : Event) : AV := .ag [i64 e.kind, i64 e.peer, i64 e.v]
abbrev aState (j : Nat) (a : Int) (r o : List Int) (c : Int) : AV := .ag [i64 a, .h (1000000 + j) 0 0 [] 1 0 r.length, .h (1000001 + j) 0 0 [] 1 0 o.length, i64 c]
abbrev nState (j : Nat) (a : Int) (r o : List Int) (c : Int) : AV := .ag [i64 a, .h (2000000 + j) 1 0 [] 1 0 r.length, .h (2000001 + j) 1 0 [] 1 0 o.length, i64 c]
abbrev nSt (j : Nat) (s : State) : AV := nState j s.at_ s.regs s.out s.code
abbrev tI (l : List Int) : Cont := .tree 0 (.sl 1 (l.map rI))
abbrev tI9 (l : List Int) : Cont := .tree 9 (.sl 1 (l.map rI))
abbrev hEvent (j : Nat) (l : List Event) : AV := .h (1000000 + j) 0 0 [] 3 0 l.length
abbrev tEvent (l : List Event) : Cont := .tree 0 (.sl 3 (l.map rEvent))
theorem snoc_rEvent (l : List Event) (a b c : Int) : l.map rEvent ++ [[.v (.int .i64 a), .v (.int .i64 b), .v (.int .i64 c)]] = (l ++ [(⟨a, b, c⟩ : Event)]).map rEvent := by simp [rEvent]
theorem snoc_rIns (l : List Ins) (a b c d e : Int) : l.map rIns ++ [[.v (.int .i64 a), .v (.int .i64 b), .v (.int .i64 c), .v (.int .i64 d), .v (.int .i64 e)]] = (l ++ [(⟨a, b, c, d, e⟩ : Ins)]).map rIns := by simp [rIns]
theorem gI3 {p A : Prop} (h : A) (e : p := by first | with_reducible assumption | omega | (simp only [Nat.zero_add, Nat.add_zero, Nat.sub_zero, Int.toNat_natCast, Int.toNat_zero, Int.toNat_one, List.length_map, List.length_nil, Int.reduceToNat, Nat.reduceAdd, Nat.reduceSub, Int.sub_zero, Int.reduceAdd, Int.reduceSub, Nat.sub_self, Int.toNat_natCast_add_one, bs_len, List.length_append, List.length_cons, List.length_set, List.length_replicate, List.length_range]; first | done | omega)) : sI p A := sI.mk e h
theorem gNum3 {r r' : Nat} {F : Nat → Prop} (h : F r') (e : r = r' := by first | (simp only [Nat.zero_add, Nat.add_zero, Nat.sub_zero, Int.toNat_natCast, Int.toNat_zero, Int.toNat_one, List.length_map, List.length_nil, Int.reduceToNat, Nat.reduceAdd, Nat.reduceSub, Int.sub_zero, Int.reduceAdd, Int.reduceSub, Nat.sub_self, Int.toNat_natCast_add_one, bs_len]; rfl) | rfl) : sN r F := sN.eq e h
theorem gRow3 {r r' : List (List T)} {F : List (List T) → Prop} (h : F r') (e : r = r' := by first | (simp only [Nat.add_zero, Nat.zero_add, Nat.reduceAdd, List.drop_zero, List.take_succ_cons, List.take_nil, List.drop_succ_cons, List.drop_nil, List.take_zero, List.nil_append, List.append_nil, List.map_nil, drop_suf, take_pre, drop_map, List.take_length, take_len_set, take_len_app, List.set_set, List.length_map, snoc_rEvent, snoc_rIns, bytesT_bs, snoc_rI, snoc_rB, snoc_rBool, set_rI, set_rBool, rep_rI, rep_rBool, map_app]; rfl) | rfl) : sR r F := sR.eq e h
theorem st3 {P Q : Prop} (h : Q) (e : Q → P := by with_reducible first | exact fun h => gP h | exact fun h => gN h | exact fun h => fG.not h | exact fun h => gY h | exact fun h => gF h | exact fun h => fG.yes (flat_map (fun _ => rfl) _) h | exact fun h => gS64 h | exact fun h => gU8 h | exact fun h => gI3 h | exact fun h => fE.of rfl h | exact fun h => gNum3 h | exact fun h => gSet h | exact fun h => gRd h | exact fun h => gLk h | exact fun h => gRow3 h | exact fun h => gRf0 h) : P := e h
def next (l : List Ins) (s : State) : Event :=
  if (rd l s.at_.toNat).op = 6 then ⟨2, (rd l s.at_.toNat).n, rd s.regs (rd l s.at_.toNat).a.toNat⟩
  else if (rd l s.at_.toNat).op = 7 then ⟨3, (rd l s.at_.toNat).n, 0⟩
  else if (rd l s.at_.toNat).op = 8 then ⟨4, 0, rd s.regs (rd l s.at_.toNat).a.toNat⟩
  else ⟨1, 0, 0⟩
def comes (e want : Event) : Bool :=
  if want.kind = 3 ∧ e.kind = 3 then numOk e.v && ((decide (e.peer = want.peer) && !decide (want.peer = 9)) || (decide (want.peer = 9) && inB e.peer 0 3)) else decide (e = want)
def reckoned (x : Ins) (r : List Int) : Int :=
  if x.op = 1 then x.n else if x.op = 2 then rd r x.a.toNat + rd r x.b.toNat else if x.op = 3 then rd r x.a.toNat - rd r x.b.toNat else if x.op = 4 then rd r x.a.toNat * rd r x.b.toNat else if rd r x.a.toNat < rd r x.b.toNat then 1 else 0
def goesOn (n : Nat) (s : State) (at_ : Int) : State := if 0 ≤ at_ ∧ at_ ≤ (n : Int) - 1 then { s with at_ := at_ } else { s with code := 2 }
def did (l : List Ins) (s : State) (e : Event) : State :=
  if (rd l s.at_.toNat).op = 1 ∨ (rd l s.at_.toNat).op = 2 ∨ (rd l s.at_.toNat).op = 3 ∨ (rd l s.at_.toNat).op = 4 ∨ (rd l s.at_.toNat).op = 5 then
    (if numOk (reckoned (rd l s.at_.toNat) s.regs) = true then goesOn l.length { s with regs := s.regs.set (rd l s.at_.toNat).r.toNat (reckoned (rd l s.at_.toNat) s.regs) } (s.at_ + 1) else { s with code := 2 })
  else if (rd l s.at_.toNat).op = 7 then goesOn l.length { s with regs := s.regs.set (rd l s.at_.toNat).r.toNat e.v } (s.at_ + 1)
  else if (rd l s.at_.toNat).op = 8 then (if (60 : Int) ≤ (s.out.length : Int) then { s with code := 2 } else goesOn l.length { s with out := s.out ++ [e.v] } (s.at_ + 1))
  else if (rd l s.at_.toNat).op = 9 then goesOn l.length s (rd l s.at_.toNat).n
  else if (rd l s.at_.toNat).op = 10 then (if rd s.regs (rd l s.at_.toNat).a.toNat = 0 then goesOn l.length s (rd l s.at_.toNat).n else goesOn l.length s (s.at_ + 1))
  else if (rd l s.at_.toNat).op = 11 then { s with code := 1 }
  else goesOn l.length s (s.at_ + 1)
structure SOk (n : Nat) (s : State) : Prop where
  at0 : 0 ≤ s.at_
  at1 : s.at_ < n
  regs : s.regs.length = 4
  out : s.out.length ≤ 60
  nums : ∀ i, i < 4 → -1000000000 ≤ rd s.regs i ∧ rd s.regs i ≤ 1000000000
structure IOk (n : Nat) (x : Ins) : Prop where
  r : 0 ≤ x.r ∧ x.r ≤ 3
  a : 0 ≤ x.a ∧ x.a ≤ 3
  b : 0 ≤ x.b ∧ x.b ≤ 3
  op : 1 ≤ x.op ∧ x.op ≤ 11
  num : -1000000000 ≤ x.n ∧ x.n ≤ 1000000000
  peer : x.op = 6 → 0 ≤ x.n ∧ x.n ≤ 3
  take : x.op = 7 → 0 ≤ x.n ∧ x.n ≤ 3 ∨ x.n = 9
  jump : x.op = 9 ∨ x.op = 10 → 0 ≤ x.n ∧ x.n < n
theorem insOk_iok {x : Ins} {n : Nat} (hn : n ≤ 30) (h : insOk x n 4 = true) : IOk n x := by
  simp only [insOk, inB, numOk, Bool.and_eq_true, decide_eq_true_eq, Bool.or_eq_true] at h
  obtain ⟨⟨⟨⟨h1, h2⟩, h3⟩, h4⟩, h⟩ := h
  have : (1 ≤ x.op ∧ x.op ≤ 11) ∧ (-1000000000 ≤ x.n ∧ x.n ≤ 1000000000) ∧ (x.op = 6 → 0 ≤ x.n ∧ x.n ≤ 3) ∧ (x.op = 7 → 0 ≤ x.n ∧ x.n ≤ 3 ∨ x.n = 9) ∧ (x.op = 9 ∨ x.op = 10 → 0 ≤ x.n ∧ x.n < n) := by
    repeat' split at h
    all_goals try simp only [Bool.and_eq_true, decide_eq_true_eq, Bool.or_eq_true] at h
    all_goals first | (exfalso; cases h; done) | (refine ⟨?_, ?_, fun _ => ?_, fun _ => ?_, fun _ => ?_⟩ <;> omega)
  exact ⟨h1, h2, h3, this.1, this.2.1, this.2.2.1, this.2.2.2.1, this.2.2.2.2⟩
theorem progOk_len {l : List Ins} {p : Int} (h : progOk l p = true) : 1 ≤ l.length ∧ l.length ≤ 30 := by
  simp only [progOk, Bool.and_eq_true, decide_eq_true_eq] at h; exact h.1.1
theorem progOk_iok {l : List Ins} (h : progOk l 4 = true) {i : Nat} (hi : i < l.length) : IOk l.length (rd l i) := by
  have h1 := progOk_len h
  simp only [progOk, Bool.and_eq_true, List.all_eq_true] at h
  exact insOk_iok h1.2 (h.2 _ (rd_mem hi))

theorem ok_impl_next (k : Nat) (l : List Ins) (a : Int) (r o : List Int) (c : Int) (hl : l.length ≤ 100000000000) (hs : SOk l.length ⟨a, r, o, c⟩) (hi : IOk l.length (rd l a.toNat)) :
    callE PR C (k + 1) 238 [hIns 0 l, aState 1 a r o c] [tIns l, tI r, tI o] = some ⟨aEvent (next l ⟨a, r, o, c⟩), [], [none, none, none]⟩ := by
  have h0 : 0 ≤ a := hs.at0
  have h1 : a < l.length := hs.at1
  have h2 : r.length = 4 := hs.regs
  have h3 := hi.a
  (refine fnI [ResultVar.cell 4 85] Tryz.func238 ?_; conv => whnf)
  repeat' ((with_reducible (first | refine st3 ?_|refine fG.split (fun _ => ?_) (fun _ => ?_)|refine fG.bool (fun _ => ?_) (fun _ => ?_)|refine gDn 4 ?_)) <;> (try (conv => whnf)))
  all_goals simp [next, *]
theorem ok_spec_l2Next (k : Nat) (l : List Ins) (a : Int) (r o : List Int) (c : Int) (hl : l.length ≤ 100000000000) (hs : SOk l.length ⟨a, r, o, c⟩) (hi : IOk l.length (rd l a.toNat)) :
    callE PR C (k + 1) 241 [hIns 0 l, aState 1 a r o c] [tIns l, tI r, tI o] = some ⟨aEvent (next l ⟨a, r, o, c⟩), [], [none, none, none]⟩ := by
  have h0 : 0 ≤ a := hs.at0
  have h1 : a < l.length := hs.at1
  have h2 : r.length = 4 := hs.regs
  have h3 := hi.a
  (refine fnI [ResultVar.cell 4 85] Tryz.func241 ?_; conv => whnf)
  repeat' ((with_reducible (first | refine st3 ?_|refine fG.split (fun _ => ?_) (fun _ => ?_)|refine fG.bool (fun _ => ?_) (fun _ => ?_)|refine gDn 4 ?_)) <;> (try (conv => whnf)))
  all_goals simp [next, *]
theorem event_eq (e w : Event) : decide (e = w) = (decide (e.kind = w.kind) && (decide (e.peer = w.peer) && decide (e.v = w.v))) := by
  obtain ⟨a, b, c⟩ := e
  obtain ⟨a', b', c'⟩ := w
  rw [Bool.eq_iff_iff]
  simp
theorem ok_impl_comes (k : Nat) (e w : Event) : callE PR C (k + 3) 303 [aEvent e, aEvent w] [] = some ⟨bl (comes e w), [], []⟩ := by
  (refine fnI [ResultVar.tmp 4] Tryz.func303 ?_; conv => whnf)
  repeat' ((with_reducible (first | refine sCall.of (ok_impl_numOk _ _) ?_|refine sCall.of (ok_impl_in _ _ _ _) ?_|refine st3 ?_|refine fG.split (fun _ => ?_) (fun _ => ?_)|refine fG.bool (fun _ => ?_) (fun _ => ?_))) <;> (try (conv => whnf)))
  all_goals first | (simp only [comes, inB, event_eq, *, decide_true, decide_false, decide_not, Bool.and_assoc, Bool.or_assoc, Bool.true_and, Bool.false_and, Bool.and_true, Bool.and_false, Bool.true_or, Bool.false_or, Bool.or_true, Bool.or_false, Bool.not_true, Bool.not_false, Bool.not_not, if_true, if_false, reduceIte, true_and, and_true, false_and, and_false, true_or, or_true, or_false, false_or, and_self, or_self, not_true_eq_false, not_false_eq_true, Int.reduceEq, Int.reduceNe, Int.reduceLT, Int.reduceLE, Int.reduceNeg, ↓reduceIte]; done) | (simp [comes, inB, event_eq, *]; done) | skip
theorem mul_rng {a b : Int} (ha : -1000000000 ≤ a ∧ a ≤ 1000000000) (hb : -1000000000 ≤ b ∧ b ≤ 1000000000) : -1000000000000000000 ≤ a * b ∧ a * b ≤ 1000000000000000000 := by
  have h1 : (a * b).natAbs ≤ 1000000000 * 1000000000 := by
    rw [Int.natAbs_mul]
    exact Nat.mul_le_mul (by omega) (by omega)
  omega
theorem ok_impl_reckoned (k : Nat) (x : Ins) (r : List Int) (hr : r.length = 4) (ha : 0 ≤ x.a ∧ x.a ≤ 3) (hb : 0 ≤ x.b ∧ x.b ≤ 3) (hn : ∀ i, i < 4 → -1000000000 ≤ rd r i ∧ rd r i ≤ 1000000000) :
    callE PR C (k + 1) 288 [aIns x, .h 1000000 0 0 [] 1 0 r.length] [tI r] = some ⟨i64 (reckoned x r), [], [none]⟩ := by
  have n1 := hn x.a.toNat (by omega)
  have n2 := hn x.b.toNat (by omega)
  have hm : -1000000000000000000 ≤ rd r x.a.toNat * rd r x.b.toNat ∧ rd r x.a.toNat * rd r x.b.toNat ≤ 1000000000000000000 := mul_rng n1 n2
  (refine fnI [ResultVar.tmp 4] Tryz.func288 ?_; conv => whnf)
  repeat' ((with_reducible (first | refine st3 ?_|refine fG.split (fun _ => ?_) (fun _ => ?_)|refine fG.bool (fun _ => ?_) (fun _ => ?_)|refine gDn 5 ?_|refine gDn 7 ?_|refine gDn 9 ?_|refine gDn 10 ?_)) <;> (try (conv => whnf)))
  all_goals first | (simp only [reckoned, *, decide_true, decide_false, decide_not, Bool.and_assoc, Bool.or_assoc, Bool.true_and, Bool.false_and, Bool.and_true, Bool.and_false, Bool.true_or, Bool.false_or, Bool.or_true, Bool.or_false, Bool.not_true, Bool.not_false, Bool.not_not, if_true, if_false, reduceIte, true_and, and_true, false_and, and_false, true_or, or_true, or_false, false_or, and_self, or_self, not_true_eq_false, not_false_eq_true, Int.reduceEq, Int.reduceNe, Int.reduceLT, Int.reduceLE, Int.reduceNeg, ↓reduceIte]; done) | (simp [reckoned, *]; done) | skip
theorem goesOn_regs (n : Nat) (s : State) (a : Int) : (goesOn n s a).regs = s.regs := by unfold goesOn; split <;> rfl
theorem goesOn_out (n : Nat) (s : State) (a : Int) : (goesOn n s a).out = s.out := by unfold goesOn; split <;> rfl
theorem ok_impl_goesOn (k : Nat) (l : List Ins) (a : Int) (r o : List Int) (c x : Int) (hl : l.length ≤ 100000000000) : callE PR C (k + 2) 290 [hIns 0 l, aState 1 a r o c, i64 x] [tIns l, tI r, tI o] = some ⟨aState 1 (goesOn l.length ⟨a, r, o, c⟩ x).at_ r o (goesOn l.length ⟨a, r, o, c⟩ x).code, [], [none, none, none]⟩ := by
  (refine fnI [ResultVar.cell 6 175] Tryz.func290 ?_; conv => whnf)
  repeat' ((with_reducible (first | refine sCall.of (ok_impl_in _ _ _ _) ?_|refine st3 ?_|refine fG.split (fun _ => ?_) (fun _ => ?_)|refine fG.bool (fun _ => ?_) (fun _ => ?_))) <;> (try (conv => whnf)))
  all_goals first | (simp only [goesOn, *, decide_true, decide_false, decide_not, Bool.and_assoc, Bool.or_assoc, Bool.true_and, Bool.false_and, Bool.and_true, Bool.and_false, Bool.true_or, Bool.false_or, Bool.or_true, Bool.or_false, Bool.not_true, Bool.not_false, Bool.not_not, if_true, if_false, reduceIte, true_and, and_true, false_and, and_false, true_or, or_true, or_false, false_or, and_self, or_self, not_true_eq_false, not_false_eq_true, Int.reduceEq, Int.reduceNe, Int.reduceLT, Int.reduceLE, Int.reduceNeg, ↓reduceIte]; done) | (simp [goesOn, *]; done) | skip
theorem ok_Clone_int (k : Nat) (l : List Int) (hl : l.length ≤ 100000000000) : callE PR C (k + 1) 235 [.h 1000000 0 0 [] 1 0 l.length] [tI l] = some ⟨.h 2000000 1 0 [] 1 0 l.length, [tI9 l], [none]⟩ := by
  have := callE_prim (k := k) (f := 235) rfl (cloneP_run (sz := 1) (bytes := 8) (wide_map (f := rI) (fun _ => rfl) l) (flat_map (fun _ => rfl) l) (full_map (fun _ => rfl) l) (by simp; omega))
  simpa using this
theorem ok_impl_cloneState (k : Nat) (a : Int) (r o : List Int) (c : Int) (h1 : r.length ≤ 100000000000) (h2 : o.length ≤ 100000000000) : callE PR C (k + 2) 181 [aState 0 a r o c] [tI r, tI o] = some ⟨nState 0 a r o c, [tI9 r, tI9 o], [none, none]⟩ := by
  (refine fnI [ResultVar.cell 2 175] Tryz.func181 ?_; conv => whnf)
  repeat' ((with_reducible (first | refine sCall.of (ok_Clone_int _ _ h1) ?_|refine sCall.of (ok_Clone_int _ _ h2) ?_|refine st3 ?_|refine fG.split (fun _ => ?_) (fun _ => ?_)|refine fG.bool (fun _ => ?_) (fun _ => ?_)|refine gD 1 [(2, 4)] ?_)) <;> (try (conv => whnf)))
theorem ok_impl_faulted (k : Nat) (a : Int) (r o : List Int) (c : Int) (h1 : r.length ≤ 100000000000) (h2 : o.length ≤ 100000000000) : callE PR C (k + 3) 289 [aState 0 a r o c] [tI r, tI o] = some ⟨nState 0 a r o 2, [tI9 r, tI9 o], [none, none]⟩ := by
  (refine fnI [ResultVar.cell 2 175] Tryz.func289 ?_; conv => whnf)
  repeat' ((with_reducible (first | refine sCall.of (ok_impl_cloneState _ _ _ _ _ h1 h2) ?_|refine st3 ?_|refine fG.split (fun _ => ?_) (fun _ => ?_)|refine fG.bool (fun _ => ?_) (fun _ => ?_))) <;> (try (conv => whnf)))

end Go.Proofs.YtipfcgbhaalcdaaGreat.Abs
namespace Go.Proofs.YtipfcgbhaalcdaaGreat.Abs
open Go Go.Proofs
set_option linter.unusedVariables false
set_option linter.unusedSimpArgs false
attribute [local irreducible] callE
set_option maxHeartbeats 4000000 in
theorem ok_impl_did (k : Nat) (l : List Ins) (a : Int) (r o : List Int) (c : Int) (e : Event) (hl : l.length ≤ 100000000000) (hs : SOk l.length ⟨a, r, o, c⟩) (hi : IOk l.length (rd l a.toNat)) :
    callE PR C (k + 4) 240 [hIns 0 l, aState 1 a r o c, aEvent e] [tIns l, tI r, tI o] = some ⟨nSt 0 (did l ⟨a, r, o, c⟩ e), [tI9 (did l ⟨a, r, o, c⟩ e).regs, tI9 (did l ⟨a, r, o, c⟩ e).out], [none, none, none]⟩ := by
  have h0 : 0 ≤ a := hs.at0
  have h1 : a < l.length := hs.at1
  have h2 : r.length = 4 := hs.regs
  have h3 : o.length ≤ 60 := hs.out
  have ha := hi.a
  have hb := hi.b
  have hr := hi.r
  have q1 : r.length ≤ 100000000000 := by omega
  have q2 : o.length ≤ 100000000000 := by omega
  (refine fnI [ResultVar.cell 6 175] Tryz.func240 ?_; conv => whnf)
  repeat' ((with_reducible (first | refine sCall.of (ok_impl_numOk _ _) ?_|refine sCall.of (ok_impl_cloneState _ _ _ _ _ q1 q2) ?_|refine sCall.of (ok_impl_faulted _ _ _ _ _ q1 q2) ?_|refine sCall.of (ok_impl_reckoned _ _ _ h2 ha hb hs.nums) ?_|refine sCall.of (ok_impl_goesOn _ _ _ _ _ _ _ hl) ?_|refine st3 ?_|refine fG.split (fun _ => ?_) (fun _ => ?_)|refine fG.bool (fun _ => ?_) (fun _ => ?_))) <;> (try (conv => whnf)))
  all_goals first | (simp only [did, goesOn_regs, goesOn_out, List.length_set, List.length_append, List.length_cons, List.length_nil, *, decide_true, decide_false, decide_not, Bool.and_assoc, Bool.or_assoc, Bool.true_and, Bool.false_and, Bool.and_true, Bool.and_false, Bool.true_or, Bool.false_or, Bool.or_true, Bool.or_false, Bool.not_true, Bool.not_false, Bool.not_not, if_true, if_false, reduceIte, true_and, and_true, false_and, and_false, true_or, or_true, or_false, false_or, and_self, or_self, not_true_eq_false, not_false_eq_true, Int.reduceEq, Int.reduceNe, Int.reduceLT, Int.reduceLE, Int.reduceNeg, ↓reduceIte]; done) | (simp [did, goesOn_regs, goesOn_out, *]; done) | skip

theorem ok_spec_l2Fault (k : Nat) (a : Int) (r o : List Int) (c : Int) : callE PR C (k + 1) 292 [aState 0 a r o c] [tI r, tI o] = some ⟨aState 0 a r o 2, [], [none, none]⟩ := by
  (refine fnI [ResultVar.cell 2 175] Tryz.func292 ?_; conv => whnf)
  repeat' ((with_reducible (first | refine st3 ?_|refine fG.split (fun _ => ?_) (fun _ => ?_)|refine fG.bool (fun _ => ?_) (fun _ => ?_))) <;> (try (conv => whnf)))
theorem ok_spec_l2Go (k : Nat) (l : List Ins) (a : Int) (r o : List Int) (c : Int) (hl : l.length ≤ 100000000000) (h0 : 0 ≤ a) (h1 : a < l.length) :
    callE PR C (k + 2) 291 [hIns 0 l, aState 1 a r o c] [tIns l, tI r, tI o] = some ⟨aState 1 (goesOn l.length ⟨a, r, o, c⟩ (a + 1)).at_ r o (goesOn l.length ⟨a, r, o, c⟩ (a + 1)).code, [], [none, none, none]⟩ := by
  (refine fnI [ResultVar.cell 4 175] Tryz.func291 ?_; conv => whnf)
  repeat' ((with_reducible (first | refine sCall.of (ok_spec_l2Fault _ _ _ _ _) ?_|refine st3 ?_|refine fG.split (fun _ => ?_) (fun _ => ?_)|refine fG.bool (fun _ => ?_) (fun _ => ?_))) <;> (try (conv => whnf)))
  case refine_1 h =>
    have e : ¬ (0 ≤ a + 1 ∧ a + 1 ≤ (l.length : Int) - 1) := by omega
    simp only [goesOn, e, if_false]
  case refine_2 h =>
    have e : (0 ≤ a + 1 ∧ a + 1 ≤ (l.length : Int) - 1) := by omega
    simp only [goesOn, e, if_true, and_self]
theorem ok_spec_l2Copy (k : Nat) (a : Int) (r o : List Int) (c : Int) (h1 : r.length ≤ 100000000000) (h2 : o.length ≤ 100000000000) : callE PR C (k + 1) 187 [aState 0 a r o c] [tI r, tI o] = some ⟨nState 0 a r o c, [tI9 r, tI9 o], [none, none]⟩ := by
  (refine fnI [ResultVar.cell 2 175] Tryz.func187 ?_; conv => whnf)
  repeat' ((with_reducible (first | refine st3 ?_|refine fG.split (fun _ => ?_) (fun _ => ?_)|refine fG.bool (fun _ => ?_) (fun _ => ?_))) <;> (try (conv => whnf)))
set_option maxHeartbeats 4000000 in
theorem ok_spec_l2Local (k : Nat) (l : List Ins) (a : Int) (r o : List Int) (c : Int) (hl : l.length ≤ 100000000000) (hs : SOk l.length ⟨a, r, o, c⟩) (hi : IOk l.length (rd l a.toNat)) (hop : ¬ ((rd l a.toNat).op = 6 ∨ (rd l a.toNat).op = 7 ∨ (rd l a.toNat).op = 8)) (e : Event) :
    callE PR C (k + 3) 293 [hIns 0 l, aState 1 a r o c] [tIns l, tI9 r, tI o] = some ⟨.ag [i64 (did l ⟨a, r, o, c⟩ e).at_, .h 2000000 1 0 [] 1 0 (did l ⟨a, r, o, c⟩ e).regs.length, .h 1000002 0 0 [] 1 0 o.length, i64 (did l ⟨a, r, o, c⟩ e).code], [tI9 (did l ⟨a, r, o, c⟩ e).regs], [none, some .dead, none]⟩ := by
  have h0 : 0 ≤ a := hs.at0
  have h1 : a < l.length := hs.at1
  have h2 : r.length = 4 := hs.regs
  have h3 : o.length ≤ 60 := hs.out
  have ha := hi.a
  have hb := hi.b
  have hr := hi.r
  have hj := hi.jump
  have hopr := hi.op
  have n1 := hs.nums (rd l a.toNat).a.toNat (by omega)
  have n2 := hs.nums (rd l a.toNat).b.toNat (by omega)
  simp only at n1 n2
  have hm := mul_rng n1 n2
  have q1 : r.length ≤ 100000000000 := by omega
  have q2 : o.length ≤ 100000000000 := by omega
  (refine fnI [ResultVar.cell 4 175] Tryz.func293 ?_; conv => whnf)
  repeat' ((with_reducible (first | refine sCall.of (ok_spec_l1Num _ _) ?_|refine sCall.of (ok_spec_l2Fault _ _ _ _ _) ?_|refine sCall.of (ok_spec_l2Go _ _ _ _ _ _ hl h0 h1) ?_|refine st3 ?_|refine fG.split (fun _ => ?_) (fun _ => ?_)|refine fG.bool (fun _ => ?_) (fun _ => ?_)|refine gDn 2 ?_)) <;> (try (conv => whnf)))
  all_goals
    have hj9 : (rd l a.toNat).op = 9 ∨ (rd l a.toNat).op = 10 → goesOn l.length ⟨a, r, o, c⟩ (rd l a.toNat).n = ⟨(rd l a.toNat).n, r, o, c⟩ := by
      intro h
      have := hj h
      unfold goesOn
      rw [if_pos ⟨this.1, by omega⟩]
  all_goals have hj9' := fun h => hj9 (.inl h)
  all_goals have hj10' := fun h => hj9 (.inr h)
  all_goals try (have h5 : (rd l a.toNat).op = 5 := by omega)
  all_goals clear hj9 hj hop hopr hs hi
  all_goals first | (simp only [did, reckoned, numOk, decide_eq_true_eq, goesOn_regs, goesOn_out, List.length_set, List.length_append, List.length_cons, List.length_nil, *, decide_true, decide_false, decide_not, Bool.and_assoc, Bool.or_assoc, Bool.true_and, Bool.false_and, Bool.and_true, Bool.and_false, Bool.true_or, Bool.false_or, Bool.or_true, Bool.or_false, Bool.not_true, Bool.not_false, Bool.not_not, if_true, if_false, reduceIte, true_and, and_true, false_and, and_false, true_or, or_true, or_false, false_or, and_self, or_self, not_true_eq_false, not_false_eq_true, Int.reduceEq, Int.reduceNe, Int.reduceLT, Int.reduceLE, Int.reduceNeg, ↓reduceIte]; done) | (simp [did, reckoned, numOk, goesOn_regs, goesOn_out, *]; done) | skip
theorem did_out {l : List Ins} {s : State} {e : Event} (h : ¬ (rd l s.at_.toNat).op = 8) : (did l s e).out = s.out := by
  unfold did
  simp only [h, if_false]
  repeat' split
  all_goals simp only [goesOn_out]
theorem comes_take {e : Event} {n : Int} : comes e ⟨3, n, 0⟩ = true ↔ e.kind = 3 ∧ (-1000000000 ≤ e.v ∧ e.v ≤ 1000000000) ∧ (e.peer = n ∧ ¬ n = 9 ∨ n = 9 ∧ 0 ≤ e.peer ∧ e.peer ≤ 3) := by
  unfold comes
  by_cases h : e.kind = 3
  · simp [h, numOk, inB]
  · have : ¬ e = ⟨3, n, 0⟩ := fun h2 => h (by rw [h2])
    simp [h, this]
theorem comes_other {e w : Event} (h : ¬ w.kind = 3) : comes e w = (decide (e.kind = w.kind) && (decide (e.peer = w.peer) && (decide (e.v = w.v) && true))) := by
  simp only [comes, h, false_and, if_false, event_eq, Bool.and_true]
def doRes (l : List Ins) (a : Int) (r o : List Int) (c : Int) (e : Event) : Res :=
  if comes e (next l ⟨a, r, o, c⟩) = true then ⟨.tu [nSt 0 (did l ⟨a, r, o, c⟩ e), bl true], [tI9 (did l ⟨a, r, o, c⟩ e).regs, tI9 (did l ⟨a, r, o, c⟩ e).out], [none, none, none]⟩ else ⟨.tu [nState 0 a r o c, bl false], [tI9 r, tI9 o], [none, none, none]⟩
theorem doRes_true {l : List Ins} {a : Int} {r o : List Int} {c : Int} {e : Event} (h : comes e (next l ⟨a, r, o, c⟩) = true) : doRes l a r o c e = ⟨.tu [nSt 0 (did l ⟨a, r, o, c⟩ e), bl true], [tI9 (did l ⟨a, r, o, c⟩ e).regs, tI9 (did l ⟨a, r, o, c⟩ e).out], [none, none, none]⟩ := by simp only [doRes, h, if_true]
theorem doRes_false {l : List Ins} {a : Int} {r o : List Int} {c : Int} {e : Event} (h : comes e (next l ⟨a, r, o, c⟩) = false) : doRes l a r o c e = ⟨.tu [nState 0 a r o c, bl false], [tI9 r, tI9 o], [none, none, none]⟩ := by simp only [doRes, h, Bool.false_eq_true, if_false]
set_option maxHeartbeats 4000000 in
theorem ok_spec_l2Do (k : Nat) (l : List Ins) (a : Int) (r o : List Int) (c : Int) (e : Event) (hl : l.length ≤ 100000000000) (hs : SOk l.length ⟨a, r, o, c⟩) (hi : IOk l.length (rd l a.toNat)) :
    callE PR C (k + 4) 242 [hIns 0 l, aState 1 a r o c, aEvent e] [tIns l, tI r, tI o] = some (doRes l a r o c e) := by
  have h0 : 0 ≤ a := hs.at0
  have h1 : a < l.length := hs.at1
  have h2 : r.length = 4 := hs.regs
  have h3 : o.length ≤ 60 := hs.out
  have hr := hi.r
  have hop := hi.op
  have htk : ¬ (rd l a.toNat).op = 7 ∨ (0 ≤ (rd l a.toNat).n ∧ (rd l a.toNat).n ≤ 3) ∨ (rd l a.toNat).n = 9 := by
    by_cases h7 : (rd l a.toNat).op = 7
    · exact .inr (hi.take h7)
    · exact .inl h7
  have q1 : r.length ≤ 100000000000 := by omega
  have q2 : o.length ≤ 100000000000 := by omega
  have hq := fun k => ok_spec_l2Next k l a r o c hl hs hi
  have hcase : ((rd l a.toNat).op = 6 ∧ next l ⟨a, r, o, c⟩ = ⟨2, (rd l a.toNat).n, rd r (rd l a.toNat).a.toNat⟩) ∨ ((rd l a.toNat).op = 7 ∧ next l ⟨a, r, o, c⟩ = ⟨3, (rd l a.toNat).n, 0⟩) ∨ ((rd l a.toNat).op = 8 ∧ next l ⟨a, r, o, c⟩ = ⟨4, 0, rd r (rd l a.toNat).a.toNat⟩) ∨ (¬ ((rd l a.toNat).op = 6 ∨ (rd l a.toNat).op = 7 ∨ (rd l a.toNat).op = 8) ∧ next l ⟨a, r, o, c⟩ = ⟨1, 0, 0⟩) := by
    by_cases h6 : (rd l a.toNat).op = 6
    · left; simp [next, h6]
    · by_cases h7 : (rd l a.toNat).op = 7
      · right; left; simp [next, h7]
      · by_cases h8 : (rd l a.toNat).op = 8
        · right; right; left; simp [next, h8]
        · right; right; right; simp [next, h6, h7, h8]
  rcases hcase with ⟨h6, hn⟩ | ⟨h6, hn⟩ | ⟨h6, hn⟩ | ⟨h6, hn⟩
  all_goals simp only [hn] at hq
  all_goals (refine fnI [ResultVar.cell 6 175, ResultVar.tmp 7] Tryz.func242 ?_; conv => whnf)
  all_goals repeat' ((with_reducible (first | refine sCall.of (hq _) ?_|refine sCall.of (ok_spec_l2Copy _ _ _ _ _ q1 q2) ?_|refine sCall.of (ok_spec_l1Num _ _) ?_|refine sCall.of (ok_spec_l1In _ _ _ _) ?_|refine sCall.of (ok_spec_l2Fault _ _ _ _ _) ?_|refine sCall.of (ok_spec_l2Go _ _ _ _ _ _ hl h0 h1) ?_|refine sCall.of (ok_spec_l2Local _ _ _ _ _ _ hl hs hi h6 e) ?_|refine st3 ?_|refine fG.split (fun _ => ?_) (fun _ => ?_)|refine fG.bool (fun _ => ?_) (fun _ => ?_)|refine gDn 6 ?_)) <;> (try (conv => whnf)))
  all_goals clear hq
  all_goals (try dsimp only at *)
  all_goals first
    | (exfalso; omega)
    | (rw [doRes_true (by rw [hn]; first | exact comes_take.2 (by omega) | (rw [comes_other (by simp)]; assumption))])
    | (rw [doRes_false (by rw [hn]; first | (rw [comes_other (by simp)]; assumption) | exact Bool.eq_false_iff.2 (fun h => by have := comes_take.1 h; omega))])
    | skip
  all_goals first | (simp only [did, goesOn_regs, goesOn_out, List.length_set, List.length_append, List.length_cons, List.length_nil, *, decide_true, decide_false, decide_not, Bool.and_assoc, Bool.or_assoc, Bool.true_and, Bool.false_and, Bool.and_true, Bool.and_false, Bool.true_or, Bool.false_or, Bool.or_true, Bool.or_false, Bool.not_true, Bool.not_false, Bool.not_not, if_true, if_false, reduceIte, true_and, and_true, false_and, and_false, true_or, or_true, or_false, false_or, and_self, or_self, not_true_eq_false, not_false_eq_true, Int.reduceEq, Int.reduceNe, Int.reduceLT, Int.reduceLE, Int.reduceNeg, ↓reduceIte]; done) | (simp [did, goesOn_regs, goesOn_out, *]; done) | skip
  case inr.inr.inl.refine_1.refine_2 =>
    have h60 : ¬ (60 : Int) ≤ (o.length : Int) := by omega
    simp [did, goesOn_regs, goesOn_out, h6, h60]
  case inr.inr.inr.refine_1 =>
    have := did_out (l := l) (s := ⟨a, r, o, c⟩) (e := e) (fun h => h6 (.inr (.inr h)))
    simp only at this
    simp [this]

end Go.Proofs.YtipfcgbhaalcdaaGreat.Abs
namespace Go.Proofs.YtipfcgbhaalcdaaGreat.Abs
open Go Go.Proofs
set_option linter.unusedVariables false
set_option linter.unusedSimpArgs false
attribute [local irreducible] callE
def newState : State := ⟨0, List.replicate 4 0, [], 0⟩
theorem ok_impl_StateNew (k : Nat) : callE PR C (k + 1) 272 [] [] = some ⟨nState 0 0 (List.replicate 4 0) [] 0, [tI9 (List.replicate 4 0), tI9 []], []⟩ := by
  (refine fnI [ResultVar.cell 0 175] Tryz.func272 ?_; conv => whnf)
  repeat' ((with_reducible (first | refine st3 ?_|refine fG.split (fun _ => ?_) (fun _ => ?_)|refine fG.bool (fun _ => ?_) (fun _ => ?_))) <;> (try (conv => whnf)))
  first | rfl | skip
theorem ok_spec_StateNew (k : Nat) : callE PR C (k + 1) 247 [] [] = some ⟨nState 0 0 (List.replicate 4 0) [] 0, [tI9 (List.replicate 4 0), tI9 []], []⟩ := by
  (refine fnI [ResultVar.cell 0 175] Tryz.func247 ?_; conv => whnf)
  repeat' ((with_reducible (first | refine st3 ?_|refine fG.split (fun _ => ?_) (fun _ => ?_)|refine fG.bool (fun _ => ?_) (fun _ => ?_))) <;> (try (conv => whnf)))
  first | rfl | skip
def replay (l : List Ins) : State → List Event → Option State
  | s, [] => some s
  | s, e :: es => if s.code = 0 ∧ comes e (next l s) = true then replay l (did l s e) es else none
theorem did_ok {l : List Ins} {s : State} {e : Event} (hs : SOk l.length s) (hi : IOk l.length (rd l s.at_.toNat)) (hc : comes e (next l s) = true) : SOk l.length (did l s e) := by
  have hg : ∀ (s' : State) (x : Int), 0 ≤ s'.at_ → s'.at_ < l.length → s'.regs.length = 4 → s'.out.length ≤ 60 → (∀ i, i < 4 → -1000000000 ≤ rd s'.regs i ∧ rd s'.regs i ≤ 1000000000) → SOk l.length (goesOn l.length s' x) := by
    intro s' x h1 h2 h3 h4 h5
    unfold goesOn
    split
    · rename_i h; exact ⟨h.1, by show x < (l.length : Int); omega, h3, h4, h5⟩
    · exact ⟨h1, h2, h3, h4, h5⟩
  have hset : ∀ (j : Int) (v : Int), 0 ≤ j ∧ j ≤ 3 → -1000000000 ≤ v ∧ v ≤ 1000000000 → ∀ i, i < 4 → -1000000000 ≤ rd (s.regs.set j.toNat v) i ∧ rd (s.regs.set j.toNat v) i ≤ 1000000000 := by
    intro j v hj hv i hi
    have := hs.nums i hi
    have h4 := hs.regs
    simp only [rd, List.getD_eq_getElem?_getD, List.getElem?_set] at this ⊢
    split
    · rename_i e; subst e
      rw [if_pos (by omega)]; exact hv
    · exact this
  unfold did
  split
  · split
    · rename_i hn
      simp only [numOk, decide_eq_true_eq] at hn
      exact hg _ _ hs.at0 hs.at1 (by simp [hs.regs]) hs.out (hset _ _ hi.r hn)
    · exact ⟨hs.at0, hs.at1, hs.regs, hs.out, hs.nums⟩
  · rename_i h15
    split
    · rename_i h7
      have hn : next l s = ⟨3, (rd l s.at_.toNat).n, 0⟩ := by simp [next, h7]
      rw [hn, comes_take] at hc
      exact hg _ _ hs.at0 hs.at1 (by simp [hs.regs]) hs.out (hset _ _ hi.r hc.2.1)
    · split
      · split
        · exact ⟨hs.at0, hs.at1, hs.regs, hs.out, hs.nums⟩
        · exact hg _ _ hs.at0 hs.at1 hs.regs (by simp; omega) hs.nums
      · split
        · exact hg _ _ hs.at0 hs.at1 hs.regs hs.out hs.nums
        · split
          · split <;> exact hg _ _ hs.at0 hs.at1 hs.regs hs.out hs.nums
          · split
            · exact ⟨hs.at0, hs.at1, hs.regs, hs.out, hs.nums⟩
            · exact hg _ _ hs.at0 hs.at1 hs.regs hs.out hs.nums
theorem newState_ok {l : List Ins} (h : 1 ≤ l.length) : SOk l.length newState := by
  refine ⟨by simp [newState], by simp [newState]; omega, by simp [newState], by simp [newState], fun i hi => ?_⟩
  have : rd newState.regs i = 0 := by
    rcases i with _ | _ | _ | _ | i
    · rfl
    · rfl
    · rfl
    · rfl
    · omega
  rw [this]; omega
def replayedRes (l : List Ins) (a : Int) (r o : List Int) (c : Int) (es : List Event) : Res :=
  match replay l ⟨a, r, o, c⟩ es with
  | none => ⟨.tu [nState 0 0 [] [] 0, bl false], [tI9 [], tI9 []], [none, none, none, none]⟩
  | some s => if es.length = 0 then ⟨.tu [aState 1 a r o c, bl true], [], [none, none, none, none]⟩ else ⟨.tu [nSt 0 s, bl true], [tI9 s.regs, tI9 s.out], [none, none, none, none]⟩
structure RI where
  i : Nat
  s : State
  f : Bool
  b1 : Nat
  b2 : Nat
  d : Bool
theorem replay_step {l : List Ins} {s : State} {es : List Event} {i : Nat} {x : Option State} (hi : i < es.length) (h : x = replay l s (es.drop i)) (hc : s.code = 0) (hk : comes (rd es i) (next l s) = true) : x = replay l (did l s (rd es i)) (es.drop (i + 1)) := by
  rw [h, drop_rd hi, replay, if_pos ⟨hc, hk⟩]
set_option maxHeartbeats 4000000 in
theorem ok_impl_replayed (k : Nat) (l : List Ins) (a : Int) (r o : List Int) (c : Int) (es : List Event) (hl : l.length ≤ 100000000000) (he : es.length ≤ 100000000000) (hs : SOk l.length ⟨a, r, o, c⟩) (hi : ∀ i, i < l.length → IOk l.length (rd l i)) :
    callE PR C (k + 5) 271 [hIns 0 l, aState 1 a r o c, hEvent 3 es] [tIns l, tI r, tI o, tEvent es] = some (replayedRes l a r o c es) := by
  (refine fnI [ResultVar.cell 6 175, ResultVar.tmp 7] Tryz.func271 ?_; conv => whnf)
  refine loop_rule (ι := RI) (fun x => [(0, hIns 0 l), (4, .pt 4 1 0 [] 0 0), (6, .pt 6 1 0 [] 0 0), (10, hEvent 3 es), (11, i64 es.length), (12, i64 x.i)])
    (fun x => [(1000000, ⟨0, 0, false, tIns l⟩), (1000003, ⟨0, 0, false, tEvent es⟩), (4, ⟨1, 0, x.d, .box [i64 x.s.at_, .h (bif x.f then 1000001 else 10031) x.b1 0 [] 1 0 x.s.regs.length, .h (bif x.f then 1000002 else 20031) x.b2 0 [] 1 0 x.s.out.length, i64 x.s.code]⟩),
      (6, ⟨1, 0, false, .box [i64 0, .nl 1, .nl 1, i64 0]⟩), ((bif x.f then 1000001 else 10031), ⟨x.b1, 0, false, .tree (bif x.f then 0 else 9) (.sl 1 (x.s.regs.map rI))⟩), ((bif x.f then 1000002 else 20031), ⟨x.b2, 0, false, .tree (bif x.f then 0 else 9) (.sl 1 (x.s.out.map rI))⟩)])
    (fun x => es.length - x.i) (fun x => x.i ≤ es.length ∧ SOk l.length x.s ∧ replay l ⟨a, r, o, c⟩ es = replay l x.s (es.drop x.i) ∧ (x.f = true → x.i = 0 ∧ x.s = ⟨a, r, o, c⟩ ∧ x.b1 = 0 ∧ x.b2 = 0) ∧ (x.f = false → 0 < x.i))
    ⟨0, ⟨a, r, o, c⟩, true, 0, 0, false⟩ fitOk ⟨by simp, hs, by simp, by simp, by simp⟩ (by simp [C]; omega) ?_
  rintro ⟨i, s, f, b1, b2, d⟩ sl ob ⟨hi1, hs1, hrep, hf1, hf2⟩
  dsimp only at hi1 hs1 hrep hf1 hf2
  have hat0 := hs1.at0
  have hat1 := hs1.at1
  have hi2 := hi s.at_.toNat (by omega)
  cases f
  case' true => obtain ⟨rfl, rfl, rfl, rfl⟩ := hf1 rfl
  all_goals (try dsimp only [cond_true, cond_false])
  all_goals (conv => whnf)
  all_goals repeat' ((with_reducible (first | refine sCall.of (ok_impl_next _ _ _ _ _ _ hl hs1 hi2) ?_|refine sCall.of (ok_impl_comes _ _ _) ?_|refine sCall.of (ok_impl_did _ _ _ _ _ _ _ hl hs1 hi2) ?_|refine st3 ?_|refine fG.split (fun _ => ?_) (fun _ => ?_)|refine fG.bool (fun _ => ?_) (fun _ => ?_)|refine gD 4 [(4, 7)] ?_)) <;> (try (conv => whnf)))
  case' true.refine_1.refine_1.refine_1 h hc hk =>
    refine ⟨⟨⟨1, did l ⟨a, r, o, c⟩ (rd es 0), false, _, _, true⟩, fitOk, ?_, ?_⟩⟩
    · exact ⟨by show 1 ≤ es.length; omega, did_ok hs1 hi2 hk, replay_step (i := 0) (by omega) hrep hc hk, by simp, by simp⟩
    · show es.length - 1 < es.length - 0; omega
  case' false.refine_1.refine_1.refine_1 h hc hk =>
    refine ⟨⟨⟨i + 1, did l s (rd es i), false, _, _, true⟩, fitOk, ?_, ?_⟩⟩
    · exact ⟨by show i + 1 ≤ es.length; omega, did_ok hs1 hi2 hk, replay_step (by omega) hrep hc hk, by simp, by simp⟩
    · show es.length - (i + 1) < es.length - i; omega
  case true.refine_1.refine_1.refine_2 h hc hk =>
    rw [drop_rd (by omega : 0 < es.length), replay, if_neg (fun h2 => by have h3 := h2.2; rw [show comes (rd es 0) (next l ⟨a, r, o, c⟩) = false from hk] at h3; cases h3)] at hrep
    rw [replayedRes, hrep]
    rfl
  case true.refine_1.refine_2 h hc =>
    rw [drop_rd (by omega : 0 < es.length), replay, if_neg (fun h2 => hc h2.1)] at hrep
    rw [replayedRes, hrep]
    rfl
  case false.refine_1.refine_1.refine_2 h hc hk =>
    rw [drop_rd (by omega : i < es.length), replay, if_neg (fun h2 => by have h3 := h2.2; rw [show comes (rd es i) (next l s) = false from hk] at h3; cases h3)] at hrep
    rw [replayedRes, hrep]
    rfl
  case false.refine_1.refine_2 h hc =>
    rw [drop_rd (by omega : i < es.length), replay, if_neg (fun h2 => hc h2.1)] at hrep
    rw [replayedRes, hrep]
    rfl
  case true.refine_2 h =>
    have e : es.length = 0 := by omega
    rw [List.drop_eq_nil_of_le (by omega), replay] at hrep
    rw [replayedRes, hrep]
    simp [e]
  case false.refine_2 h =>
    have hp := hf2 rfl
    have e : ¬ es.length = 0 := by omega
    rw [List.drop_eq_nil_of_le (by omega), replay] at hrep
    rw [replayedRes, hrep]
    simp only [e, if_false]

set_option maxHeartbeats 4000000 in
theorem ok_spec_l3Replay (k : Nat) (l : List Ins) (es : List Event) (hl : l.length ≤ 100000000000) (hl1 : 1 ≤ l.length) (he : es.length ≤ 100000000000) (hi : ∀ i, i < l.length → IOk l.length (rd l i)) :
    callE PR C (k + 5) 262 [hIns 0 l, hEvent 1 es] [tIns l, tEvent es] = some (match replay l newState es with
      | none => ⟨.tu [nState 0 0 [] [] 0, bl false], [tI9 [], tI9 []], [none, none]⟩
      | some s => ⟨.tu [nSt 0 s, bl true], [tI9 s.regs, tI9 s.out], [none, none]⟩) := by
  (refine fnI [ResultVar.cell 4 175, ResultVar.tmp 5] Tryz.func262 ?_; conv => whnf)
  repeat' ((with_reducible (first | refine sCall.of (ok_spec_StateNew _) ?_|refine st3 ?_|refine fG.split (fun _ => ?_) (fun _ => ?_)|refine fG.bool (fun _ => ?_) (fun _ => ?_)|refine gD 7 [(1, 10), (5, 10), (6, 10)] ?_)) <;> (try (conv => whnf)))
  refine loop_rule (ι := RI) (fun x => [(0, hIns 0 l), (1, hEvent 1 es), (4, .pt 4 1 0 [] 0 0), (6, .pt 6 1 0 [] 0 0), (7, i64 x.i)])
    (fun x => [(1000000, ⟨0, 0, false, tIns l⟩), (1000001, ⟨0, 0, false, tEvent es⟩), (6, ⟨1, 0, true, .box [i64 x.s.at_, .h (bif x.f then 10010 else 10028) x.b1 0 [] 1 0 x.s.regs.length, .h (bif x.f then 20010 else 20028) x.b2 0 [] 1 0 x.s.out.length, i64 x.s.code]⟩),
      (4, ⟨1, 0, false, .box [i64 0, .nl 1, .nl 1, i64 0]⟩), ((bif x.f then 10010 else 10028), ⟨x.b1, 0, false, tI9 x.s.regs⟩), ((bif x.f then 20010 else 20028), ⟨x.b2, 0, false, tI9 x.s.out⟩)])
    (fun x => es.length - x.i) (fun x => x.i ≤ es.length ∧ SOk l.length x.s ∧ replay l newState es = replay l x.s (es.drop x.i))
    ⟨0, newState, true, 1, 1, false⟩ fitOk ⟨by simp, newState_ok hl1, by simp⟩ (by simp [C]; omega) ?_
  rintro ⟨i, s, f, b1, b2, d⟩ sl ob ⟨hi1, hs1, hrep⟩
  dsimp only at hi1 hs1 hrep
  have hat0 := hs1.at0
  have hat1 := hs1.at1
  have hi2 := hi s.at_.toNat (by omega)
  have hdo := fun k e => ok_spec_l2Do k l s.at_ s.regs s.out s.code e hl hs1 hi2
  by_cases hlt : i < es.length
  · by_cases hc : s.code = 0
    · cases hk : comes (rd es i) (next l s) with
      | true =>
        have hd1 := fun k => hdo k (rd es i)
        simp only [doRes_true (show comes (rd es i) (next l ⟨s.at_, s.regs, s.out, s.code⟩) = true from hk)] at hd1
        cases f
        all_goals (try dsimp only [cond_true, cond_false])
        all_goals (conv => whnf)
        all_goals repeat' ((with_reducible (first | refine sCall.of (hd1 _) ?_|refine st3 ?_|refine fG.split (fun _ => ?_) (fun _ => ?_)|refine fG.bool (fun _ => ?_) (fun _ => ?_)|refine gD 7 [(1, 10), (5, 10), (6, 10)] ?_)) <;> (try (conv => whnf)))
        all_goals
          refine ⟨⟨⟨i + 1, did l s (rd es i), false, _, _, true⟩, fitOk, ?_, ?_⟩⟩
          · exact ⟨by show i + 1 ≤ es.length; omega, did_ok hs1 hi2 hk, replay_step (by omega) hrep hc hk⟩
          · show es.length - (i + 1) < es.length - i; omega
      | false =>
        have hd1 := fun k => hdo k (rd es i)
        simp only [doRes_false (show comes (rd es i) (next l ⟨s.at_, s.regs, s.out, s.code⟩) = false from hk)] at hd1
        have hn : replay l newState es = none := by rw [hrep, drop_rd hlt, replay, if_neg (fun h => by rw [hk] at h; cases h.2)]
        rw [hn]
        cases f
        all_goals (try dsimp only [cond_true, cond_false])
        all_goals (conv => whnf)
        all_goals repeat' ((with_reducible (first | refine sCall.of (hd1 _) ?_|refine st3 ?_|refine fG.split (fun _ => ?_) (fun _ => ?_)|refine fG.bool (fun _ => ?_) (fun _ => ?_)|refine gD 7 [(1, 10), (5, 10), (6, 10)] ?_)) <;> (try (conv => whnf)))
        all_goals rfl
    · have hn : replay l newState es = none := by rw [hrep, drop_rd hlt, replay, if_neg (fun h => hc h.1)]
      rw [hn]
      cases f
      all_goals (try dsimp only [cond_true, cond_false])
      all_goals (conv => whnf)
      all_goals repeat' ((with_reducible (first | refine st3 ?_|refine fG.split (fun _ => ?_) (fun _ => ?_)|refine fG.bool (fun _ => ?_) (fun _ => ?_)|refine gD 7 [(1, 10), (5, 10), (6, 10)] ?_)) <;> (try (conv => whnf)))
      all_goals rfl
  · have hn : replay l newState es = some s := by rw [hrep, List.drop_eq_nil_of_le (by omega), replay]
    rw [hn]
    cases f
    all_goals (try dsimp only [cond_true, cond_false])
    all_goals (conv => whnf)
    all_goals repeat' ((with_reducible (first | refine st3 ?_|refine fG.split (fun _ => ?_) (fun _ => ?_)|refine fG.bool (fun _ => ?_) (fun _ => ?_)|refine gD 7 [(1, 10), (5, 10), (6, 10)] ?_)) <;> (try (conv => whnf)))
    all_goals rfl

def replayAll (l : List Ins) (es : List Event) : Option State := if progOk l 4 = true ∧ es.length ≤ 200 then replay l newState es else none
def stateRes (x : Option State) (b : List (Option Cont)) : Res := match x with
  | none => ⟨.tu [nState 0 0 [] [] 0, bl false], [tI9 [], tI9 []], b⟩
  | some s => ⟨.tu [nSt 0 s, bl true], [tI9 s.regs, tI9 s.out], b⟩
theorem ok_spec_Replay (k : Nat) (l : List Ins) (es : List Event) (hl : l.length ≤ 100000000000) (he : es.length ≤ 100000000000) :
    callE PR C (k + 6) 175 [hIns 0 l, hEvent 1 es] [tIns l, tEvent es] = some (stateRes (replayAll l es) [none, none]) := by
  by_cases h1 : progOk l 4 = true
  · have hlen := progOk_len h1
    have hp := fun k => ok_spec_ProgOk k l 4 hl (by omega) (by omega)
    simp only [h1] at hp
    by_cases h2 : es.length ≤ 200
    · have hr := fun k => ok_spec_l3Replay k l es hl hlen.1 he (fun i hi => progOk_iok h1 hi)
      have e : replayAll l es = replay l newState es := by simp only [replayAll, h1, h2, and_self, if_true]
      rw [e]
      cases hx : replay l newState es with
      | none =>
        simp only [hx] at hr
        (refine fnI [ResultVar.cell 4 175, ResultVar.tmp 5] Tryz.func175 ?_; conv => whnf)
        repeat' ((with_reducible (first | refine sCall.of (hp _) ?_|refine sCall.of (hr _) ?_|refine st3 ?_|refine fG.split (fun _ => ?_) (fun _ => ?_)|refine fG.bool (fun _ => ?_) (fun _ => ?_))) <;> (try (conv => whnf)))
        rfl
      | some s =>
        simp only [hx] at hr
        (refine fnI [ResultVar.cell 4 175, ResultVar.tmp 5] Tryz.func175 ?_; conv => whnf)
        repeat' ((with_reducible (first | refine sCall.of (hp _) ?_|refine sCall.of (hr _) ?_|refine st3 ?_|refine fG.split (fun _ => ?_) (fun _ => ?_)|refine fG.bool (fun _ => ?_) (fun _ => ?_))) <;> (try (conv => whnf)))
        rfl
    · have e : replayAll l es = none := by simp only [replayAll, h2, and_false, if_false]
      rw [e]
      (refine fnI [ResultVar.cell 4 175, ResultVar.tmp 5] Tryz.func175 ?_; conv => whnf)
      repeat' ((with_reducible (first | refine sCall.of (hp _) ?_|refine st3 ?_|refine fG.split (fun _ => ?_) (fun _ => ?_)|refine fG.bool (fun _ => ?_) (fun _ => ?_))) <;> (try (conv => whnf)))
      rfl
  · have h1' : progOk l 4 = false := by simpa using h1
    have hp := fun k => ok_spec_ProgOk k l 4 hl (by omega) (by omega)
    simp only [h1'] at hp
    have e : replayAll l es = none := by simp only [replayAll, h1', Bool.false_eq_true, false_and, if_false]
    rw [e]
    (refine fnI [ResultVar.cell 4 175, ResultVar.tmp 5] Tryz.func175 ?_; conv => whnf)
    repeat' ((with_reducible (first | refine sCall.of (hp _) ?_|refine st3 ?_|refine fG.split (fun _ => ?_) (fun _ => ?_)|refine fG.bool (fun _ => ?_) (fun _ => ?_))) <;> (try (conv => whnf)))
    rfl
theorem replay_nil_or {l : List Ins} {s s' : State} {es : List Event} (h : replay l s es = some s') (he : es.length = 0) : s' = s := by
  have : es = [] := List.length_eq_zero_iff.1 he
  subst this
  simpa [replay] using h.symm
theorem ok_impl_Replay (k : Nat) (l : List Ins) (es : List Event) (hl : l.length ≤ 100000000000) (he : es.length ≤ 100000000000) :
    callE PR C (k + 9) 197 [hIns 0 l, hEvent 1 es] [tIns l, tEvent es] = some (stateRes (replayAll l es) [none, none]) := by
  by_cases h1 : progOk l 4 = true
  · have hlen := progOk_len h1
    have hp := fun k => ok_impl_ProgOk k l 4 hl (by omega) (by omega)
    simp only [h1] at hp
    by_cases h2 : es.length ≤ 200
    · have hr := fun k => ok_impl_replayed k l 0 (List.replicate 4 0) [] 0 es hl he (newState_ok hlen.1) (fun i hi => progOk_iok h1 hi)
      have e : replayAll l es = replay l newState es := by simp only [replayAll, h1, h2, and_self, if_true]
      rw [e]
      simp only [replayedRes] at hr
      have e2 : (⟨0, List.replicate 4 0, [], 0⟩ : State) = newState := rfl
      simp only [e2] at hr
      cases hx : replay l newState es with
      | none =>
        simp only [hx] at hr
        (refine fnI [ResultVar.cell 4 175, ResultVar.tmp 5] Tryz.func197 ?_; conv => whnf)
        repeat' ((with_reducible (first | refine sCall.of (hp _) ?_|refine sCall.of (ok_impl_StateNew _) ?_|refine sCall.of (hr _) ?_|refine st3 ?_|refine fG.split (fun _ => ?_) (fun _ => ?_)|refine fG.bool (fun _ => ?_) (fun _ => ?_))) <;> (try (conv => whnf)))
        rfl
      | some s =>
        simp only [hx] at hr
        by_cases h0 : es.length = 0
        · have := replay_nil_or hx h0
          subst this
          simp only [h0, if_true] at hr
          (refine fnI [ResultVar.cell 4 175, ResultVar.tmp 5] Tryz.func197 ?_; conv => whnf)
          repeat' ((with_reducible (first | refine sCall.of (hp _) ?_|refine sCall.of (ok_impl_StateNew _) ?_|refine sCall.of (hr _) ?_|refine st3 ?_|refine fG.split (fun _ => ?_) (fun _ => ?_)|refine fG.bool (fun _ => ?_) (fun _ => ?_))) <;> (try (conv => whnf)))
          rfl
        · simp only [h0, if_false] at hr
          (refine fnI [ResultVar.cell 4 175, ResultVar.tmp 5] Tryz.func197 ?_; conv => whnf)
          repeat' ((with_reducible (first | refine sCall.of (hp _) ?_|refine sCall.of (ok_impl_StateNew _) ?_|refine sCall.of (hr _) ?_|refine st3 ?_|refine fG.split (fun _ => ?_) (fun _ => ?_)|refine fG.bool (fun _ => ?_) (fun _ => ?_))) <;> (try (conv => whnf)))
          rfl
    · have e : replayAll l es = none := by simp only [replayAll, h2, and_false, if_false]
      rw [e]
      (refine fnI [ResultVar.cell 4 175, ResultVar.tmp 5] Tryz.func197 ?_; conv => whnf)
      repeat' ((with_reducible (first | refine sCall.of (hp _) ?_|refine st3 ?_|refine fG.split (fun _ => ?_) (fun _ => ?_)|refine fG.bool (fun _ => ?_) (fun _ => ?_))) <;> (try (conv => whnf)))
      rfl
  · have h1' : progOk l 4 = false := by simpa using h1
    have hp := fun k => ok_impl_ProgOk k l 4 hl (by omega) (by omega)
    simp only [h1'] at hp
    have e : replayAll l es = none := by simp only [replayAll, h1', Bool.false_eq_true, false_and, if_false]
    rw [e]
    (refine fnI [ResultVar.cell 4 175, ResultVar.tmp 5] Tryz.func197 ?_; conv => whnf)
    repeat' ((with_reducible (first | refine sCall.of (hp _) ?_|refine st3 ?_|refine fG.split (fun _ => ?_) (fun _ => ?_)|refine fG.bool (fun _ => ?_) (fun _ => ?_))) <;> (try (conv => whnf)))
    rfl
def stOf (x : Option State) : State := x.getD default
theorem stateRes_eq (x : Option State) (b : List (Option Cont)) : stateRes x b = ⟨.tu [nSt 0 (stOf x), bl x.isSome], [tI9 (stOf x).regs, tI9 (stOf x).out], b⟩ := by cases x <;> rfl
theorem ok_spec_Replay' (k : Nat) (l : List Ins) (es : List Event) (hl : l.length ≤ 100000000000) (he : es.length ≤ 100000000000) :
    callE PR C (k + 6) 175 [hIns 0 l, hEvent 1 es] [tIns l, tEvent es] = some ⟨.tu [nSt 0 (stOf (replayAll l es)), bl (replayAll l es).isSome], [tI9 (stOf (replayAll l es)).regs, tI9 (stOf (replayAll l es)).out], [none, none]⟩ := by rw [ok_spec_Replay k l es hl he, stateRes_eq]
theorem ok_impl_Replay' (k : Nat) (l : List Ins) (es : List Event) (hl : l.length ≤ 100000000000) (he : es.length ≤ 100000000000) :
    callE PR C (k + 9) 197 [hIns 0 l, hEvent 1 es] [tIns l, tEvent es] = some ⟨.tu [nSt 0 (stOf (replayAll l es)), bl (replayAll l es).isSome], [tI9 (stOf (replayAll l es)).regs, tI9 (stOf (replayAll l es)).out], [none, none]⟩ := by rw [ok_impl_Replay k l es hl he, stateRes_eq]

end Go.Proofs.YtipfcgbhaalcdaaGreat.Abs
namespace Go.Proofs.YtipfcgbhaalcdaaGreat.Abs
open Go Go.Proofs
set_option linter.unusedVariables false
set_option linter.unusedSimpArgs false
attribute [local irreducible] callE
structure Kept where
  n : Int
  s : State
deriving DecidableEq
instance : Inhabited Kept := ⟨⟨0, default⟩⟩
def rKept (x : Kept) : List T := [.v (.int .i64 x.n), .v (.int .i64 x.s.at_), .sl 1 (x.s.regs.map rI), .sl 1 (x.s.out.map rI), .v (.int .i64 x.s.code)]
theorem snoc_rKept (l : List Kept) (n a c : Int) (r o : List Int) : l.map rKept ++ [[.v (.int .i64 n), .v (.int .i64 a), .sl 1 (r.map rI), .sl 1 (o.map rI), .v (.int .i64 c)]] = (l ++ [(⟨n, ⟨a, r, o, c⟩⟩ : Kept)]).map rKept := by simp [rKept]
theorem full_rKept (x : Kept) : (rKept x).all (fun t => T.full 8 t) = true := by
  have h : ∀ l : List Int, T.full 8 (.sl 1 (l.map rI)) = true := fun l => full_map (fun _ => rfl) l
  simp only [rKept, List.all_cons, List.all_nil, h]
  rfl
theorem gRf1 {b : Bool} {A : Prop} (h : A) (e : b = true := by first | exact Nat.beq_refl _ | exact wide_map (fun _ => rfl) _ | exact full_map (fun _ => rfl) _ | exact full_map (fun x => full_rKept x) _ | rfl | (simp only [full_map, wide_map]; done)) : fB b A := fB.of e h
abbrev tKept9 (l : List Kept) : Cont := .tree 9 (.sl 5 (l.map rKept))
def keptAt (l : List Ins) (es : List Event) (j : Nat) : Kept := ⟨(8 * j : Nat), stOf (replayAll l (es.take (8 * j)))⟩
def keepAll (l : List Ins) (es : List Event) : List Kept := if (replayAll l es).isSome = true then (List.range (es.length / 8 + 1)).map (keptAt l es) else []
structure KI where
  j : Nat
  l : List Kept
  o : Nat
  b : Nat
def left (m n : Int) : Int := if m - n < 0 then -1 else m - n
theorem set_rIns (l : List Ins) (n : Nat) (a b c d e : Int) : (l.map rIns).set n [.v (.int .i64 a), .v (.int .i64 b), .v (.int .i64 c), .v (.int .i64 d), .v (.int .i64 e)] = (l.set n ⟨a, b, c, d, e⟩).map rIns := by simp [rIns, List.map_set]
theorem rep_rIns (n : Nat) (a b c d e : Int) : List.replicate n [T.v (.int .i64 a), .v (.int .i64 b), .v (.int .i64 c), .v (.int .i64 d), .v (.int .i64 e)] = (List.replicate n (⟨a, b, c, d, e⟩ : Ins)).map rIns := by simp [rIns]
theorem set_rEvent (l : List Event) (n : Nat) (a b c : Int) : (l.map rEvent).set n [.v (.int .i64 a), .v (.int .i64 b), .v (.int .i64 c)] = (l.set n ⟨a, b, c⟩).map rEvent := by simp [rEvent, List.map_set]
theorem rep_rEvent (n : Nat) (a b c : Int) : List.replicate n [T.v (.int .i64 a), .v (.int .i64 b), .v (.int .i64 c)] = (List.replicate n (⟨a, b, c⟩ : Event)).map rEvent := by simp [rEvent]
def fill {α : Type} [Inhabited α] (l : List α) (j : Nat) : List α := l.take j ++ List.replicate (l.length - j) default
theorem fill_set {α : Type} [Inhabited α] (l : List α) (j : Nat) (h : j < l.length) : (fill l j).set j (rd l j) = fill l (j + 1) := by
  apply List.ext_getElem?
  intro i
  simp only [fill, rd, List.getElem?_set, List.getElem?_append, List.length_take, List.getElem?_take, List.getElem?_replicate, List.length_append, List.length_replicate, List.getD]
  by_cases e : i = j
  · subst e
    have h1 : i < min i l.length + (l.length - i) := by omega
    have h2 : i < min (i + 1) l.length := by omega
    simp [h1, h2, h]
  · have e' : ¬ j = i := fun x => e x.symm
    simp only [e', if_false]
    by_cases h1 : i < min j l.length
    · have h2 : i < min (j + 1) l.length := by omega
      have h3 : i < j := by omega
      have h4 : i < j + 1 := by omega
      simp [h1, h2, h3, h4]
    · have h2 : ¬ i < min (j + 1) l.length := by omega
      simp only [h1, h2, if_false]
      congr 1
      simp only [eq_iff_iff]
      omega
theorem fill_len {α : Type} [Inhabited α] (l : List α) (j : Nat) : (fill l j).length = l.length := by simp [fill]; omega
theorem fill_zero {α : Type} [Inhabited α] (l : List α) : fill l 0 = List.replicate l.length default := by simp [fill]
theorem fill_all {α : Type} [Inhabited α] (l : List α) : fill l l.length = l := by simp [fill]
abbrev tIns9 (l : List Ins) : Cont := .tree 9 (.sl 5 (l.map rIns))
abbrev tEvent9 (l : List Event) : Cont := .tree 9 (.sl 3 (l.map rEvent))
structure TL (α : Type) where
  j : Nat
  l : List α
  g : Nat
  d : Bool
def marks {α : Type} (one : Int → α → α) (wt : α → Nat) : Int → List α → List α
  | _, [] => []
  | m, x :: r => one m x :: marks one wt (m + wt x) r
def wts {α : Type} (wt : α → Nat) : List α → Nat
  | [] => 0
  | x :: r => wt x + wts wt r
theorem wts_app {α : Type} (wt : α → Nat) (l m : List α) : wts wt (l ++ m) = wts wt l + wts wt m := by
  induction l with
  | nil => simp [wts]
  | cons x l ih => simp only [List.cons_append, wts, ih]; omega
theorem marks_len {α : Type} (one : Int → α → α) (wt : α → Nat) (l : List α) : ∀ m, (marks one wt m l).length = l.length := by
  induction l with
  | nil => intro m; rfl
  | cons x l ih => intro m; simp only [marks, List.length_cons, ih]
theorem take_rd {α : Type} [Inhabited α] {l : List α} {j : Nat} (h : j < l.length) : l.take (j + 1) = l.take j ++ [rd l j] := by
  rw [List.take_succ_eq_append_getElem h]; simp [rd, h]
def half {α : Type} (one : Int → α → α) (wt : α → Nat) (m : Int) (l : List α) (j : Nat) : List α := marks one wt m (l.take j) ++ l.drop j
theorem wts_take {α : Type} [Inhabited α] (wt : α → Nat) (l : List α) (j : Nat) (h : j < l.length) : wts wt (l.take (j + 1)) = wts wt (l.take j) + wt (rd l j) := by
  rw [take_rd h, wts_app]; simp [wts]
theorem wts_le {α : Type} (wt : α → Nat) (l : List α) (j : Nat) : wts wt (l.take j) ≤ wts wt l := by
  have := wts_app wt (l.take j) (l.drop j)
  rw [List.take_append_drop] at this
  omega
structure TM (α : Type) where
  j : Nat
  m : Int
  l : List α
  g : Nat
  d : Bool
abbrev tI8 (l : List Int) : Cont := .tree 8 (.sl 1 (l.map rI))
def mInt (m : Int) (x : Int) : Int := m
def wInt (x : Int) : Nat := 1
abbrev marksI (m : Int) (l : List Int) : List Int := marks mInt wInt m l
def mIns (m : Int) (x : Ins) : Ins := ⟨m, m + 1, m + 1 + 1, m + 1 + 1 + 1, m + 1 + 1 + 1 + 1⟩
def wIns (x : Ins) : Nat := 5
def mEvent (m : Int) (x : Event) : Event := ⟨m, m + 1, m + 1 + 1⟩
def wEvent (x : Event) : Nat := 3
abbrev hKept (j : Nat) (l : List Kept) : AV := .h (1000000 + j) 0 0 [] 5 0 l.length
abbrev tKept (l : List Kept) : Cont := .tree 0 (.sl 5 (l.map rKept))
theorem set_rKept (l : List Kept) (n : Nat) (a b c : Int) (r o : List Int) : (l.map rKept).set n [.v (.int .i64 a), .v (.int .i64 b), .sl 1 (r.map rI), .sl 1 (o.map rI), .v (.int .i64 c)] = (l.set n ⟨a, b, r, o, c⟩).map rKept := by simp [rKept, List.map_set]
def mKept (m : Int) (x : Kept) : Kept := ⟨m, m + 1, marksI (m + 1 + 1) x.s.regs, marksI (m + 1 + 1 + x.s.regs.length) x.s.out, m + 1 + 1 + x.s.regs.length + x.s.out.length⟩
def wKept (x : Kept) : Nat := 3 + x.s.regs.length + x.s.out.length
structure TH where
  j : Nat
  m : Int
theorem marks_take {α : Type} (one : Int → α → α) (wt : α → Nat) (m : Int) (l : List α) : (marks one wt m l).take l.length = marks one wt m l := List.take_of_length_le (by rw [marks_len]; exact Nat.le_refl _)
theorem rep_rKept (n : Nat) : List.replicate n [T.v (.int .i64 0), .v (.int .i64 0), .sl 1 [], .sl 1 [], .v (.int .i64 0)] = (List.replicate n (default : Kept)).map rKept := by simp [rKept, default, instInhabitedKept, instInhabitedState]
theorem gI9 {p A : Prop} (h : A) (e : p := by first | with_reducible assumption | omega | (simp only [Nat.zero_add, Nat.add_zero, Nat.sub_zero, Int.toNat_natCast, Int.toNat_zero, Int.toNat_one, List.length_map, List.length_nil, Int.reduceToNat, Nat.reduceAdd, Nat.reduceSub, Int.sub_zero, Int.reduceAdd, Int.reduceSub, Nat.sub_self, Int.toNat_natCast_add_one, marks_len, bs_len, List.length_append, List.length_cons, List.length_set, List.length_replicate, List.length_range]; first | done | omega)) : sI p A := sI.mk e h
theorem gNum9 {r r' : Nat} {F : Nat → Prop} (h : F r') (e : r = r' := by first | (simp only [Nat.zero_add, Nat.add_zero, Nat.sub_zero, Int.toNat_natCast, Int.toNat_zero, Int.toNat_one, List.length_map, List.length_nil, Int.reduceToNat, Nat.reduceAdd, Nat.reduceSub, Int.sub_zero, Int.reduceAdd, Int.reduceSub, Nat.sub_self, Int.toNat_natCast_add_one, marks_len, bs_len]; rfl) | rfl) : sN r F := sN.eq e h
theorem gRow9 {r r' : List (List T)} {F : List (List T) → Prop} (h : F r') (e : r = r' := by first | (simp only [Nat.add_zero, Nat.zero_add, Nat.reduceAdd, List.drop_zero, List.take_succ_cons, List.take_nil, List.drop_succ_cons, List.drop_nil, List.take_zero, List.nil_append, List.append_nil, List.map_nil, drop_suf, take_pre, drop_map, List.take_length, take_len_set, take_len_app, List.set_set, List.length_map, rep_rKept, marks_take, set_rKept, set_rIns, rep_rIns, set_rEvent, rep_rEvent, snoc_rKept, snoc_rEvent, snoc_rIns, bytesT_bs, snoc_rI, snoc_rB, snoc_rBool, set_rI, set_rBool, rep_rI, rep_rBool, map_app]; rfl) | rfl) : sR r F := sR.eq e h
theorem st8 {P Q : Prop} (h : Q) (e : Q → P := by with_reducible first | exact fun h => gP h | exact fun h => gN h | exact fun h => fG.not h | exact fun h => gY h | exact fun h => gF h | exact fun h => fG.yes (flat_map (fun _ => rfl) _) h | exact fun h => gS64 h | exact fun h => gU8 h | exact fun h => gI9 h | exact fun h => fE.of rfl h | exact fun h => gNum9 h | exact fun h => gSet h | exact fun h => gRd h | exact fun h => gLk h | exact fun h => gRow9 h | exact fun h => gRf1 h) : P := e h

theorem replay_ok {l : List Ins} (hi : ∀ i, i < l.length → IOk l.length (rd l i)) (es : List Event) : ∀ {s s' : State}, SOk l.length s → replay l s es = some s' → SOk l.length s' := by
  induction es with
  | nil => intro s s' hs h; simp only [replay] at h; cases h; exact hs
  | cons e es ih =>
    intro s s' hs h
    simp only [replay] at h
    split at h
    · rename_i hc
      refine ih (did_ok hs (hi _ ?_) ?_) h
      · have := hs.at0; have := hs.at1; omega
      · exact hc.2
    · cases h
theorem stOf_len (l : List Ins) (es : List Event) : (stOf (replayAll l es)).regs.length ≤ 4 ∧ (stOf (replayAll l es)).out.length ≤ 60 := by
  unfold replayAll
  split
  · rename_i h
    cases hr : replay l newState es with
    | none => exact ⟨Nat.zero_le _, Nat.zero_le _⟩
    | some s =>
      have := replay_ok (fun i hi => progOk_iok h.1 hi) es (newState_ok (progOk_len h.1).1) hr
      exact ⟨Nat.le_of_eq this.regs, this.out⟩
  · exact ⟨Nat.zero_le _, Nat.zero_le _⟩
theorem wts_bound {α : Type} [Inhabited α] (wt : α → Nat) (n : Nat) (l : List α) (h : ∀ j : Nat, j < l.length → wt (rd l j) ≤ n) : wts wt l ≤ n * l.length := by
  induction l with
  | nil => simp [wts]
  | cons x l ih =>
    have h1 : wt x ≤ n := h 0 (by simp)
    have h2 := ih fun j hj => by
      have := h (j + 1) (by simp; omega)
      simpa [rd] using this
    simp only [wts, List.length_cons, Nat.mul_add]
    omega
theorem replay_append (l : List Ins) (a b : List Event) : ∀ s, replay l s (a ++ b) = (replay l s a).bind fun s' => replay l s' b := by
  induction a with
  | nil => intro s; rfl
  | cons e a ih =>
    intro s
    simp only [List.cons_append, replay]
    split
    · exact ih _
    · rfl
theorem replayAll_some {l : List Ins} {es : List Event} (h : (replayAll l es).isSome = true) : progOk l 4 = true ∧ es.length ≤ 200 := by
  unfold replayAll at h
  split at h
  · assumption
  · cases h
theorem replay_take {l : List Ins} {es : List Event} (h : (replayAll l es).isSome = true) (n : Nat) : replay l newState (es.take n) = some (stOf (replayAll l (es.take n))) ∧ SOk l.length (stOf (replayAll l (es.take n))) := by
  obtain ⟨h1, h2⟩ := replayAll_some h
  have e1 : replayAll l es = replay l newState es := by unfold replayAll; rw [if_pos ⟨h1, h2⟩]
  have e2 : replayAll l (es.take n) = replay l newState (es.take n) := by unfold replayAll; rw [if_pos ⟨h1, by simp; omega⟩]
  rw [e1] at h
  have e3 : replay l newState es = (replay l newState (es.take n)).bind fun s' => replay l s' (es.drop n) := by rw [← replay_append, List.take_append_drop]
  cases hr : replay l newState (es.take n) with
  | none => rw [e3, hr] at h; cases h
  | some s =>
    rw [e2, hr]
    exact ⟨rfl, replay_ok (fun i hi => progOk_iok h1 hi) _ (newState_ok (progOk_len h1).1) hr⟩
end Go.Proofs.YtipfcgbhaalcdaaGreat.Abs
namespace Go.Proofs.YtipfcgbhaalcdaaGreat.Abs
open Go Go.Proofs
set_option linter.unusedVariables false
set_option linter.unusedSimpArgs false
attribute [local irreducible] callE
theorem take_next {l m : List Int} {j : Nat} (h1 : j < l.length) (h2 : j < m.length) (h : l.take j = m.take j) (e : rd l j = rd m j) : l.take (j + 1) = m.take (j + 1) := by rw [take_rd h1, take_rd h2, h, e]
theorem take_all_eq {l m : List Int} (h1 : l.length = m.length) (h : l.take l.length = m.take l.length) : l = m := by rw [List.take_length, h1, List.take_length] at h; exact h
theorem ok_Equal_int (k : Nat) (r s : List Int) (hr : r.length ≤ 100000000000) (hs : s.length ≤ 100000000000) : callE PR C (k + 1) 108 [.h 1000000 0 0 [] 1 0 r.length, .h 1000001 0 0 [] 1 0 s.length] [tI r, tI s] = some ⟨bl (decide (r = s)), [], [none, none]⟩ := by
  by_cases h : r.length = s.length
  · (refine fnI [ResultVar.tmp 4] Tryz.func108 ?_; conv => whnf)
    repeat' ((with_reducible (first | refine st8 ?_|refine fG.split (fun _ => ?_) (fun _ => ?_)|refine fG.bool (fun _ => ?_) (fun _ => ?_)|refine gDn 6 ?_)) <;> (try (conv => whnf)))
    refine loop_rule (ι := Nat) (fun j => [(0, .h 1000000 0 0 [] 1 0 r.length), (1, .h 1000001 0 0 [] 1 0 s.length), (12, i64 r.length), (13, i64 (j : Nat))])
      (fun x => [(1000000, ⟨0, 0, false, tI r⟩), (1000001, ⟨0, 0, false, tI s⟩)])
      (fun j => r.length - j) (fun j => j ≤ r.length ∧ r.take j = s.take j) 0 fitOk ⟨Nat.zero_le _, rfl⟩ (by simp [C]; omega) ?_
    rintro j sl ob ⟨hj, ht⟩
    (try dsimp only [cond_true, cond_false])
    (conv => whnf)
    by_cases hjl : j < r.length
    · by_cases e : rd r j = rd s j
      · repeat' ((with_reducible (first | refine st8 ?_|refine fG.split (fun _ => ?_) (fun _ => ?_)|refine fG.bool (fun _ => ?_) (fun _ => ?_)|refine gDn 6 ?_)) <;> (try (conv => whnf)))
        refine ⟨⟨j + 1, fitOk, ?_, ?_⟩⟩
        · exact ⟨by show j + 1 ≤ _; omega, take_next hjl (by omega) ht e⟩
        · show r.length - (j + 1) < r.length - j; omega
      · rw [decide_eq_false (fun hh : r = s => e (by rw [hh]))]
        repeat' ((with_reducible (first | refine st8 ?_|refine fG.split (fun _ => ?_) (fun _ => ?_)|refine fG.bool (fun _ => ?_) (fun _ => ?_)|refine gDn 6 ?_)) <;> (try (conv => whnf)))
    · have hjj : j = r.length := by omega
      rw [decide_eq_true (take_all_eq h (by rw [← hjj]; exact ht))]
      repeat' ((with_reducible (first | refine st8 ?_|refine fG.split (fun _ => ?_) (fun _ => ?_)|refine fG.bool (fun _ => ?_) (fun _ => ?_)|refine gDn 6 ?_)) <;> (try (conv => whnf)))
  · rw [decide_eq_false (fun hh : r = s => h (by rw [hh]))]
    (refine fnI [ResultVar.tmp 4] Tryz.func108 ?_; conv => whnf)
    repeat' ((with_reducible (first | refine st8 ?_|refine fG.split (fun _ => ?_) (fun _ => ?_)|refine fG.bool (fun _ => ?_) (fun _ => ?_)|refine gDn 6 ?_)) <;> (try (conv => whnf)))
def sameS (a : Int) (r o : List Int) (c a2 : Int) (r2 o2 : List Int) (c2 : Int) : Bool := decide ((⟨a, r, o, c⟩ : State) = ⟨a2, r2, o2, c2⟩)
theorem sameS_eq (a : Int) (r o : List Int) (c a2 : Int) (r2 o2 : List Int) (c2 : Int) : sameS a r o c a2 r2 o2 c2 = (decide (a = a2) && (decide (c = c2) && (decide (r = r2) && decide (o = o2)))) := by
  unfold sameS
  rw [Bool.eq_iff_iff]
  simp only [decide_eq_true_eq, Bool.and_eq_true, State.mk.injEq]
  exact ⟨fun ⟨a, b, c, d⟩ => ⟨a, d, b, c⟩, fun ⟨a, d, b, c⟩ => ⟨a, b, c, d⟩⟩
theorem ok_impl_sameState (k : Nat) (a : Int) (r o : List Int) (c a2 : Int) (r2 o2 : List Int) (c2 : Int) (h1 : r.length ≤ 100000000000) (h2 : o.length ≤ 100000000000) (h3 : r2.length ≤ 100000000000) (h4 : o2.length ≤ 100000000000) :
    callE PR C (k + 2) 198 [aState 0 a r o c, aState 2 a2 r2 o2 c2] [tI r, tI o, tI r2, tI o2] = some ⟨bl (sameS a r o c a2 r2 o2 c2), [], [none, none, none, none]⟩ := by
  rw [sameS_eq]
  (refine fnI [ResultVar.tmp 4] Tryz.func198 ?_; conv => whnf)
  repeat' ((with_reducible (first | refine sCall.of (ok_Equal_int _ _ _ h1 h3) ?_|refine sCall.of (ok_Equal_int _ _ _ h2 h4) ?_|refine st8 ?_|refine fG.split (fun _ => ?_) (fun _ => ?_)|refine fG.bool (fun _ => ?_) (fun _ => ?_))) <;> (try (conv => whnf)))
  all_goals (simp [*]; done)

set_option maxHeartbeats 4000000 in
theorem ok_spec_l4SameState (k : Nat) (a : Int) (r o : List Int) (c a2 : Int) (r2 o2 : List Int) (c2 : Int) (h1 : r.length ≤ 100000000000) (h2 : o.length ≤ 100000000000) (h3 : r2.length ≤ 100000000000) (h4 : o2.length ≤ 100000000000) :
    callE PR C (k + 1) 176 [aState 0 a r o c, aState 2 a2 r2 o2 c2] [tI r, tI o, tI r2, tI o2] = some ⟨bl (sameS a r o c a2 r2 o2 c2), [], [none, none, none, none]⟩ := by
  have hno : ∀ q : ¬ ((⟨a, r, o, c⟩ : State) = ⟨a2, r2, o2, c2⟩), sameS a r o c a2 r2 o2 c2 = false := fun q => decide_eq_false q
  by_cases g1 : a = a2
  · by_cases g2 : c = c2
    · by_cases g3 : r.length = r2.length
      · by_cases g4 : o.length = o2.length
        · (refine fnI [ResultVar.tmp 4] Tryz.func176 ?_; conv => whnf)
          repeat' ((with_reducible (first | refine st8 ?_|refine fG.split (fun _ => ?_) (fun _ => ?_)|refine fG.bool (fun _ => ?_) (fun _ => ?_)|refine gDn 6 ?_|refine gDn 11 ?_)) <;> (try (conv => whnf)))
          refine loop_rule (ι := Nat) (fun j => [(2, .pt 2 1 0 [] 0 0), (3, .pt 3 1 0 [] 0 0), (5, i64 (j : Nat))])
            (fun x => [(1000000, ⟨0, 0, false, tI r⟩), (1000001, ⟨0, 0, false, tI o⟩), (1000002, ⟨0, 0, false, tI r2⟩), (1000003, ⟨0, 0, false, tI o2⟩),
              (2, ⟨1, 0, false, .box [i64 a, .h 1000000 0 0 [] 1 0 r.length, .h 1000001 0 0 [] 1 0 o.length, i64 c]⟩), (3, ⟨1, 0, false, .box [i64 a2, .h 1000002 0 0 [] 1 0 r2.length, .h 1000003 0 0 [] 1 0 o2.length, i64 c2]⟩)])
            (fun j => r.length - j) (fun j => j ≤ r.length ∧ r.take j = r2.take j) 0 fitOk ⟨Nat.zero_le _, rfl⟩ (by simp [C]; omega) ?_
          rintro j sl ob ⟨hj, ht⟩
          (try dsimp only [cond_true, cond_false])
          (conv => whnf)
          by_cases hjl : j < r.length
          · by_cases e : rd r j = rd r2 j
            · repeat' ((with_reducible (first | refine st8 ?_|refine fG.split (fun _ => ?_) (fun _ => ?_)|refine fG.bool (fun _ => ?_) (fun _ => ?_)|refine gDn 6 ?_|refine gDn 11 ?_)) <;> (try (conv => whnf)))
              refine ⟨⟨j + 1, fitOk, ?_, ?_⟩⟩
              · exact ⟨by show j + 1 ≤ _; omega, take_next hjl (by omega) ht e⟩
              · show r.length - (j + 1) < r.length - j; omega
            · rw [hno fun hh => e (by cases hh; rfl)]
              repeat' ((with_reducible (first | refine st8 ?_|refine fG.split (fun _ => ?_) (fun _ => ?_)|refine fG.bool (fun _ => ?_) (fun _ => ?_)|refine gDn 6 ?_|refine gDn 11 ?_)) <;> (try (conv => whnf)))
          · have hjj : j = r.length := by omega
            have er : r = r2 := take_all_eq g3 (by rw [← hjj]; exact ht)
            repeat' ((with_reducible (first | refine st8 ?_|refine fG.split (fun _ => ?_) (fun _ => ?_)|refine fG.bool (fun _ => ?_) (fun _ => ?_)|refine gDn 6 ?_|refine gDn 11 ?_)) <;> (try (conv => whnf)))
            refine loop_rule (ι := Nat) (fun j => [(2, .pt 2 1 0 [] 0 0), (3, .pt 3 1 0 [] 0 0), (6, i64 (j : Nat))])
              (fun x => [(1000001, ⟨0, 0, false, tI o⟩), (1000003, ⟨0, 0, false, tI o2⟩), (1000000, ⟨0, 0, false, tI r⟩), (1000002, ⟨0, 0, false, tI r2⟩),
                (2, ⟨1, 0, false, .box [i64 a, .h 1000000 0 0 [] 1 0 r.length, .h 1000001 0 0 [] 1 0 o.length, i64 c]⟩), (3, ⟨1, 0, false, .box [i64 a2, .h 1000002 0 0 [] 1 0 r2.length, .h 1000003 0 0 [] 1 0 o2.length, i64 c2]⟩)])
              (fun j => o.length - j) (fun j => j ≤ o.length ∧ o.take j = o2.take j) 0 fitOk ⟨Nat.zero_le _, rfl⟩ (by simp [C]; omega) ?_
            clear ht hj hjj hjl
            rintro j' sl' ob' ⟨hj, ht⟩
            (try dsimp only [cond_true, cond_false])
            (conv => whnf)
            by_cases hjl : j' < o.length
            · by_cases e : rd o j' = rd o2 j'
              · repeat' ((with_reducible (first | refine st8 ?_|refine fG.split (fun _ => ?_) (fun _ => ?_)|refine fG.bool (fun _ => ?_) (fun _ => ?_)|refine gDn 6 ?_|refine gDn 11 ?_)) <;> (try (conv => whnf)))
                refine ⟨⟨j' + 1, fitOk, ?_, ?_⟩⟩
                · exact ⟨by show j' + 1 ≤ _; omega, take_next hjl (by omega) ht e⟩
                · show o.length - (j' + 1) < o.length - j'; omega
              · rw [hno fun hh => e (by cases hh; rfl)]
                repeat' ((with_reducible (first | refine st8 ?_|refine fG.split (fun _ => ?_) (fun _ => ?_)|refine fG.bool (fun _ => ?_) (fun _ => ?_)|refine gDn 6 ?_|refine gDn 11 ?_)) <;> (try (conv => whnf)))
            · have hjj : j' = o.length := by omega
              have eo : o = o2 := take_all_eq g4 (by rw [← hjj]; exact ht)
              rw [show sameS a r o c a2 r2 o2 c2 = true from decide_eq_true (by rw [g1, g2, er, eo])]
              repeat' ((with_reducible (first | refine st8 ?_|refine fG.split (fun _ => ?_) (fun _ => ?_)|refine fG.bool (fun _ => ?_) (fun _ => ?_)|refine gDn 6 ?_|refine gDn 11 ?_)) <;> (try (conv => whnf)))
        · rw [hno fun hh => g4 (by cases hh; rfl)]
          (refine fnI [ResultVar.tmp 4] Tryz.func176 ?_; conv => whnf)
          repeat' ((with_reducible (first | refine st8 ?_|refine fG.split (fun _ => ?_) (fun _ => ?_)|refine fG.bool (fun _ => ?_) (fun _ => ?_)|refine gDn 6 ?_|refine gDn 11 ?_)) <;> (try (conv => whnf)))
      · rw [hno fun hh => g3 (by cases hh; rfl)]
        (refine fnI [ResultVar.tmp 4] Tryz.func176 ?_; conv => whnf)
        repeat' ((with_reducible (first | refine st8 ?_|refine fG.split (fun _ => ?_) (fun _ => ?_)|refine fG.bool (fun _ => ?_) (fun _ => ?_)|refine gDn 6 ?_|refine gDn 11 ?_)) <;> (try (conv => whnf)))
    · rw [hno fun hh => g2 (by cases hh; rfl)]
      (refine fnI [ResultVar.tmp 4] Tryz.func176 ?_; conv => whnf)
      repeat' ((with_reducible (first | refine st8 ?_|refine fG.split (fun _ => ?_) (fun _ => ?_)|refine fG.bool (fun _ => ?_) (fun _ => ?_)|refine gDn 6 ?_|refine gDn 11 ?_)) <;> (try (conv => whnf)))
  · rw [hno fun hh => g1 (by cases hh; rfl)]
    (refine fnI [ResultVar.tmp 4] Tryz.func176 ?_; conv => whnf)
    repeat' ((with_reducible (first | refine st8 ?_|refine fG.split (fun _ => ?_) (fun _ => ?_)|refine fG.bool (fun _ => ?_) (fun _ => ?_)|refine gDn 6 ?_|refine gDn 11 ?_)) <;> (try (conv => whnf)))

end Go.Proofs.YtipfcgbhaalcdaaGreat.Abs
