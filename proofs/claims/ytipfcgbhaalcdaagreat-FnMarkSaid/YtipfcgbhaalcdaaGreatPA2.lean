/- Part 2 of the words by which the law is followed: an interpreter over data trees, proved of the machine, and what functions of this program come to by it. No condition. -/
import Derived.Laws.MakeOwn
import Derived.Laws.IdiomStrings
import Derived.Still
import Derived.Orders
import Derived.Test.YtipfcgbhaalcdaaGreatPA1
namespace Go.Proofs.YtipfcgbhaalcdaaGreat.Abs
open Go
set_option linter.unusedVariables false
set_option linter.unusedSimpArgs false
variable {P : Program} {E : Env} {w0 : World} {A : Fp} {ob : Objs} {w : World} {ρ : Nat → Value} {φ : Nat → Fp} {Z : Fp} {sl : Slots} {a : Act}

def TysOk (P : Program) (E : Env) : Prop := ∀ t ti, E.ty t = some ti → TyOk P t ti

theorem bin_ints {op : BinOp} {k k' : IntKind} {m n : Int} {x : AV} (h : bin op (.s (.int k m)) (.s (.int k' n)) = some x) : k = k' ∧ ∃ v, binInt op k m n = some v ∧ x = .s v := by
  simp only [bin] at h
  split at h
  · rename_i hk
    cases hv : binInt op k m n with
    | none => simp [hv] at h
    | some v => simp only [hv, Option.map_some, Option.some.injEq] at h; exact ⟨hk, v, rfl, h.symm⟩
  · cases h

theorem any_some {α : Type} {x : Option α} {p : α → Bool} (h : x.any p = true) : ∃ y, x = some y ∧ p y = true := by
  cases x with
  | none => simp at h
  | some y => exact ⟨y, rfl, by simpa using h⟩
theorem opt_run {x : Option AV} {out : Out} (h : (opt x).run ob = some out) : ∃ y, x = some y ∧ out = ⟨y, []⟩ := by
  unfold opt at h
  cases x with
  | none => simp [Rd.run] at h
  | some y => simp only [Rd.run, Option.some.injEq] at h; exact ⟨y, rfl, h.symm⟩

theorem snd_shl (h : OInv w0 A ob w ρ φ Z) (hsl : ∀ n, AVR w ob ρ (sl n) (a.tmps.getD n undef)) {o : Oper} {op : BinOp} {t yt : TypeId} {x y : Operand} (ho : o.op = .binOp op t x y yt) {k k' : IntKind} {m n : Int} (hx : ev sl x = .s (.int k m)) (hy : ev sl y = .s (.int k' n)) (h0 : 0 ≤ n)
    {v : Value} (hop : (op = .shl ∧ v = .int k (k.wrap (m * 2 ^ min n.toNat k.bits))) ∨ (op = .shr ∧ v = .int k (m.fdiv (2 ^ min n.toNat k.bits)))) : Snd P w0 A ob w ρ o a ⟨.s v, []⟩ := by
  obtain ⟨h1, _⟩ := ev_s hsl hx
  obtain ⟨h2, _⟩ := ev_s hsl hy
  have hn : ¬ n < 0 := by omega
  rcases hop with ⟨rfl, rfl⟩ | ⟨rfl, rfl⟩ <;> refine snd_scalar h rfl (exec_v (exec_bin ho a.eval) ?_) <;> rw [h1, h2] <;>
    simp [eqGuard, binOp, Op.shift, hn, Bind.bind, Sem.bind, Sem.run, pure]

theorem snd_bin (hT : TysOk P E) (h : OInv w0 A ob w ρ φ Z) (hsl : ∀ n, AVR w ob ρ (sl n) (a.tmps.getD n undef)) {o : Oper} {op : BinOp} {t yt : TypeId} {x y : Operand} (ho : o.op = .binOp op t x y yt) {out : Out}
    (hr : (exBin E op t (ev sl x) (ev sl y)).run ob = some out) : Snd P w0 A ob w ρ o a out := by
  unfold exBin at hr
  split at hr
  · rename_i k m k' n hx hy
    split at hr
    · split at hr
      · simp only [val, Rd.run, Option.some.injEq] at hr
        subst hr
        exact snd_shl h hsl ho hx hy (by assumption) (.inl ⟨rfl, rfl⟩)
      · simp [Rd.run] at hr
    · split at hr
      · simp only [val, Rd.run, Option.some.injEq] at hr
        subst hr
        exact snd_shl h hsl ho hx hy (by assumption) (.inr ⟨rfl, rfl⟩)
      · simp [Rd.run] at hr
    · obtain ⟨z, hz, rfl⟩ := opt_run hr
      obtain ⟨rfl, v, hv, rfl⟩ := bin_ints hz
      exact snd_binInt h hsl ho hx hy hv
  · rename_i l l' hx hy
    split at hr
    · rename_i he
      obtain ⟨z, hz, rfl⟩ := opt_run hr
      obtain ⟨ti, ht, he2⟩ := any_some he
      simp only [Bool.and_eq_true] at he2
      have heq := (hT t ti ht).eqs he2.1
      have n1 := Nat.eq_of_beq_eq_true he2.2.1
      have n2 := Nat.eq_of_beq_eq_true he2.2.2
      have h1 := ev_sound (a := a) hsl x
      have h2 := ev_sound (a := a) hsl y
      rw [hx] at h1
      rw [hy] at h2
      generalize hq : a.eval x = v at h1
      generalize hq2 : a.eval y = v2 at h2
      have h1' := h1
      have h2' := h2
      cases h1 with | @ag _ xs _ _ =>
      cases h2 with | @ag _ ys _ _ =>
      simp only [bin] at hz
      split at hz
      · cases hb : eqCells l l' with
        | none => simp [hb] at hz
        | some b =>
          simp only [hb, Option.map_some, Option.some.injEq] at hz
          subst hz
          exact snd_scalar h rfl (exec_v (exec_bin ho a.eval) (by rw [hq, hq2]; exact (heq w x y xs ys l l' b ob ρ n1 n2 h1' h2' hb).1))
      · cases hb : eqCells l l' with
        | none => simp [hb] at hz
        | some b =>
          simp only [hb, Option.map_some, Option.some.injEq] at hz
          subst hz
          exact snd_scalar h rfl (exec_v (exec_bin ho a.eval) (by rw [hq, hq2]; exact (heq w x y xs ys l l' b ob ρ n1 n2 h1' h2' hb).2))
      · cases hz
    · simp [Rd.run] at hr
  · rename_i p q hx hy
    split at hr
    · rename_i he
      obtain ⟨z, hz, rfl⟩ := opt_run hr
      obtain ⟨ti, ht, he2⟩ := any_some he
      have hbt : P.underlying t = some .bool := by
        unfold isBool at he2
        split at he2
        · rename_i b hc; exact (hT t ti ht).bool b hc
        · cases he2
      obtain ⟨h1, _⟩ := ev_s hsl hx
      obtain ⟨h2, _⟩ := ev_s hsl hy
      obtain ⟨r1, r2⟩ := bin_bool (P := P) (w := w) p q t hbt x y
      simp only [bin] at hz
      split at hz
      · simp only [Option.some.injEq] at hz
        subst hz
        exact snd_scalar h rfl (exec_v (exec_bin ho a.eval) (by rw [h1, h2]; exact r1))
      · simp only [Option.some.injEq] at hz
        subst hz
        exact snd_scalar h rfl (exec_v (exec_bin ho a.eval) (by rw [h1, h2]; exact r2))
      · cases hz
    · simp [Rd.run] at hr
  · rename_i p q hx hy
    obtain ⟨z, hz, rfl⟩ := opt_run hr
    simp only [bin] at hz
    cases hv : binStr op p q with
    | none => simp [hv] at hz
    | some v =>
      simp only [hv, Option.map_some, Option.some.injEq] at hz
      subst hz
      obtain ⟨h1, _⟩ := ev_s hsl hx
      obtain ⟨h2, _⟩ := ev_s hsl hy
      obtain ⟨r1, r2⟩ := bin_str (P := P) (w := w) hv t x y
      exact snd_scalar h r2 (exec_v (exec_bin ho a.eval) (by rw [h1, h2]; exact r1))
  · simp [Rd.run] at hr

theorem isStr_under {t : TypeId} {ti : TyI} (hT : TyOk P t ti) (h : isStr ti = true) : P.underlying t = some .string := by
  unfold isStr at h
  split at h
  · rename_i s' hc; exact hT.str s' hc
  · cases h

theorem snd_strIndex (h : OInv w0 A ob w ρ φ Z) (hsl : ∀ n, AVR w ob ρ (sl n) (a.tmps.getD n undef)) {o : Oper} {t : TypeId} {ti : TyI} (hT : TyOk P t ti) (hs : isStr ti = true) {x ix : Operand} (ho : o.op = .index t x ix) {s : ByteArray} (hx : ev sl x = .s (.string s)) {k : IntKind} {i : Int} (hi : ev sl ix = .s (.int k i))
    (h0 : 0 ≤ i) (hn : i.toNat < s.size) : Snd P w0 A ob w ρ o a ⟨.s (.int .u8 ((s[i.toNat]'hn).toNat : Int)), []⟩ := by
  obtain ⟨h1, _⟩ := ev_s hsl hx
  obtain ⟨h2, _⟩ := ev_s hsl hi
  refine snd_scalar h rfl (exec_v (s := Instr.index t (a.eval x) (a.eval ix)) (by simp [execOp, ho]) ?_)
  rw [h1, h2]
  have e : s[i.toNat]? = some (s[i.toNat]'hn) := getElem?_pos s i.toNat hn
  simp [Instr.index, asIntOf, underlying, isStr_under hT hs, h0, e, Sem.run_bind, Sem.run, Result.andThen, pure]

theorem snd_strSlice (h : OInv w0 A ob w ρ φ Z) (hsl : ∀ n, AVR w ob ρ (sl n) (a.tmps.getD n undef)) {o : Oper} {t : TypeId} {ti : TyI} (hT : TyOk P t ti) (hs : isStr ti = true) {x : Operand} {lo hi : Option Operand} (ho : o.op = .slice t x lo hi none)
    {s : ByteArray} (hx : ev sl x = .s (.string s)) {m k : Nat} (hlo : (lo = none ∧ m = 0) ∨ ∃ y kk, lo = some y ∧ ev sl y = .s (.int kk m)) (hhi : (hi = none ∧ k = s.size) ∨ ∃ y kk, hi = some y ∧ ev sl y = .s (.int kk k))
    (hmk : m ≤ k) (hkn : k ≤ s.size) : Snd P w0 A ob w ρ o a ⟨.s (.string (s.extract m k)), []⟩ := by
  obtain ⟨h1, _⟩ := ev_s hsl hx
  refine snd_scalar h rfl (exec_v (s := Instr.sliceAt t (a.eval x) (lo.map a.eval) (hi.map a.eval) none) (by simp [execOp, ho]) ?_)
  have b1 : (0 : Int) ≤ (k : Int) := Int.natCast_nonneg _
  have b2 : (k : Int) ≤ (s.size : Int) := by omega
  have b3 : (0 : Int) ≤ (m : Int) := Int.natCast_nonneg _
  have b4 : (m : Int) ≤ (k : Int) := by omega
  have hbounds : (Instr.sliceBounds false s.size s.size (lo.map a.eval) (hi.map a.eval) none).run P w = .ok (m, k, s.size) w := by
    rcases hlo with ⟨rfl, rfl⟩ | ⟨y, kk, rfl, hy⟩
    · rcases hhi with ⟨rfl, rfl⟩ | ⟨y2, kk2, rfl, hy2⟩
      · simp [Instr.sliceBounds, Sem.run_bind, Sem.run, Result.andThen, pure]
      · rw [show (some y2).map a.eval = some (.int kk2 (k : Int)) from by rw [Option.map_some, (ev_s hsl hy2).1]]
        simp [Instr.sliceBounds, Sem.run_bind, Sem.run, Result.andThen, pure, run_sliceBound w kk2 (k : Int) s.size _ b1 b2]
    · rcases hhi with ⟨rfl, rfl⟩ | ⟨y2, kk2, rfl, hy2⟩
      · rw [show (some y).map a.eval = some (.int kk (m : Int)) from by rw [Option.map_some, (ev_s hsl hy).1]]
        simp [Instr.sliceBounds, Sem.run_bind, Sem.run, Result.andThen, pure, run_sliceBound w kk (m : Int) s.size _ b3 b4]
      · rw [show (some y).map a.eval = some (.int kk (m : Int)) from by rw [Option.map_some, (ev_s hsl hy).1], show (some y2).map a.eval = some (.int kk2 (k : Int)) from by rw [Option.map_some, (ev_s hsl hy2).1]]
        simp [Instr.sliceBounds, Sem.run_bind, Sem.run, Result.andThen, pure, run_sliceBound w kk2 (k : Int) s.size _ b1 b2, run_sliceBound w kk (m : Int) k _ b3 b4]
  simp [Instr.sliceAt, h1, Instr.slice, underlying, isStr_under hT hs, Sem.run_bind, Sem.run, Result.andThen, pure, hbounds]
end Go.Proofs.YtipfcgbhaalcdaaGreat.Abs
namespace Go.Proofs.YtipfcgbhaalcdaaGreat.Abs
open Go
set_option linter.unusedVariables false
set_option linter.unusedSimpArgs false
variable {P : Program} {E : Env} {w0 : World} {A : Fp} {ob : Objs} {w : World} {ρ : Nat → Value} {φ : Nat → Fp} {Z : Fp} {sl : Slots} {a : Act}

theorem foldl_set (off : Nat) : ∀ (vs : List Value) (i : Nat) (cs : Array Value), ((vs.zipIdx i).foldl (fun cs (c, j) => cs.setIfInBounds (off + j) c) cs).size = cs.size ∧
    ∀ k, ((vs.zipIdx i).foldl (fun cs (c, j) => cs.setIfInBounds (off + j) c) cs).getD k undef = if off + i ≤ k ∧ k < off + i + vs.length ∧ k < cs.size then vs.getD (k - (off + i)) undef else cs.getD k undef := by
  intro vs
  induction vs with
  | nil => intro i cs; refine ⟨rfl, fun k => ?_⟩; rw [if_neg (by simp; omega)]; rfl
  | cons v vs ih =>
    intro i cs
    rw [List.zipIdx_cons, List.foldl_cons]
    obtain ⟨h1, h2⟩ := ih (i + 1) (cs.setIfInBounds (off + i) v)
    refine ⟨by rw [h1]; simp, fun k => ?_⟩
    rw [h2 k]
    simp only [Array.size_setIfInBounds, List.length_cons]
    by_cases hk : k = off + i
    · subst hk
      rw [if_neg (by omega)]
      by_cases hlt : off + i < cs.size
      · rw [if_pos (by omega)]
        simp [Array.getD, hlt]
      · rw [if_neg (by omega)]
        simp [Array.getD, hlt]
    · have e : (cs.setIfInBounds (off + i) v).getD k undef = cs.getD k undef := by
        simp only [Array.getD, Array.size_setIfInBounds]
        split
        · rename_i hlt
          simp [Array.getElem_setIfInBounds, hlt, Ne.symm hk]
        · rfl
      rw [e]
      by_cases hc : off + (i + 1) ≤ k ∧ k < off + (i + 1) + vs.length ∧ k < cs.size
      · rw [if_pos hc, if_pos (by omega)]
        have : k - (off + i) = (k - (off + (i + 1))) + 1 := by omega
        rw [this]; rfl
      · rw [if_neg hc, if_neg (by omega)]

theorem fill_sound {place : Nat → Option (Nat × Nat)} : ∀ {parts : List (Nat × AV)} {vals : List (Nat × Value)} {cells l : List AV} {cs : Array Value},
    fillAt place cells parts = some l → parts.map (·.1) = vals.map (·.1) → (∀ (i : Nat) (x : Nat × AV) (v : Nat × Value), parts[i]? = some x → vals[i]? = some v → AVR w ob ρ x.2 v.2) →
    cells.length = cs.size → (∀ i y, cells[i]? = some y → AVR w ob ρ y (cs.getD i undef)) →
    ∃ cs', Instr.fill place cs vals = some cs' ∧ l.length = cs'.size ∧ (∀ i y, l[i]? = some y → AVR w ob ρ y (cs'.getD i undef)) := by
  intro parts
  induction parts with
  | nil =>
    intro vals cells l cs h hm hp hl hc
    obtain rfl : vals = [] := by cases vals with | nil => rfl | cons _ _ => simp at hm
    simp only [fillAt, Option.some.injEq] at h
    subst h
    exact ⟨cs, rfl, hl, hc⟩
  | cons x parts ih =>
    intro vals cells l cs h hm hp hl hc
    obtain ⟨i, x⟩ := x
    cases vals with
    | nil => simp at hm
    | cons v vals =>
      obtain ⟨i', v⟩ := v
      simp only [List.map_cons, List.cons.injEq] at hm
      obtain ⟨rfl, hm⟩ := hm
      have h1 : AVR w ob ρ x v := hp 0 (i, x) (i, v) rfl rfl
      simp only [fillAt] at h
      split at h
      · rename_i o n l1 hpl hl1
        split at h
        · rename_i hb
          obtain ⟨c1, c2⟩ := cells_sound hl1 h1
          obtain ⟨f1, f2⟩ := foldl_set o v.cells.toList 0 cs
          have hsz : v.cells.size = n := by omega
          simp only [Instr.fill, hpl]
          rw [if_neg (by simp; omega)]
          rw [← Array.foldl_toList, Array.toList_zipIdx]
          refine ih h hm (fun j y z hy hz => hp (j + 1) y z hy hz) ?_ fun j y hy => ?_
          · rw [f1, putList_len _ _ _ (by omega)]; exact hl
          · rw [putList_get _ _ _ (by omega)] at hy
            rw [f2 j]
            simp only [Nat.add_zero, Array.length_toList]
            have hj : j < cells.length := by
              split at hy
              · omega
              · exact (List.getElem?_eq_some_iff.1 hy).1
            by_cases hin : o ≤ j ∧ j < o + l1.length
            · rw [if_pos hin] at hy
              rw [if_pos (by omega)]
              have := c2 _ _ hy
              simpa [Array.getD_eq_getD_getElem?] using this
            · rw [if_neg hin] at hy
              rw [if_neg (by omega)]
              exact hc j y hy
        · cases h
      · cases h
end Go.Proofs.YtipfcgbhaalcdaaGreat.Abs
namespace Go.Proofs.YtipfcgbhaalcdaaGreat.Abs
open Go
set_option linter.unusedVariables false
set_option linter.unusedSimpArgs false
variable {P : Program} {E : Env} {w0 : World} {A : Fp} {ob : Objs} {w : World} {ρ : Nat → Value} {φ : Nat → Fp} {Z : Fp} {sl : Slots} {a : Act}

theorem mapM_fields (w : World) : ∀ (fields : List Field) (offs : List (Nat × Nat)), fields.length = offs.length → (∀ (k : Nat) (f : Field), fields[k]? = some f → ∃ fi, P.info? f.type = some fi ∧ offs[k]? = some (f.offset, fi.size)) →
    ((fields.mapM fun f => do pure (f.offset, ← sizeOf f.type) : Sem (List (Nat × Nat)))).run P w = .ok offs w := by
  intro fields
  induction fields with
  | nil => intro offs h _; obtain rfl : offs = [] := by cases offs with | nil => rfl | cons _ _ => simp at h
           simp [List.mapM_nil, Sem.run, pure]
  | cons f fields ih =>
    intro offs h hk
    cases offs with
    | nil => simp at h
    | cons x offs =>
      obtain ⟨fi, h1, h2⟩ := hk 0 f rfl
      simp only [List.getElem?_cons_zero, Option.some.injEq] at h2
      subst h2
      have h3 := ih offs (by simpa using h) fun k f hf => hk (k + 1) f hf
      rw [List.mapM_cons]
      have h4 := h3
      simp only [sizeOf, typeInfo, Sem.run_bind] at h4
      simp [Sem.run_bind, sizeOf, typeInfo, h1, Sem.run, Result.andThen, pure] at h4 ⊢
      rw [h4]

theorem snd_build (h : OInv w0 A ob w ρ φ Z) (hsl : ∀ n, AVR w ob ρ (sl n) (a.tmps.getD n undef)) {o : Oper} {t : TypeId} {ti : TyI} (hT : TyOk P t ti) (hF : FieldsOk P t ti) {parts : Array (Nat × Operand)} (ho : o.op = .build t parts) {l : List AV}
    (hr : fillAt (fun k => ti.offs[k]?) ti.cells (parts.toList.map fun (k, x) => (k, ev sl x)) = some l) : Snd P w0 A ob w ρ o a ⟨.ag l, []⟩ := by
  obtain ⟨i, z, e1, e2, e3, e4, e5⟩ := zero_cells hT
  obtain ⟨fields, g1, g2, g3⟩ := hF.fields
  obtain ⟨cs, c1, c2, c3⟩ := fill_sound (vals := (parts.map fun (k, x) => (k, a.eval x)).toList) (w := w) (ob := ob) (ρ := ρ) hr (by simp) (fun i x v hx hv => by
    rw [Array.toList_map, List.getElem?_map] at hv
    rw [List.getElem?_map] at hx
    cases hy : parts.toList[i]? with
    | none => simp [hy] at hx
    | some y =>
      simp only [hy, Option.map_some, Option.some.injEq] at hx hv
      subst hx hv
      exact ev_sound hsl y.2) e4.symm (fun i y hy => e5 w ob ρ i y hy)
  have hm := mapM_fields (P := P) w fields.toList ti.offs (by simpa using g2) (fun k f hf => g3 k f (by simpa using hf))
  refine snd_val (v := .agg cs) h (exec_v (s := Instr.build t (parts.map fun (k, x) => (k, a.eval x))) (by simp [execOp, ho]) ?_) (.ag c2 c3)
  have hm2 : (fields.mapM (fun f => do pure (f.offset, ← sizeOf f.type)) : Sem (Array (Nat × Nat))).run P w = .ok ti.offs.toArray w := by
    rw [Array.mapM_eq_mapM_toList]
    rw [map_eq_pure_bind, Sem.run_bind, hm]
    rfl
  have hz : (zeroValue t).run P w = .ok z w := by simp [zeroValue, typeInfo, e1, e2, Sem.run_bind, Sem.run, Result.andThen, pure]
  have hu : (underlying t).run P w = .ok (.struct fields) w := by simp [underlying, g1, Sem.run_bind, Sem.run, Result.andThen, pure]
  unfold Instr.build
  simp only [Sem.run_bind, hz, hu, hm2, Result.andThen]
  have c1' : Instr.fill (fun x => ti.offs.toArray[x]?) z.cells (parts.map fun (k, x) => (k, a.eval x)).toList = some cs := by simpa using c1
  simp only [c1']
  simp [Sem.run, pure]
end Go.Proofs.YtipfcgbhaalcdaaGreat.Abs
namespace Go.Proofs.YtipfcgbhaalcdaaGreat.Abs
open Go
set_option linter.unusedVariables false
set_option linter.unusedSimpArgs false
variable {P : Program} {E : Env} {w0 : World} {A : Fp} {ob : Objs} {w : World} {ρ : Nat → Value} {φ : Nat → Fp} {Z : Fp} {sl : Slots} {a : Act}

def chunks (len n : Nat) (ts : List T) : List (List T) := (List.range len).map fun k => (ts.drop (k * n)).take n
theorem chunks_len {len n : Nat} {ts : List T} : (chunks len n ts).length = len := by simp [chunks]
theorem chunks_wide {len n : Nat} {ts : List T} (h : ts.length = len * n) : ∀ r ∈ chunks len n ts, r.length = n := by
  intro r hr
  simp only [chunks, List.mem_map, List.mem_range] at hr
  obtain ⟨k, hk, rfl⟩ := hr
  have : (k + 1) * n ≤ len * n := Nat.mul_le_mul_right _ hk
  rw [Nat.add_mul] at this
  simp; omega
theorem chunks_cell {len n : Nat} {ts : List T} {i j : Nat} {t : T} (h : cellT (chunks len n ts) i j = some t) : i < len ∧ j < n ∧ ts[i * n + j]? = some t := by
  unfold cellT chunks at h
  rw [List.getElem?_map] at h
  by_cases hi : i < len
  · rw [List.getElem?_range hi] at h
    simp only [Option.map_some, Option.bind_some] at h
    rw [List.getElem?_take] at h
    by_cases hj : j < n
    · rw [if_pos hj, List.getElem?_drop] at h
      exact ⟨hi, hj, h⟩
    · rw [if_neg hj] at h; cases h
  · rw [List.getElem?_eq_none (by simpa using hi)] at h
    simp at h
theorem idx_inj {n i j i' j' : Nat} (hj : j < n) (hj' : j' < n) (h : i * n + j = i' * n + j') : i = i' ∧ j = j' := by
  have h1 : (i * n + j) / n = i := by rw [Nat.mul_comm, Nat.mul_add_div (by omega), Nat.div_eq_of_lt hj]; omega
  have h2 : (i' * n + j') / n = i' := by rw [Nat.mul_comm, Nat.mul_add_div (by omega), Nat.div_eq_of_lt hj']; omega
  have : i = i' := by rw [← h1, ← h2, h]
  subst this
  exact ⟨rfl, by omega⟩

theorem row_new (h : OInv w0 A ob w ρ φ Z) {ob2 : Objs} {φ2 : Nat → Fp} {Z2 : Fp} (hst : Step w0 A ob w ρ ob2 w ρ φ2 Z2) {d L len cap n : Nat} {e : TypeId} {cs : Array Value} {ts : List T} {vs : Nat → Value} {Fs : Nat → Fp}
    (hts : ts.length = len * n) (hn : 0 < n) (hcap : len ≤ cap) (hcs : cs.size = cap * n) (hmax : cap ≤ maxLen) (hvs : ∀ i, i < len * n → cs[i]? = some (vs i))
    (hO : ∀ i t, ts[i]? = some t → Ow Z2 w L (vs i) t (Fs i)) (hfree : ∀ i k, Fs i k → ¬ Z2 k ∧ (∀ o, ¬ φ2 o k) ∧ (k < w0.heap.size → A k)) (hlt : ∀ i k, Fs i k → k < w.heap.size) (hdis : ∀ i j k, Fs i k → Fs j k → i = j) (hb : (ob2 d).birth = (ob d).birth) :
    ∃ ρ' φ' Z', Step w0 A ob w ρ (upd ob2 d ⟨(ob d).birth + 1, 0, false, .tree (L + 1) (.sl n (chunks len n ts))⟩) (push w cs e) ρ' φ' Z' ∧
      AVR (push w cs e) (upd ob2 d ⟨(ob d).birth + 1, 0, false, .tree (L + 1) (.sl n (chunks len n ts))⟩) ρ' (.h d ((ob d).birth + 1) 0 [] n 0 len) (.slice (some ⟨w.heap.size, 0, none⟩) len cap) := by
  have hk := push_keep w cs e
  have hst2 := hst.trans (hst.inv.world hk)
  have hfr : ∀ i t, ts[i]? = some t → Ow Z2 (push w cs e) L (vs i) t (Fs i) := fun i t ht => (hO i t ht).frame (fun k hz => hk.block k (hst.inv.zlt k hz) id) (fun k hg => hk.block k (hlt i k hg) id)
  have hF := Ow.own (Z := Z2) (w := push w cs e) (l := L) (b := w.heap.size) (off := 0) (c := cap) (cs := cs) (e := e) (fr := (0, 0)) (rows := chunks len n ts) (sz := n) (fun i j => vs (i * n + j)) (fun i j => if i < len ∧ j < n then Fs (i * n + j) else none_)
    (push_new w cs e) (fun k _ h0 => Nat.not_lt_zero _ h0.2) (by rw [chunks_len]; exact hcap) (by omega) hmax (chunks_wide hts)
    (fun i j t hc => by
      obtain ⟨h1, h2, h3⟩ := chunks_cell hc
      rw [Nat.zero_add]
      exact hvs _ (by rw [← hts]; exact (List.getElem?_eq_some_iff.1 h3).1))
    (fun i j t hc => by
      obtain ⟨h1, h2, h3⟩ := chunks_cell hc
      rw [if_pos ⟨h1, h2⟩]; exact hfr _ _ h3)
    (fun i j hc => by
      split
      · rename_i hij
        exfalso
        have hlt2 : i * n + j < ts.length := by
          have : (i + 1) * n ≤ len * n := Nat.mul_le_mul_right _ hij.1
          rw [Nat.add_mul] at this; omega
        have : cellT (chunks len n ts) i j = some ts[i * n + j] := by
          unfold cellT chunks
          rw [List.getElem?_map, List.getElem?_range hij.1]
          simp only [Option.map_some, Option.bind_some]
          rw [List.getElem?_take, if_pos hij.2, List.getElem?_drop, List.getElem?_eq_getElem hlt2]
        rw [this] at hc; cases hc
      · rfl)
    (fun i j hF => by
      split at hF
      · exact Nat.lt_irrefl _ (hlt _ _ hF)
      · exact hF)
    (fun i j i' j' k h1 h2 => by
      split at h1
      · rename_i a1
        split at h2
        · rename_i a2
          exact idx_inj a1.2 a2.2 (hdis _ _ _ h1 h2)
        · exact h2.elim
      · exact h1.elim)
  rw [chunks_len] at hF
  obtain ⟨ρ', φ', h3, h4⟩ := append_done (d := d) (n := len) h hst2 hF (fun k hk' => by
    rcases hk' with rfl | ⟨i, j, hk'⟩
    · exact ⟨fun hz => Nat.lt_irrefl _ (hst.inv.zlt _ hz), fun o' ho => Nat.lt_irrefl _ (hst.inv.lt o' _ ho), fun hl => absurd hl (Nat.not_lt.2 h.keep.size)⟩
    · split at hk'
      · exact hfree _ _ hk'
      · exact hk'.elim) hb chunks_len.symm
  exact ⟨ρ', φ', Z2, h3, h4⟩
end Go.Proofs.YtipfcgbhaalcdaaGreat.Abs
namespace Go.Proofs.YtipfcgbhaalcdaaGreat.Abs
open Go
set_option linter.unusedVariables false
set_option linter.unusedSimpArgs false
variable {P : Program} {E : Env} {w0 : World} {A : Fp} {ob : Objs} {w : World} {ρ : Nat → Value} {φ : Nat → Fp} {Z : Fp} {sl : Slots} {a : Act}

theorem rep_get {α : Type} (l : List α) : ∀ (len k : Nat), ((List.replicate len l).flatten)[k]? = if k < len * l.length then l[k % l.length]? else none := by
  intro len
  induction len with
  | zero => intro k; simp
  | succ len ih =>
    intro k
    rw [List.replicate_succ, List.flatten_cons]
    by_cases hk : k < l.length
    · rw [List.getElem?_append_left hk, Nat.mod_eq_of_lt hk, if_pos (by rw [Nat.add_mul]; omega)]
    · rw [List.getElem?_append_right (by omega), ih]
      have e : (k - l.length) % l.length = k % l.length := (Nat.mod_eq_sub_mod (by omega)).symm
      rw [e, Nat.add_mul]
      by_cases h2 : k - l.length < len * l.length
      · rw [if_pos h2, if_pos (by omega)]
      · rw [if_neg h2, if_neg (by omega)]

def zeros (z : Array Value) (m : Nat) : Array Value := (Array.range m).map (z[· % z.size]!)
theorem zeros_size (z : Array Value) (m : Nat) : (zeros z m).size = m := by simp [zeros]
theorem zeros_get (z : Array Value) (m k : Nat) (hz : 0 < z.size) (hk : k < m) : (zeros z m).getD k undef = z.getD (k % z.size) undef := by
  have h1 : k % z.size < z.size := Nat.mod_lt _ hz
  simp [zeros, Array.getD, hk, h1]

theorem run_newRow (w : World) (e : TypeId) (cs : Array Value) : (newRow e cs).run P w = .ok ⟨w.heap.size, 0, none⟩ (push w cs e) := by
  simp [newRow, Sem.run_bind, newObj, Sem.run, Result.andThen, pure, push]

theorem fill_size {place : Nat → Option (Nat × Nat)} : ∀ {parts : List (Nat × Value)} {cs cs' : Array Value}, Instr.fill place cs parts = some cs' → cs'.size = cs.size := by
  intro parts
  induction parts with
  | nil => intro cs cs' h; simp only [Instr.fill, Option.some.injEq] at h; rw [h]
  | cons x parts ih =>
    intro cs cs' h
    obtain ⟨i, v⟩ := x
    simp only [Instr.fill] at h
    split at h
    · cases h
    · split at h
      · cases h
      · rw [ih h, ← Array.foldl_toList, Array.toList_zipIdx]
        exact (foldl_set _ v.cells.toList 0 cs).1

theorem GrabR.births {l : List AV} {mv : List Nat} {ts : List T} {lv : Nat} {ss : List (Nat × Ob)} (h : GrabR ob l mv ts lv ss) : ∀ q ∈ ss, q.2.birth = (ob q.1).birth := by
  induction h with
  | nil => intro q hq; cases hq
  | s h ih => exact ih
  | nl h ih => exact ih
  | ro hc hv hat hl hm h ih => exact ih
  | own hc hv hl hm h ih =>
    intro q hq
    rcases List.mem_cons.1 hq with rfl | hq
    · rfl
    · exact ih q hq

theorem run_buildSlice {t e : TypeId} {len n : Nat} {z : Value} {cs : Array Value} {parts : Array (Nat × Value)} (hu : P.underlying t = some (.slice e)) (hi : (sizeOf e).run P w = .ok n w) (hlim : len * n ≤ 16777216)
    (hz : (zeroValue e).run P w = .ok z w) (hpos : 0 < z.cells.size) (hf : Instr.fill (fun k => some (k * n, n)) (zeros z.cells (len * n)) parts.toList = some cs) :
    (Instr.buildSlice t len parts).run P w = .ok (.slice (some ⟨w.heap.size, 0, none⟩) len len) (push w cs e) := by
  have hu' : (underlying t).run P w = .ok (.slice e) w := by simp [underlying, hu, Sem.run_bind, Sem.run, Result.andThen, pure]
  have h24 : ¬ len * n > 2 ^ 24 := by omega
  unfold Instr.buildSlice
  simp only [Sem.run_bind, hu', hi, Result.andThen, h24, if_false]
  by_cases h0 : len * n = 0
  · have e0 : zeros z.cells (len * n) = (Array.range (len * n)).map ((#[] : Array Value)[· % (#[] : Array Value).size]!) := by rw [h0]; simp [zeros]
    rw [e0] at hf
    simp [h0, Sem.run, pure, Sem.run_bind, Result.andThen] at hf ⊢
    simp [hf, run_newRow, Sem.run_bind, Sem.run, Result.andThen, pure]
  · simp only [h0, if_false, Sem.run_bind, hz, Result.andThen, Sem.run, pure]
    unfold zeros at hf
    simp only [hf, Sem.run_bind, run_newRow, Result.andThen, Sem.run]
theorem snd_buildSlice (hTs : TysOk P E) (h : OInv w0 A ob w ρ φ Z) (hsl : ∀ n, AVR w ob ρ (sl n) (a.tmps.getD n undef)) {o : Oper} {t : TypeId} {ti : TyI} (hT : TyOk P t ti) {e : TypeId} (he : ti.elem = some e) {i : TyI} (hTe : TyOk P e i) {len : Nat} {parts : Array (Nat × Operand)} (ho : o.op = .buildSlice t len parts)
    {cells : List AV} (hr : fillAt (fun k => some (k * i.cells.length, i.cells.length)) ((List.replicate len i.cells).flatten) (parts.toList.map fun (k, x) => (k, evT E sl e x)) = some cells)
    (hn : 0 < i.cells.length) (hlim : len * i.cells.length ≤ 16777216) {out : Out}
    (hg : (grab cells [] fun ts l ss => mk (o.dst.getD 0) (.tree (l + 1) (.sl i.cells.length ((List.range len).map fun k => (ts.drop (k * i.cells.length)).take i.cells.length))) (fun b => .h (o.dst.getD 0) b 0 [] i.cells.length 0 len) ss).run ob = some out) : Snd P w0 A ob w ρ o a out := by
  obtain ⟨e1, ei, e2, e3, e4⟩ := hT.elem e he
  obtain ⟨i', z, f1, f2, f3, f4, f5⟩ := zero_cells hTe
  have e2s : (sizeOf e).run P w = .ok i.cells.length w := by simp [sizeOf, typeInfo, f1, f3, Sem.run_bind, Sem.run, Result.andThen, pure]
  rw [e2] at f1
  cases f1
  have hpos : 0 < z.cells.size := by omega
  obtain ⟨cs, c1, c2, c3⟩ := fill_sound (vals := (parts.map fun (k, x) => (k, a.eval x)).toList) (cs := zeros z.cells (len * i.cells.length)) (w := w) (ob := ob) (ρ := ρ) hr (by simp) (fun i x v hx hv => by
    rw [Array.toList_map, List.getElem?_map] at hv
    rw [List.getElem?_map] at hx
    cases hy : parts.toList[i]? with
    | none => simp [hy] at hx
    | some y =>
      simp only [hy, Option.map_some, Option.some.injEq] at hx hv
      subst hx hv
      exact evT_sound hsl e y.2) (by rw [zeros_size]; simp) (fun k y hy => by
    rw [rep_get] at hy
    split at hy
    · rename_i hk
      rw [zeros_get _ _ _ hpos hk, f4]
      exact f5 w ob ρ _ y hy
    · cases hy)
  obtain ⟨ts, lv, ss, hG, hr2⟩ := grab_run cells [] _ _ hg
  obtain rfl := mk_run hr2
  have hlen : cells.length = len * i.cells.length := by rw [c2]; have := fill_size c1; rw [zeros_size] at this; exact this
  obtain ⟨φ2, Z2, Fs, s1, s2, s3, s4, s5, s6, s7, s8, s9, s10⟩ := hG.sound (ob1 := ob) (φ1 := φ) (Z1 := Z) (fun o _ => rfl) h (fun k => cs.getD k undef) (fun k y hy => c3 k y hy) lv (Nat.le_refl _)
  have hmax : len ≤ maxLen := by
    have : len * 1 ≤ len * i.cells.length := Nat.mul_le_mul_left _ hn
    unfold maxLen; omega
  obtain ⟨ρ', φ', Z', r1, r2⟩ := row_new (e := e) (d := o.dst.getD 0) h s1 (L := lv) (len := len) (cap := len) (n := i.cells.length) (cs := cs) (ts := ts) (vs := fun k => cs.getD k undef) (Fs := Fs) (by rw [s3, hlen]) hn (Nat.le_refl _) (by rw [← c2, hlen]) hmax
    (fun k hk => by
      have : k < cs.size := by rw [← c2, hlen]; exact hk
      simp [Array.getD, this])
    s4 s5 (fun k q hq => by obtain ⟨o', _, ho'⟩ := s9 k q hq; exact h.lt o' q ho') s6 (upds_birth ob ss hG.births _)
  refine opSound_value (v := .slice (some ⟨w.heap.size, 0, none⟩) len len) (w' := push w cs e) ?_ ⟨ρ', φ', Z', ?_, ?_⟩
  · have hc1 : Instr.fill (fun k => some (k * i.cells.length, i.cells.length)) (zeros z.cells (len * i.cells.length)) (parts.map fun (k, x) => (k, a.eval x)).toList = some cs := c1
    have hz0 : (zeroValue e).run P w = .ok z w := by simp [zeroValue, typeInfo, e2, f2, Sem.run_bind, Sem.run, Result.andThen, pure]
    have hb : (Instr.buildSlice t len (parts.map fun (k, x) => (k, a.eval x))).run P w = .ok (.slice (some ⟨w.heap.size, 0, none⟩) len len) (push w cs e) := run_buildSlice e1 e2s hlim hz0 hpos hc1
    have hx : execOp a.eval o = (do pure (.value (← Instr.buildSlice t len (parts.map fun (k, x) => (k, a.eval x)))) : Sem Next) := by simp only [execOp, ho]
    exact exec_v hx hb
  · rw [upds_append]; exact r1
  · rw [upds_append]; exact r2
end Go.Proofs.YtipfcgbhaalcdaaGreat.Abs
namespace Go.Proofs.YtipfcgbhaalcdaaGreat.Abs
open Go
set_option linter.unusedVariables false
set_option linter.unusedSimpArgs false
variable {P : Program} {E : Env} {w0 : World} {A : Fp} {ob : Objs} {w : World} {ρ : Nat → Value} {φ : Nat → Fp} {Z : Fp} {sl : Slots} {a : Act}

theorem GrabR.zeros {l : List AV} {mv : List Nat} {ts : List T} {lv : Nat} {ss : List (Nat × Ob)} (h : GrabR ob l mv ts lv ss) (hz : ∀ (k : Nat) (x : AV), l[k]? = some x → (∃ v, x = .s v ∧ scalar v = true) ∨ ∃ n, x = .nl n) : ss = [] ∧ lv = 8 := by
  induction h with
  | nil => exact ⟨rfl, rfl⟩
  | s h ih => exact ih fun k x hk => hz (k + 1) x hk
  | nl h ih => exact ih fun k x hk => hz (k + 1) x hk
  | ro hc hv hat hl hm h ih =>
    rcases hz 0 _ rfl with ⟨v, h1, _⟩ | ⟨n, h1⟩ <;> cases h1
  | own hc hv hl hm h ih =>
    rcases hz 0 _ rfl with ⟨v, h1, _⟩ | ⟨n, h1⟩ <;> cases h1

theorem chunks_rep {ts : List T} (h : 0 < ts.length) (len : Nat) : chunks len ts.length (List.replicate len ts).flatten = List.replicate len ts := by
  unfold chunks
  refine List.ext_getElem? fun i => ?_
  rw [List.getElem?_map, List.getElem?_replicate]
  by_cases hi : i < len
  · rw [List.getElem?_range hi, if_pos hi]
    simp only [Option.map_some, Option.some.injEq]
    refine List.ext_getElem? fun j => ?_
    rw [List.getElem?_take]
    by_cases hj : j < ts.length
    · rw [if_pos hj, List.getElem?_drop, rep_get]
      have h1 : (i + 1) * ts.length ≤ len * ts.length := Nat.mul_le_mul_right _ hi
      rw [Nat.add_mul] at h1
      rw [if_pos (by omega), Nat.mul_comm, Nat.mul_add_mod, Nat.mod_eq_of_lt hj]
    · rw [if_neg hj, List.getElem?_eq_none (by omega)]
  · rw [List.getElem?_eq_none (by simpa using hi), if_neg hi]; rfl

theorem snd_makeSlice (h : OInv w0 A ob w ρ φ Z) (hsl : ∀ n, AVR w ob ρ (sl n) (a.tmps.getD n undef)) {o : Oper} {t : TypeId} {ti : TyI} (hT : TyOk P t ti) {e : TypeId} (he : ti.elem = some e) {i : TyI} (hTe : TyOk P e i) {l c : Operand} (ho : o.op = .makeSlice t l c)
    {n m : Int} (hl : ev sl l = .s (.int .i64 n)) (hc : ev sl c = .s (.int .i64 m)) (h0 : 0 ≤ n) (hnm : n ≤ m) (hb : m * ti.bytes ≤ 140737488355328) (hm : m ≤ 140737488355328) (hN : 0 < i.cells.length) {out : Out}
    (hg : (grab i.cells [] fun ts _ _ => mk (o.dst.getD 0) (.tree 9 (.sl i.cells.length (List.replicate n.toNat ts))) (fun b => .h (o.dst.getD 0) b 0 [] i.cells.length 0 n.toNat) []).run ob = some out) : Snd P w0 A ob w ρ o a out := by
  obtain ⟨e1, ei, e2, e3, e4⟩ := hT.elem e he
  obtain ⟨i', z, f1, f2, f3, f4, f5⟩ := zero_cells hTe
  rw [e2] at f1
  cases f1
  have hpos : 0 < z.cells.size := by omega
  obtain ⟨h1, _⟩ := ev_s hsl hl
  obtain ⟨h2, _⟩ := ev_s hsl hc
  obtain ⟨ts, lv, ss, hG, hr2⟩ := grab_run i.cells [] _ _ hg
  obtain rfl := mk_run hr2
  have hz : ∀ (k : Nat) (x : AV), i.cells[k]? = some x → (∃ v, x = .s v ∧ scalar v = true) ∨ ∃ n, x = .nl n := by
    intro k x hk
    obtain ⟨_, _, _, _, _, _, hh⟩ := hTe.info
    rcases hh k x hk with ⟨v, rfl, hv, _⟩ | ⟨n, rfl, _⟩
    · exact .inl ⟨v, rfl, hv⟩
    · exact .inr ⟨n, rfl⟩
  obtain ⟨rfl, rfl⟩ := hG.zeros hz
  have hlen : ts.length = i.cells.length := hG.len
  -- what all rows are made of
  have key : ∀ k, k < n.toNat * i.cells.length → ∃ t, (List.replicate n.toNat ts).flatten[k]? = some t ∧ Ow Z w 8 (z.cells.getD (k % i.cells.length) undef) t none_ := by
    intro k hk
    have hlt : k % i.cells.length < i.cells.length := Nat.mod_lt _ hN
    have hts : ts[k % i.cells.length]? = some (ts[k % i.cells.length]'(by omega)) := List.getElem?_eq_getElem (by omega)
    refine ⟨_, by rw [rep_get, hlen, if_pos hk, hts], ?_⟩
    have hx : ∃ x, i.cells[k % i.cells.length]? = some x := ⟨_, List.getElem?_eq_getElem hlt⟩
    obtain ⟨x, hx⟩ := hx
    obtain ⟨φ2, Z2, Fs, s1, s2, s3, s4, s5, s6, s7, s8, s9, s10⟩ := hG.sound (ob1 := ob) (φ1 := φ) (Z1 := Z) (fun o _ => rfl) h (fun k => z.cells.getD k undef) (fun k y hy => f5 w ob ρ k y hy) 8 (Nat.le_refl _)
    have h4 := s4 _ _ hts
    rcases hz _ x hx with ⟨v, rfl, hv⟩ | ⟨q, rfl⟩
    · have : ∀ {l : List AV} {mv : List Nat} {ts : List T} {lv : Nat} {ss : List (Nat × Ob)}, GrabR ob l mv ts lv ss → ∀ (k : Nat) (v : Value), l[k]? = some (.s v) → ts[k]? = some (.v v) := by
        intro l mv ts lv ss hG
        induction hG with
        | nil => intro k v hk; simp at hk
        | s h ih => intro k v hk; cases k with
          | zero => simp at hk ⊢; exact hk
          | succ k => exact ih k v (by simpa using hk)
        | nl h ih => intro k v hk; cases k with
          | zero => simp at hk
          | succ k => exact ih k v (by simpa using hk)
        | ro _ _ _ _ _ h ih => intro k v hk; cases k with
          | zero => simp at hk
          | succ k => exact ih k v (by simpa using hk)
        | own _ _ _ _ h ih => intro k v hk; cases k with
          | zero => simp at hk
          | succ k => exact ih k v (by simpa using hk)
      have e := this hG _ _ hx
      rw [hts] at e
      obtain e := Option.some.inj e
      rw [e]
      have h5 := f5 w ob ρ _ _ hx
      generalize z.cells.getD (k % i.cells.length) undef = vv at h5
      cases h5
      exact .v hv
    · have : ∀ {l : List AV} {mv : List Nat} {ts : List T} {lv : Nat} {ss : List (Nat × Ob)}, GrabR ob l mv ts lv ss → ∀ (k q : Nat), l[k]? = some (.nl q) → ts[k]? = some (.sl q []) := by
        intro l mv ts lv ss hG
        induction hG with
        | nil => intro k v hk; simp at hk
        | s h ih => intro k v hk; cases k with
          | zero => simp at hk
          | succ k => exact ih k v (by simpa using hk)
        | nl h ih => intro k v hk; cases k with
          | zero => simp at hk ⊢; exact hk
          | succ k => exact ih k v (by simpa using hk)
        | ro _ _ _ _ _ h ih => intro k v hk; cases k with
          | zero => simp at hk
          | succ k => exact ih k v (by simpa using hk)
        | own _ _ _ _ h ih => intro k v hk; cases k with
          | zero => simp at hk
          | succ k => exact ih k v (by simpa using hk)
      have e := this hG _ _ hx
      rw [hts] at e
      obtain e := Option.some.inj e
      rw [e]
      have h5 := f5 w ob ρ _ _ hx
      generalize z.cells.getD (k % i.cells.length) undef = vv at h5
      cases h5
      exact .nil
  have hmN : n.toNat * i.cells.length ≤ m.toNat * i.cells.length := Nat.mul_le_mul_right _ (by omega)
  obtain ⟨ρ', φ', Z', r1, r2⟩ := row_new (e := e) (d := o.dst.getD 0) h h.stay (L := 8) (len := n.toNat) (cap := m.toNat) (n := i.cells.length) (cs := madeCells z.cells (m.toNat * i.cells.length)) (ts := (List.replicate n.toNat ts).flatten) (vs := fun k => z.cells.getD (k % i.cells.length) undef) (Fs := fun _ => none_)
    (by simp [hlen]) hN (by omega) (by rw [size_madeCells]) (by unfold maxLen; omega)
    (fun k hk => by
      have hk2 : k < m.toNat * i.cells.length := by omega
      have := zeros_get z.cells (m.toNat * i.cells.length) k hpos hk2
      have hs : k < (madeCells z.cells (m.toNat * i.cells.length)).size := by rw [size_madeCells]; exact hk2
      have e5 : (madeCells z.cells (m.toNat * i.cells.length)).getD k undef = z.cells.getD (k % z.cells.size) undef := this
      have e6 : (madeCells z.cells (m.toNat * i.cells.length)).getD k undef = (madeCells z.cells (m.toNat * i.cells.length))[k]'hs := by simp [Array.getD, hs]
      rw [Array.getElem?_eq_getElem hs, ← e6, e5, f4])
    (fun k t ht => by
      have hk : k < n.toNat * i.cells.length := by
        have := (List.getElem?_eq_some_iff.1 ht).1
        simpa [hlen] using this
      obtain ⟨t', h1, h2⟩ := key k hk
      rw [ht] at h1
      cases h1
      exact h2)
    (fun k q hq => hq.elim) (fun k q hq => hq.elim) (fun i j k hq => hq.elim) rfl
  have hch : chunks n.toNat i.cells.length (List.replicate n.toNat ts).flatten = List.replicate n.toNat ts := by rw [← hlen]; exact chunks_rep (by omega) _
  rw [hch] at r1 r2
  refine opSound_value (v := .slice (some ⟨w.heap.size, 0, none⟩) n.toNat m.toNat) (w' := push w (madeCells z.cells (m.toNat * i.cells.length)) e) ?_ ⟨ρ', φ', Z', r1, r2⟩
  refine exec_v (s := Instr.makeSlice t (a.eval l) (a.eval c)) (by simp only [execOp, ho]) ?_
  rw [h1, h2]
  have := run_make w t e ei z e1 e2 f2 .i64 .i64 n m h0 hnm (by rw [e4, Int.mul_comm]; omega) (by omega)
  rw [f3] at this
  exact this
end Go.Proofs.YtipfcgbhaalcdaaGreat.Abs
namespace Go.Proofs.YtipfcgbhaalcdaaGreat.Abs
open Go
set_option linter.unusedVariables false
set_option linter.unusedSimpArgs false
variable {P : Program} {E : Env} {w0 : World} {A : Fp} {ob : Objs} {w : World} {ρ : Nat → Value} {φ : Nat → Fp} {Z : Fp} {sl : Slots} {a : Act}

inductive AIm (es : List (Cont × Src)) (xs : List Value) : AV → Value → Prop where
  | s {x} (h : scalar x = true) : AIm es xs (.s x) x
  | u {x} : AIm es xs .u x
  | nl {n} : AIm es xs (.nl n) (.slice none 0 0)
  | h {i sz lvl rows src x} (he : es[i]? = some (.tree lvl (.sl sz rows), src)) (hx : xs[i]? = some x) : AIm es xs (.h (1000000 + i) 0 0 [] sz 0 rows.length) x
  | pt {i cells src x} (he : es[i]? = some (.box cells, src)) (hx : xs[i]? = some x) : AIm es xs (.pt (1000000 + i) 0 0 [] 0 0) x
  | ag {l : List AV} {cs : Array Value} (hl : l.length = cs.size) (h : ∀ i a, l[i]? = some a → AIm es xs a (cs.getD i undef)) : AIm es xs (.ag l) (.agg cs)
  | fn {f : FuncId} {l : List AV} {cs : Array Value} (hl : l.length = cs.size) (h : ∀ i a, l[i]? = some a → AIm es xs a (cs.getD i undef)) : AIm es xs (.fn f l) (.func (.func f) #[] cs)

theorem AIm.more {es : List (Cont × Src)} {xs : List Value} {a : AV} {v : Value} (h : AIm es xs a v) {es' : List (Cont × Src)} {xs' : List Value} (he : ∀ (i : Nat) (e : Cont × Src), es[i]? = some e → es'[i]? = some e) (hx : ∀ (i : Nat) (x : Value), xs[i]? = some x → xs'[i]? = some x) : AIm es' xs' a v := by
  induction h with
  | s h => exact .s h
  | u => exact .u
  | nl => exact .nl
  | h h1 h2 => exact .h (he _ _ h1) (hx _ _ h2)
  | pt h1 h2 => exact .pt (he _ _ h1) (hx _ _ h2)
  | ag hl h ih => exact .ag hl ih
  | fn hl h ih => exact .fn hl ih

inductive EntOk (ob : Objs) (w : World) (ρ : Nat → Value) (es : List (Cont × Src)) (xs : List Value) : Cont → Src → Value → Prop where
  | ro {o b g p sz lo len lvl t rows x} (hc : (ob o).c = .tree lvl t) (hv : Valid (ob o) b g p) (hat : t.at? p = some (.sl sz rows)) (hx : AVR w ob ρ (.h o b g p sz lo len) x) :
      EntOk ob w ρ es xs (.tree 0 (.sl sz ((rows.drop lo).take len))) (.ro (.h o b g p sz lo len)) x
  | nl {sz lv} : EntOk ob w ρ es xs (.tree lv (.sl sz [])) (.ro (.nl sz)) (.slice none 0 0)
  | root {o b lvl sz rows} (hc : (ob o).c = .tree lvl (.sl sz rows)) (hb : (ob o).birth = b) (hl : 0 < lvl) : EntOk ob w ρ es xs (.tree lvl (.sl sz rows)) (.root o b) (ρ o)
  | nest {o b g p lvl t sz rows x} (hc : (ob o).c = .tree lvl t) (hv : Valid (ob o) b g p) (hp : p ≠ []) (hat : t.at? p = some (.sl sz rows)) (hl : p.length < lvl) (hA : At w (ρ o) t p x (.sl sz rows)) :
      EntOk ob w ρ es xs (.tree (lvl - p.length) (.sl sz rows)) (.nest o b g p lvl) x
  | box {o b cells cells'} {bb : Nat} {cs : Array Value} {e : TypeId} {fr : Nat × Nat} (hc : (ob o).c = .box cells) (hb : (ob o).birth = b) (hρ : ρ o = .pointer (some ⟨bb, 0, none⟩)) (hw : w.heap[bb]? = some (.cells cs e fr))
      (hl : cells'.length = cs.size) (h : ∀ i a, cells'[i]? = some a → AIm es xs a (cs.getD i undef)) : EntOk ob w ρ es xs (.box cells') (.box o b) (ρ o)

theorem EntOk.more {es : List (Cont × Src)} {xs : List Value} {c : Cont} {s : Src} {v : Value} (h : EntOk ob w ρ es xs c s v) {es' : List (Cont × Src)} {xs' : List Value} (he : ∀ (i : Nat) (e : Cont × Src), es[i]? = some e → es'[i]? = some e) (hx : ∀ (i : Nat) (x : Value), xs[i]? = some x → xs'[i]? = some x) : EntOk ob w ρ es' xs' c s v := by
  cases h with
  | ro hc hv hat hx => exact .ro hc hv hat hx
  | nl => exact .nl
  | root hc hb hl => exact .root hc hb hl
  | nest hc hv hp hat hl hA => exact .nest hc hv hp hat hl hA
  | box hc hb hρ hw hl h => exact .box hc hb hρ hw hl fun i a hi => (h i a hi).more he hx

structure Ents (ob : Objs) (w : World) (ρ : Nat → Value) (es : List (Cont × Src)) (xs : List Value) : Prop where
  len : es.length = xs.length
  ok : ∀ (i : Nat) (e : Cont × Src) (x : Value), es[i]? = some e → xs[i]? = some x → EntOk ob w ρ es xs e.1 e.2 x

theorem get_app {α : Type} {l r : List α} {i : Nat} {x : α} (h : l[i]? = some x) : (l ++ r)[i]? = some x := by
  have := (List.getElem?_eq_some_iff.1 h).1
  rw [List.getElem?_append_left this]; exact h

theorem snoc_get {α : Type} (l : List α) (a : α) : (l ++ [a])[l.length]? = some a := by simp
theorem snoc_get' {α β : Type} (l : List α) (l' : List β) (a : α) (h : l'.length = l.length) : (l ++ [a])[l'.length]? = some a := by rw [h]; simp

theorem Ents.snoc {es : List (Cont × Src)} {xs : List Value} (h : Ents ob w ρ es xs) {c : Cont} {s : Src} {x : Value} (hn : EntOk ob w ρ es xs c s x) : Ents ob w ρ (es ++ [(c, s)]) (xs ++ [x]) := by
  refine ⟨by simp [h.len], fun i e y he hy => ?_⟩
  by_cases hi : i < es.length
  · rw [List.getElem?_append_left hi] at he
    rw [List.getElem?_append_left (by rw [← h.len]; exact hi)] at hy
    exact (h.ok i e y he hy).more (fun _ _ => get_app) (fun _ _ => get_app)
  · have h1 : i = es.length := by
      have := (List.getElem?_eq_some_iff.1 he).1
      simp at this; omega
    subst h1
    rw [List.getElem?_append_right (Nat.le_refl _)] at he
    rw [h.len, List.getElem?_append_right (Nat.le_refl _)] at hy
    simp at he hy
    subst he hy
    exact hn.more (fun _ _ => get_app) (fun _ _ => get_app)

theorem add_zero_addr (a : Addr) : a.add 0 = a := by simp [Addr.add]

theorem view_all {Z : Fp} {l sz n : Nat} {v x : Value} {rows : List (List T)} {F : Fp} (h : Ow Z w l v (.sl sz rows) F) (hv : View sz v 0 n x) (hn : n = rows.length) : x = v := by
  rcases hv with ⟨rfl, _, _, rfl⟩ | ⟨a, n', c, q, c', rfl, rfl, h1, h2, h3, h4⟩
  · rfl
  · obtain rfl : q = 0 := by omega
    rw [Nat.zero_mul, add_zero_addr]
    have : n' = rows.length := by cases h <;> rfl
    subst this hn
    simp at h2
    rw [h2]

theorem imp_run {α : Type} {md : List Bool} (h : OInv w0 A ob w ρ φ Z) : ∀ (n : Nat) (args : List AV) (es : List (Cont × Src)) (k : List AV → List (Cont × Src) → Rd α) (r : α) (xs : List Value) (vs : Nat → Value),
    (imp md n args es k).run ob = some r → Ents ob w ρ es xs → (∀ i x, args[i]? = some x → AVR w ob ρ x (vs i)) →
    ∃ l more xm, (k l (es ++ more)).run ob = some r ∧ Ents ob w ρ (es ++ more) (xs ++ xm) ∧ l.length = args.length ∧ (∀ i x, l[i]? = some x → AIm (es ++ more) (xs ++ xm) x (vs i)) := by
  intro n
  induction n with
  | zero =>
    intro args es k r xs vs hr hE ha
    cases args with
    | nil => exact ⟨[], [], [], by simpa [imp] using hr, by simpa using hE, rfl, fun i x hx => by simp at hx⟩
    | cons x args => simp [imp, Rd.run] at hr
  | succ n ih =>
    intro args es k r xs vs hr hE ha
    cases args with
    | nil => exact ⟨[], [], [], by simpa [imp] using hr, by simpa using hE, rfl, fun i x hx => by simp at hx⟩
    | cons x args =>
      have h0 : AVR w ob ρ x (vs 0) := ha 0 x rfl
      have ht : ∀ i x, args[i]? = some x → AVR w ob ρ x (vs (i + 1)) := fun i y hy => ha (i + 1) y (by simpa using hy)
      -- one value that is put ahead of the others
      have put : ∀ {es2 : List (Cont × Src)} {xs2 : List Value} {y : AV}, Ents ob w ρ es2 xs2 → AIm es2 xs2 y (vs 0) → (imp md n args es2 fun l es => k (y :: l) es).run ob = some r →
          ∃ l more xm, (k l (es2 ++ more)).run ob = some r ∧ Ents ob w ρ (es2 ++ more) (xs2 ++ xm) ∧ l.length = (x :: args).length ∧ (∀ i x, l[i]? = some x → AIm (es2 ++ more) (xs2 ++ xm) x (vs i)) := by
        intro es2 xs2 y hE2 hy hr2
        obtain ⟨l, more, xm, h1, h2, h3, h4⟩ := ih args es2 _ r xs2 (fun i => vs (i + 1)) hr2 hE2 ht
        refine ⟨y :: l, more, xm, h1, h2, by simp [h3], fun i x hx => ?_⟩
        cases i with
        | zero => simp at hx; subst hx; exact hy.more (fun _ _ => get_app) (fun _ _ => get_app)
        | succ i => exact h4 i x (by simpa using hx)
      -- what is put behind more entries
      have put2 : ∀ {m1 : List (Cont × Src)} {x1 : List Value} {y : AV}, Ents ob w ρ (es ++ m1) (xs ++ x1) → AIm (es ++ m1) (xs ++ x1) y (vs 0) → (imp md n args (es ++ m1) fun l es => k (y :: l) es).run ob = some r →
          ∃ l more xm, (k l (es ++ more)).run ob = some r ∧ Ents ob w ρ (es ++ more) (xs ++ xm) ∧ l.length = (x :: args).length ∧ (∀ i x, l[i]? = some x → AIm (es ++ more) (xs ++ xm) x (vs i)) := by
        intro m1 x1 y hE2 hy hr2
        obtain ⟨l, more, xm, h1, h2, h3, h4⟩ := put hE2 hy hr2
        exact ⟨l, m1 ++ more, x1 ++ xm, by simpa using h1, by simpa using h2, h3, by simpa using h4⟩
      cases x with
      | s v =>
        cases h0 with
        | s hs => exact put hE (.s hs) (by simpa [imp] using hr)
      | u => exact put hE .u (by simpa [imp] using hr)
      | nl sz =>
        generalize hv : vs 0 = v0 at h0
        cases h0
        simp only [imp] at hr
        split at hr
        · exact put hE (by rw [hv]; exact .nl) hr
        · refine put2 (m1 := [(.tree (if md.getD es.length false = true then 9 else 0) (.sl sz []), .ro (.nl sz))]) (x1 := [.slice none 0 0]) (hE.snoc .nl) ?_ hr
          rw [hv]
          exact .h (rows := []) (i := es.length) (snoc_get _ _) (snoc_get' _ _ _ hE.len)
      | ag c =>
        generalize hv : vs 0 = v0 at h0
        cases h0 with | @ag _ cs hl hcs =>
        simp only [imp] at hr
        obtain ⟨l1, m1, x1, h1, h2, h3, h4⟩ := ih c es _ r xs (fun i => cs.getD i undef) hr hE hcs
        exact put2 h2 (by rw [hv]; exact .ag (h3.trans hl) h4) h1
      | tu c => simp [imp, Rd.run] at hr
      | fn f c =>
        generalize hv : vs 0 = v0 at h0
        cases h0 with | @fn _ _ cs hl hcs =>
        simp only [imp] at hr
        obtain ⟨l1, m1, x1, h1, h2, h3, h4⟩ := ih c es _ r xs (fun i => cs.getD i undef) hr hE hcs
        exact put2 h2 (by rw [hv]; exact .fn (h3.trans hl) h4) h1
      | h o b g p sz lo len =>
        simp only [imp] at hr
        obtain ⟨lvl, t, sz', rows, hc, hvl, hat, hr2⟩ := look_run (k := fun _ lvl _ sz' rows => _) hr
        clear hr
        have h0' := h0
        cases h0 with | @h _ _ _ _ _ _ _ _ hbn hsl hval =>
        obtain ⟨_, hH⟩ := hval hvl
        obtain ⟨v', rows', hA, hle, hvw⟩ := hH lvl t hc
        have e := hA.at?
        rw [hat] at e
        cases e
        split at hr2
        · split at hr2
          · rename_i hcond
            obtain ⟨rfl, rfl, hlv⟩ := hcond
            by_cases hp : p = []
            · subst hp
              rw [if_pos rfl] at hr2
              obtain ⟨e1, e2⟩ := hA.root
              subst e1 e2
              have ho := h.tree hc
              have hxv := view_all ho hvw rfl
              have hk := put2 (m1 := [(.tree lvl (.sl sz rows), .root o b)]) (x1 := [ρ o]) (y := .h (1000000 + es.length) 0 0 [] sz 0 rows.length) (hE.snoc (.root hc hvl.1 (by simpa using hlv))) (by
                rw [hxv]; exact .h (i := es.length) (snoc_get _ _) (snoc_get' _ _ _ hE.len)) (by simpa using hr2)
              exact hk
            · rw [if_neg hp] at hr2
              have ho := h.tree hc
              obtain ⟨v2, F', hA2, how, hsub, _⟩ := ho.focus p hat
              have e2 := hA.det hA2
              subst e2
              have hxv := view_all how hvw rfl
              refine put2 (m1 := [(.tree (lvl - p.length) (.sl sz rows), .nest o b g p lvl)]) (x1 := [v']) (y := .h (1000000 + es.length) 0 0 [] sz 0 rows.length) (hE.snoc (.nest hc hvl hp hat hlv hA)) (by
                rw [hxv]; exact .h (i := es.length) (snoc_get _ _) (snoc_get' _ _ _ hE.len)) hr2
          · simp [Rd.run] at hr2
        · refine put2 (m1 := [(.tree 0 (.sl sz ((rows.drop lo).take len)), .ro (.h o b g p sz lo len))]) (x1 := [vs 0]) (y := .h (1000000 + es.length) 0 0 [] sz 0 ((rows.drop lo).take len).length) (hE.snoc (.ro hc hvl hat h0')) (.h (i := es.length) (snoc_get _ _) (snoc_get' _ _ _ hE.len)) hr2
      | pt o b g p i j =>
        by_cases hpij : p = [] ∧ i = 0 ∧ j = 0
        · obtain ⟨rfl, rfl, rfl⟩ := hpij
          simp only [imp, lookBox, Rd.run] at hr
          generalize hv : vs 0 = v0 at h0
          cases h0 with | @pt _ _ _ _ _ _ _ hbn hsx hval =>
          split at hr
          · rename_i cells hc
            split at hr
            · rename_i hb
              obtain ⟨bb, cs, e, fr, hρ, hw, hfr, hln, hcl, hφ⟩ := h.boxed hc
              obtain ⟨_, hP⟩ := hval ⟨hb, .inl rfl⟩
              obtain ⟨b2, hρ2, hx0⟩ := hP cells hc rfl
              rw [hρ] at hρ2
              cases hρ2
              rw [add_zero_addr] at hx0
              obtain ⟨l1, m1, x1, h1, h2, h3, h4⟩ := ih cells es _ r xs (fun i => cs.getD i undef) hr hE hcl
              have hk := put2 (m1 := m1 ++ [(.box l1, .box o b)]) (x1 := x1 ++ [ρ o]) (y := .pt (1000000 + (es ++ m1).length) 0 0 [] 0 0)
                (by
                  have := h2.snoc (.box hc hb hρ hw (h3.trans hln) h4)
                  simpa using this)
                (by
                  rw [hv, hx0, ← hρ]
                  refine .pt (i := (es ++ m1).length) (cells := l1) (src := .box o b) ?_ ?_
                  · rw [← List.append_assoc]; simp
                  · rw [← List.append_assoc, h2.len]; simp) (by simpa using h1)
              exact hk
            · simp [Rd.run] at hr
          · simp [Rd.run] at hr
        · exfalso
          cases p with
          | cons q p => simp [imp, Rd.run] at hr
          | nil =>
            cases i with
            | succ i => simp [imp, Rd.run] at hr
            | zero =>
              cases j with
              | succ j => simp [imp, Rd.run] at hr
              | zero => exact hpij ⟨rfl, rfl, rfl⟩
end Go.Proofs.YtipfcgbhaalcdaaGreat.Abs
namespace Go.Proofs.YtipfcgbhaalcdaaGreat.Abs
open Go
set_option linter.unusedVariables false
set_option linter.unusedSimpArgs false
variable {P : Program} {E : Env} {w0 : World} {A : Fp} {ob : Objs} {w : World} {ρ : Nat → Value} {φ : Nat → Fp} {Z : Fp} {sl : Slots} {a : Act}

theorem Ow.full {Z : Fp} {w : World} {l : Nat} {v : Value} {t : T} {F : Fp} (h : Ow Z w l v t F) (hf : T.full l t = true) : ∀ Z2, Ow Z2 w l v t F := by
  induction h with
  | v h => exact fun _ => .v h
  | @hole l x => simp [T.full] at hf
  | nil => exact fun _ => .nil
  | ro => simp [T.full] at hf
  | @own l b off c cs e fr rows sz xs F hb hfr hc hoff hmax hs hx ht hFn hnb hd ih =>
    intro Z2
    refine .own xs F hb hfr hc hoff hmax hs hx (fun i j t h => ih i j t h ?_ Z2) hFn hnb hd
    simp only [T.full, List.all_eq_true] at hf
    unfold cellT at h
    cases hr : rows[i]? with
    | none => simp [hr] at h
    | some r =>
      simp only [hr, Option.bind_some] at h
      exact hf r (List.mem_of_getElem? hr) t (List.mem_of_getElem? h)

def Foot (ob : Objs) (w : World) (ρ : Nat → Value) (φ : Nat → Fp) (Z : Fp) : Src → Value → Fp → Prop
  | .ro _, x, F => F = none_
  | .root o b, x, F => F = φ o
  | .box o b, x, F => F = φ o
  | .nest o b g p lvl, x, F => (∀ k, F k → φ o k) ∧ ∃ t sz rows, (ob o).c = .tree lvl t ∧ t.at? p = some (.sl sz rows) ∧ Ow Z w (lvl - p.length) x (.sl sz rows) F ∧
      ∀ (Z' : Fp) (w' : World) (new : T) (F2 : Fp), (∀ k, Z k → Z' k) → (∀ k, (Z k ∨ (φ o k ∧ ¬ F k)) → w'.heap[k]? = w.heap[k]?) →
        Ow Z' w' (lvl - p.length) x new F2 → (∀ k, F2 k → φ o k → F k) → Ow Z' w' lvl (ρ o) (t.put p new) (fun k => (φ o k ∧ ¬ F k) ∨ F2 k)

theorem ent_foot (h : OInv w0 A ob w ρ φ Z) {es : List (Cont × Src)} {xs : List Value} {c : Cont} {s : Src} {x : Value} (he : EntOk ob w ρ es xs c s x) : ∃ F, Foot ob w ρ φ Z s x F := by
  cases he with
  | ro => exact ⟨none_, rfl⟩
  | nl => exact ⟨none_, rfl⟩
  | root => exact ⟨_, rfl⟩
  | box => exact ⟨_, rfl⟩
  | @nest o b g p lvl t sz rows x hc hv hp hat hl hA =>
    obtain ⟨v', F', hA2, how, hsub, hrep⟩ := (h.tree hc).focus p hat
    have := hA.det hA2
    subst this
    exact ⟨F', hsub, t, sz, rows, hc, hat, how, hrep⟩

theorem Foot.sub {s : Src} {x : Value} {F : Fp} (h : Foot ob w ρ φ Z s x F) : ∀ k, F k → ∃ o, s.id? = some o ∧ s.writes = true ∧ φ o k := by
  cases s with
  | ro a => intro k hk; simp only [Foot] at h; subst h; exact hk.elim
  | root o b => intro k hk; simp only [Foot] at h; subst h; exact ⟨o, rfl, rfl, hk⟩
  | box o b => intro k hk; simp only [Foot] at h; subst h; exact ⟨o, rfl, rfl, hk⟩
  | nest o b g p lvl => intro k hk; exact ⟨o, rfl, rfl, h.1 k hk⟩

theorem srcsOk_ne : ∀ {l : List Src}, srcsOk l = true → ∀ (i j : Nat) (s s' : Src), i < j → l[i]? = some s → l[j]? = some s' → ∀ o, s.id? = some o → s'.id? = some o → s.writes = false ∧ s'.writes = false := by
  intro l
  induction l with
  | nil => intro _ i j s s' _ h; simp at h
  | cons a l ih =>
    intro hs i j s s' hij h1 h2 o ho ho'
    simp only [srcsOk, Bool.and_eq_true] at hs
    cases j with
    | zero => omega
    | succ j =>
      cases i with
      | zero =>
        simp at h1
        subst h1
        have := List.all_eq_true.1 hs.1 s' (List.mem_of_getElem? (by simpa using h2))
        unfold clash at this
        simp only [ho, ho', beq_self_eq_true, Bool.true_and, Bool.not_eq_true', Bool.or_eq_false_iff] at this
        exact this
      | succ i => exact ih hs.2 i j s s' (by omega) (by simpa using h1) (by simpa using h2) o ho ho'

structure Hand (ob : Objs) (w : World) (ρ : Nat → Value) (φ : Nat → Fp) (Z : Fp) (es : List (Cont × Src)) (xs : List Value) (Fs : Nat → Fp) : Prop where
  foot : ∀ (i : Nat) (e : Cont × Src) (x : Value), es[i]? = some e → xs[i]? = some x → Foot ob w ρ φ Z e.2 x (Fs i)
  out : ∀ i, es[i]? = none → Fs i = none_
  dis : ∀ i j k, Fs i k → Fs j k → i = j
  ro : ∀ (i : Nat) (c : Cont) (o b g sz lo len : Nat) (p : List (Nat × Nat)), es[i]? = some (c, .ro (.h o b g p sz lo len)) → ∀ j k, Fs j k → ¬ φ o k

theorem hand (h : OInv w0 A ob w ρ φ Z) {es : List (Cont × Src)} {xs : List Value} (hE : Ents ob w ρ es xs) (hs : srcsOk (es.map (·.2)) = true) : ∃ Fs, Hand ob w ρ φ Z es xs Fs := by
  have ex : ∀ i : Nat, ∃ F : Fp, (∀ (e : Cont × Src) (x : Value), es[i]? = some e → xs[i]? = some x → Foot ob w ρ φ Z e.2 x F) ∧ (es[i]? = none → F = none_) := by
    intro i
    cases hi : es[i]? with
    | none => exact ⟨none_, fun e x h => (by cases h), fun _ => rfl⟩
    | some e =>
      have hlt : i < xs.length := by rw [← hE.len]; exact (List.getElem?_eq_some_iff.1 hi).1
      have hx : xs[i]? = some xs[i] := List.getElem?_eq_getElem hlt
      obtain ⟨F, hF⟩ := ent_foot h (hE.ok i e _ hi hx)
      exact ⟨F, fun e' x' h1 h2 => by rw [hx] at h2; cases h1; cases h2; exact hF, fun h => by cases h⟩
  let Fs : Nat → Fp := fun i => Classical.choose (ex i)
  have hF := fun i => Classical.choose_spec (ex i)
  change ∀ i : Nat, (∀ (e : Cont × Src) (x : Value), es[i]? = some e → xs[i]? = some x → Foot ob w ρ φ Z e.2 x (Fs i)) ∧ (es[i]? = none → Fs i = none_) at hF
  -- a block of a footprint is one of an object that is written
  have own : ∀ (i k : Nat), Fs i k → ∃ e o, es[i]? = some e ∧ e.2.id? = some o ∧ e.2.writes = true ∧ φ o k := by
    intro i k hk
    cases hi : es[i]? with
    | none => rw [(hF i).2 hi] at hk; exact hk.elim
    | some e =>
      have hlt : i < xs.length := by rw [← hE.len]; exact (List.getElem?_eq_some_iff.1 hi).1
      obtain ⟨o, h1, h2, h3⟩ := ((hF i).1 e _ hi (List.getElem?_eq_getElem hlt)).sub k hk
      exact ⟨e, o, rfl, h1, h2, h3⟩
  have two : ∀ (i j : Nat) (s s' : Src), i ≠ j → (es.map (·.2))[i]? = some s → (es.map (·.2))[j]? = some s' → ∀ o, s.id? = some o → s'.id? = some o → s.writes = true → False := by
    intro i j s s' hne h1 h2 o ho ho' hw
    rcases Nat.lt_or_gt_of_ne hne with hlt | hlt
    · rw [(srcsOk_ne hs i j s s' hlt h1 h2 o ho ho').1] at hw; cases hw
    · rw [(srcsOk_ne hs j i s' s hlt h2 h1 o ho' ho).2] at hw; cases hw
  refine ⟨Fs, fun i => (hF i).1, fun i => (hF i).2, fun i j k h1 h2 => ?_, fun i c o b g sz lo len p hi j k hk hφ => ?_⟩
  · obtain ⟨e, o, g1, g2, g3, g4⟩ := own i k h1
    obtain ⟨e', o', g1', g2', g3', g4'⟩ := own j k h2
    have := h.disj o o' k g4 g4'
    subst this
    refine Classical.byContradiction fun hne => two i j e.2 e'.2 hne (by simp [g1]) (by simp [g1']) o g2 g2' g3
  · obtain ⟨e, o', g1, g2, g3, g4⟩ := own j k hk
    have := h.disj o o' k hφ g4
    subst this
    by_cases hne : j = i
    · subst hne; rw [hi] at g1; cases g1; simp [Src.writes] at g3
    · exact two j i e.2 _ hne (by simp [g1]) (by simp [hi]; rfl) o g2 rfl g3

def Af (Fs : Nat → Fp) : Fp := fun k => ∃ i, Fs i k
def Zf (w : World) (Fs : Nat → Fp) : Fp := fun k => k < w.heap.size ∧ ¬ Af Fs k
def ρf (xs : List Value) (o : Nat) : Value := xs.getD (o - 1000000) undef
def φf (Fs : Nat → Fp) (o : Nat) : Fp := fun k => 1000000 ≤ o ∧ Fs (o - 1000000) k

theorem obIn_hi (conts : List Cont) (i : Nat) : obIn conts (1000000 + i) = ⟨0, 0, false, conts.getD i .dead⟩ := by simp [obIn]
theorem aim_avr {es : List (Cont × Src)} {xs : List Value} (hE : es.length = xs.length) (hO : ∀ i l sz rows src, es[i]? = some (Cont.tree l (.sl sz rows), src) → ∃ Z F, Ow Z w l (xs.getD i undef) (.sl sz rows) F)
    (hB : ∀ i cells src, es[i]? = some (Cont.box cells, src) → ∃ b, xs.getD i undef = .pointer (some ⟨b, 0, none⟩)) {a : AV} {v : Value} (h : AIm es xs a v) : AVR w (obIn (es.map (·.1))) (ρf xs) a v := by
  induction h with
  | s h => exact .s h
  | u => exact .u
  | nl => exact .nl
  | @h i sz lvl rows src x he hx =>
    have hc : (obIn (es.map (·.1)) (1000000 + i)).c = .tree lvl (.sl sz rows) := by rw [obIn_hi]; simp [he]
    have hr : ρf xs (1000000 + i) = x := by simp [ρf, hx]
    obtain ⟨Z, F, ho⟩ := hO i lvl sz rows src he
    rw [show xs.getD i undef = x by simp [hx]] at ho
    refine avr_root ho hc hr rfl ?_
    rw [obIn_hi]
  | @pt i cells src x he hx =>
    have hc : (obIn (es.map (·.1)) (1000000 + i)).c = .box cells := by rw [obIn_hi]; simp [he]
    have hr : ρf xs (1000000 + i) = x := by simp [ρf, hx]
    obtain ⟨b, hb⟩ := hB i cells src he
    rw [show xs.getD i undef = x by simp [hx]] at hb
    refine .pt (by rw [obIn_hi]; exact ⟨Nat.le_refl _, fun _ h => (h rfl).elim⟩) ⟨_, hb⟩ fun _ => ⟨fun lvl t h => (by rw [hc] at h; cases h), fun cs h _ => ⟨b, by rw [hr, hb], by rw [hb, add_zero_addr]⟩⟩
  | ag hl h ih => exact .ag hl ih
  | fn hl h ih => exact .fn hl ih

theorem callee_in (h : OInv w0 A ob w ρ φ Z) {es : List (Cont × Src)} {xs : List Value} (hE : Ents ob w ρ es xs) {Fs : Nat → Fp} (hH : Hand ob w ρ φ Z es xs Fs) :
    OInv w (Af Fs) (obIn (es.map (·.1))) w (ρf xs) (φf Fs) (Zf w Fs) ∧ ∀ a v, AIm es xs a v → AVR w (obIn (es.map (·.1))) (ρf xs) a v := by
  have hAZ : ∀ k, Af Fs k → ¬ Z k ∧ k < w.heap.size := by
    rintro k ⟨i, hk⟩
    cases hi : es[i]? with
    | none => rw [hH.out i hi] at hk; exact hk.elim
    | some e =>
      have hlt : i < xs.length := by rw [← hE.len]; exact (List.getElem?_eq_some_iff.1 hi).1
      obtain ⟨o, _, _, h3⟩ := (hH.foot i e _ hi (List.getElem?_eq_getElem hlt)).sub k hk
      exact ⟨h.notZ o k h3, h.lt o k h3⟩
  have hZ : ∀ k, Z k → Zf w Fs k := fun k hk => ⟨h.zlt k hk, fun hA => (hAZ k hA).1 hk⟩
  -- each tree
  have tr : ∀ (i : Nat) (l : Nat) (t : T) (s : Src) (x : Value), es[i]? = some (.tree l t, s) → xs[i]? = some x → Ow (Zf w Fs) w l x t (Fs i) := by
    intro i l t s x hi hx
    have hk := hE.ok i _ x hi hx
    have hf := hH.foot i _ x hi hx
    simp only at hk hf
    cases hk with
    | @ro o b g p sz lo len lvl t rows _ hc hv hat hxa =>
      simp only [Foot] at hf
      rw [hf]
      cases hxa with | @h _ _ _ _ _ _ _ _ hbn hsl hval =>
      obtain ⟨_, hHd⟩ := hval hv
      obtain ⟨v', rows', hA, hle, hvw⟩ := hHd lvl t hc
      have e := hA.at?
      rw [hat] at e
      cases e
      obtain ⟨v2, F', hA2, how, hsub, _⟩ := (h.tree hc).focus p hat
      have := hA.det hA2
      subst this
      obtain ⟨F2, hs2, how2⟩ := how.view hvw hle
      obtain ⟨F3, hs3, how3⟩ := how2.lower 0 (Nat.zero_le _)
      have := how3.zero rfl
      subst this
      refine how3.monoZ fun k hk => ?_
      rcases hk with hk | ⟨hk, _⟩
      · exact hZ k hk
      · have hφ : φ o k := hsub k (hs2 k hk)
        exact ⟨h.lt o k hφ, fun ⟨j, hj⟩ => hH.ro i _ o b g sz lo len p hi j k hj hφ⟩
    | nl => simp only [Foot] at hf; rw [hf]; exact .nil
    | @root o b lvl sz rows hc hb hl =>
      simp only [Foot] at hf
      rw [hf]
      exact (h.tree hc).monoZ hZ
    | @nest o b g p lvl t sz rows _ hc hv hp hat hl hA =>
      obtain ⟨_, t', sz', rows', hc', hat', how, _⟩ := hf
      rw [hc] at hc'
      cases hc'
      rw [hat] at hat'
      cases hat'
      exact how.monoZ hZ
  have avr : ∀ a v, AIm es xs a v → AVR w (obIn (es.map (·.1))) (ρf xs) a v := by
    intro a v ha
    refine aim_avr hE.len (fun i l sz rows src hi => ?_) (fun i cells src hi => ?_) ha
    · have hlt : i < xs.length := by rw [← hE.len]; exact (List.getElem?_eq_some_iff.1 hi).1
      exact ⟨_, _, by rw [show xs.getD i undef = xs[i] by simp [hlt]]; exact tr i l _ src _ hi (List.getElem?_eq_getElem hlt)⟩
    · have hlt : i < xs.length := by rw [← hE.len]; exact (List.getElem?_eq_some_iff.1 hi).1
      have hk := hE.ok i _ _ hi (List.getElem?_eq_getElem hlt)
      simp only at hk
      rw [show xs.getD i undef = xs[i] by simp [hlt]]
      generalize xs[i] = x at hk
      cases hk with | @box o b cells _ bb cs e fr hc hb hρ hw hl h => exact ⟨bb, hρ⟩
  refine ⟨⟨Keep.refl _ _, fun k hk hA => ⟨hk, hA⟩, fun k hk => hk.1, ?_, ?_, ?_, ?_⟩, avr⟩
  · rintro o k ⟨_, hk⟩ hz
    exact hz.2 ⟨_, hk⟩
  · rintro o o' k ⟨h1, hk⟩ ⟨h2, hk'⟩
    have := hH.dis _ _ k hk hk'
    omega
  · rintro o k ⟨_, hk⟩ _
    exact ⟨_, hk⟩
  · intro o
    unfold ObOk
    by_cases ho : 1000000 ≤ o
    · obtain ⟨i, rfl⟩ : ∃ i, o = 1000000 + i := ⟨o - 1000000, by omega⟩
      rw [obIn_hi]
      simp only
      cases hi : es[i]? with
      | none =>
        simp only [List.getD_eq_getElem?_getD, List.getElem?_map, hi, Option.map_none, Option.getD_none]
        rintro k ⟨_, hk⟩
        rw [Nat.add_sub_cancel_left, hH.out i hi] at hk
        exact hk
      | some e =>
        obtain ⟨c, s⟩ := e
        have hlt : i < xs.length := by rw [← hE.len]; exact (List.getElem?_eq_some_iff.1 hi).1
        have hx : xs[i]? = some xs[i] := List.getElem?_eq_getElem hlt
        simp only [List.getD_eq_getElem?_getD, List.getElem?_map, hi, Option.map_some, Option.getD_some]
        have hρ : ρf xs (1000000 + i) = xs[i] := by simp [ρf, hx]
        have hφ : φf Fs (1000000 + i) = Fs i := by funext k; simp [φf]
        rw [hρ, hφ]
        cases c with
        | dead =>
          have hk := hE.ok i _ _ hi hx
          cases hk
        | tree l t => exact tr i l t s _ hi hx
        | box cells =>
          have hk := hE.ok i _ _ hi hx
          have hf := hH.foot i _ _ hi hx
          simp only at hk hf
          generalize hgx : xs[i] = x at hk hf
          cases hk with | @box o b cells0 _ bb cs e fr hc hb hρ2 hw hl hcl =>
          simp only [Foot] at hf
          obtain ⟨bb2, cs2, e2, fr2, k1, k2, k3, k4, k5, k6⟩ := h.boxed hc
          rw [hρ2] at k1
          cases k1
          rw [hw] at k2
          cases k2
          refine ⟨bb, cs, e, fr, hρ2, hw, k3, hl, fun j y hy => avr _ _ (hcl j y hy), fun k => by rw [hf]; exact k6 k⟩
    · have hd : (obIn (es.map (·.1)) o).c = .dead := by simp [obIn, ho]
      rw [hd]
      rintro k ⟨h1, _⟩
      exact ho h1
end Go.Proofs.YtipfcgbhaalcdaaGreat.Abs
namespace Go.Proofs.YtipfcgbhaalcdaaGreat.Abs
open Go
set_option linter.unusedVariables false
set_option linter.unusedSimpArgs false
variable {P : Program} {E : Env} {w0 : World} {A : Fp} {ob : Objs} {w : World} {ρ : Nat → Value} {φ : Nat → Fp} {Z : Fp} {sl : Slots} {a : Act}

def obOut (conts : List Cont) (r : Res) (o : Nat) : Ob :=
  if 2000000 ≤ o then ⟨0 + 1, 0, false, r.news.getD (o - 2000000) .dead⟩
  else if 1000000 ≤ o then (match r.back.getD (o - 1000000) none with
    | some c => ⟨0, 1, true, c⟩
    | none => obIn conts o)
  else ⟨0, 0, false, .dead⟩
def BackOk : Cont → Option (Option Cont) → Prop
  | .tree 0 _, b => b = some none
  | .tree (_ + 1) t0, b => b = some (some .dead) ∨ ∃ l t, b = some (some (.tree l t)) ∧ T.full l t = true ∧ t.like t0 = true
  | .box _, b => ∃ l, b = some (some (.box l))
  | .dead, b => False
structure FnOk (P : Program) (f : FuncId) (args : List AV) (conts : List Cont) (r : Res) : Prop where
  enters : ∀ (w : World) (vs : Array Value), (callFunc f vs).run P w = .ok (.enter f vs) w
  small : conts.length < 1000000
  news : ∀ (j l : Nat) (t : T), r.news[j]? = some (.tree l t) → T.full l t = true
  back : ∀ (i : Nat) (c : Cont), conts[i]? = some c → BackOk c r.back[i]?
  len : r.back.length = conts.length
  run : ∀ (w : World) (A : Fp) (ρ : Nat → Value) (φ : Nat → Fp) (Z : Fp) (vs : Array Value), OInv w A (obIn conts) w ρ φ Z → (∀ k, Z k → ¬ A k) → vs.size = args.length → (∀ (i : Nat) (x : AV), args[i]? = some x → AVR w (obIn conts) ρ x (vs.getD i undef)) →
    Calls P f vs w (fun | .returned v, w' => ∃ ρ' φ' Z', Step w A (obIn conts) w ρ (obOut conts r) w' ρ' φ' Z' ∧ AVR w' (obOut conts r) ρ' r.v v | _, _ => False)

theorem obOut_arg {conts : List Cont} {r : Res} {i : Nat} (hi : i < 1000000) : obOut conts r (1000000 + i) = match r.back.getD i none with | some c => ⟨0, 1, true, c⟩ | none => obIn conts (1000000 + i) := by
  unfold obOut
  rw [if_neg (by omega), if_pos (by omega), Nat.add_sub_cancel_left]
theorem obOut_new {conts : List Cont} {r : Res} {j : Nat} : obOut conts r (2000000 + j) = ⟨1, 0, false, r.news.getD j .dead⟩ := by
  unfold obOut
  rw [if_pos (by omega), Nat.add_sub_cancel_left]

def rob (x : Ob) (s : Src) : Cont → Ob
  | .dead => ⟨x.birth, x.sver + 1, true, .dead⟩
  | .box l => ⟨x.birth, x.sver, true, .box (l.map fun _ => .u)⟩
  | .tree l' t' => match s, x.c with
    | .nest _ _ _ p _, .tree l t => ⟨x.birth, x.sver + 1, true, .tree l (t.put p t')⟩
    | _, _ => ⟨x.birth, x.sver + 1, true, .tree l' t'⟩

structure BackR (ob : Objs) (es : List (Cont × Src)) (bk : List (Option Cont)) (bs : List (Nat × Ob)) : Prop where
  fwd : ∀ q ∈ bs, ∃ (i : Nat) (c : Cont) (s : Src) (c' : Cont), es[i]? = some (c, s) ∧ bk[i]? = some (some c') ∧ s.writes = true ∧ s.id? = some q.1 ∧ q.2 = rob (ob q.1) s c'
  bwd : ∀ (i : Nat) (c : Cont) (s : Src) (c' : Cont) (o : Nat), es[i]? = some (c, s) → bk[i]? = some (some c') → s.writes = true → s.id? = some o → (o, rob (ob o) s c') ∈ bs
  lvl : ∀ (i : Nat) (c : Cont) (o b g : Nat) (p : List (Nat × Nat)) (lvl l' : Nat) (t' : T), es[i]? = some (c, .nest o b g p lvl) → bk[i]? = some (some (.tree l' t')) → ∃ l t, (ob o).c = .tree l t ∧ l' + p.length = l
  nest : ∀ (i : Nat) (c : Cont) (o b g : Nat) (p : List (Nat × Nat)) (lvl : Nat) (c' : Cont), es[i]? = some (c, .nest o b g p lvl) → bk[i]? = some (some c') → ∃ l t, c' = .tree l t
  len : bk.length = es.length

theorem BackR.nil : BackR ob [] [] [] := ⟨fun q h => (by cases h), fun i c s c' o h => by simp at h, fun i c o b g p lvl l' t' h => by simp at h, fun i c o b g p lvl c' h => by simp at h, rfl⟩
theorem BackR.skip {es : List (Cont × Src)} {bk : List (Option Cont)} {bs : List (Nat × Ob)} (h : BackR ob es bk bs) (e : Cont × Src) (x : Option Cont) (hx : x = none ∨ e.2.writes = false) : BackR ob (e :: es) (x :: bk) bs := by
  refine ⟨fun q hq => ?_, fun i c s c' o h1 h2 h3 h4 => ?_, fun i c o b g p lvl l' t' h1 h2 => ?_, fun i c o b g p lvl c' h1 h2 => ?_, by simp [h.len]⟩
  · obtain ⟨i, c, s, c', g1, g2, g3⟩ := h.fwd q hq
    exact ⟨i + 1, c, s, c', by simpa using g1, by simpa using g2, g3⟩
  · cases i with
    | zero =>
      simp at h1 h2
      rcases hx with hx | hx
      · rw [hx] at h2; cases h2
      · rw [h1] at hx; simp only at hx; rw [hx] at h3; cases h3
    | succ i => exact h.bwd i c s c' o (by simpa using h1) (by simpa using h2) h3 h4
  · cases i with
    | zero =>
      simp at h1 h2
      rcases hx with hx | hx
      · rw [hx] at h2; cases h2
      · rw [h1] at hx; cases hx
    | succ i => exact h.lvl i c o b g p lvl l' t' (by simpa using h1) (by simpa using h2)
  · cases i with
    | zero =>
      simp at h1 h2
      rcases hx with hx | hx
      · rw [hx] at h2; cases h2
      · rw [h1] at hx; cases hx
    | succ i => exact h.nest i c o b g p lvl c' (by simpa using h1) (by simpa using h2)
theorem BackR.put {es : List (Cont × Src)} {bk : List (Option Cont)} {bs : List (Nat × Ob)} (h : BackR ob es bk bs) {c : Cont} {s : Src} {c' : Cont} {o : Nat} (hw : s.writes = true) (ho : s.id? = some o)
    (hn : ∀ o b g p lvl, s = .nest o b g p lvl → ∃ l' t' l t, c' = .tree l' t' ∧ (ob o).c = .tree l t ∧ l' + p.length = l) : BackR ob ((c, s) :: es) (some c' :: bk) ((o, rob (ob o) s c') :: bs) := by
  refine ⟨fun q hq => ?_, fun i c1 s1 c1' o1 h1 h2 h3 h4 => ?_, fun i c1 o1 b g p lvl l' t' h1 h2 => ?_, fun i c1 o1 b g p lvl c2 h1 h2 => ?_, by simp [h.len]⟩
  · rcases List.mem_cons.1 hq with rfl | hq
    · exact ⟨0, c, s, c', rfl, rfl, hw, ho, rfl⟩
    · obtain ⟨i, c, s, c', g1, g2, g3⟩ := h.fwd q hq
      exact ⟨i + 1, c, s, c', by simpa using g1, by simpa using g2, g3⟩
  · cases i with
    | zero =>
      simp at h1 h2
      obtain ⟨rfl, rfl⟩ := h1
      subst h2
      rw [ho] at h4
      cases h4
      exact List.mem_cons_self ..
    | succ i => exact List.mem_cons_of_mem _ (h.bwd i c1 s1 c1' o1 (by simpa using h1) (by simpa using h2) h3 h4)
  · cases i with
    | zero =>
      simp at h1 h2
      obtain ⟨rfl, rfl⟩ := h1
      subst h2
      obtain ⟨l1, t1, l, t, e1, e2, e3⟩ := hn _ _ _ _ _ rfl
      cases e1
      exact ⟨l, t, e2, e3⟩
    | succ i => exact h.lvl i c1 o1 b g p lvl l' t' (by simpa using h1) (by simpa using h2)
  · cases i with
    | zero =>
      simp at h1 h2
      obtain ⟨rfl, rfl⟩ := h1
      subst h2
      obtain ⟨l1, t1, l, t, e1, e2, e3⟩ := hn _ _ _ _ _ rfl
      exact ⟨l1, t1, e1⟩
    | succ i => exact h.nest i c1 o1 b g p lvl c2 (by simpa using h1) (by simpa using h2)

theorem backs_run {α : Type} : ∀ (bk : List (Option Cont)) (es : List (Cont × Src)) (k : List (Nat × Ob) → Rd α) (r : α), (backs bk es k).run ob = some r → ∃ bs, (k bs).run ob = some r ∧ BackR ob es bk bs := by
  intro bk
  induction bk with
  | nil =>
    intro es k r h
    cases es with
    | nil => exact ⟨[], h, .nil⟩
    | cons e es => simp [backs, Rd.run] at h
  | cons x bk ih =>
    intro es k r h
    cases es with
    | nil => cases x with
      | none => simp [backs, Rd.run] at h
      | some c => cases c <;> simp [backs, Rd.run] at h
    | cons e es =>
      obtain ⟨c, s⟩ := e
      cases x with
      | none =>
        obtain ⟨bs, h1, h2⟩ := ih es k r (by simpa [backs] using h)
        exact ⟨bs, h1, h2.skip _ _ (.inl rfl)⟩
      | some c' =>
        cases s with
        | ro y =>
          cases y with
          | nl n =>
            obtain ⟨bs, h1, h2⟩ := ih es k r (by cases c' <;> simpa [backs] using h)
            exact ⟨bs, h1, h2.skip _ _ (.inr rfl)⟩
          | _ => cases c' <;> simp [backs, Rd.run] at h
        | root o b =>
          cases c' with
          | dead =>
            simp only [backs, Rd.run] at h
            obtain ⟨bs, h1, h2⟩ := ih es _ r h
            exact ⟨_, h1, h2.put (c' := .dead) rfl rfl (fun _ _ _ _ _ h => by cases h)⟩
          | tree l t =>
            simp only [backs, Rd.run] at h
            obtain ⟨bs, h1, h2⟩ := ih es _ r h
            exact ⟨_, h1, h2.put (c' := .tree l t) rfl rfl (fun _ _ _ _ _ h => by cases h)⟩
          | box l => simp [backs, Rd.run] at h
        | box o b =>
          cases c' with
          | box l =>
            simp only [backs, Rd.run] at h
            obtain ⟨bs, h1, h2⟩ := ih es _ r h
            exact ⟨_, h1, h2.put (c' := .box l) rfl rfl (fun _ _ _ _ _ h => by cases h)⟩
          | dead => simp [backs, Rd.run] at h
          | tree l t => simp [backs, Rd.run] at h
        | nest o b g p lvl =>
          cases c' with
          | tree l' t' =>
            simp only [backs, Rd.run] at h
            split at h
            · rename_i l t hc
              split at h
              · rename_i hl
                obtain ⟨bs, h1, h2⟩ := ih es _ r h
                have hp := h2.put (c := c) (s := .nest o b g p lvl) (c' := .tree l' t') (o := o) rfl rfl (fun _ _ _ _ _ h => by cases h; exact ⟨l', t', l, t, rfl, hc, hl⟩)
                simp only [rob, hc] at hp
                exact ⟨_, h1, hp⟩
              · simp [Rd.run] at h
            · simp [Rd.run] at h
          | dead => simp [backs, Rd.run] at h
          | box l => simp [backs, Rd.run] at h

theorem upds_mem {α : Type} (x : α) (o : Nat) : ∀ (ss : List (Nat × α)) (f : Nat → α), (∃ q ∈ ss, q.1 = o) → (∀ q ∈ ss, q.1 = o → q.2 = x) → upds f ss o = x := by
  intro ss
  induction ss with
  | nil => intro f h; obtain ⟨q, hq, _⟩ := h; cases hq
  | cons p ss ih =>
    intro f h hx
    obtain ⟨n, y⟩ := p
    simp only [upds]
    by_cases hr : ∃ q ∈ ss, q.1 = o
    · exact ih _ hr fun q hq => hx q (List.mem_cons_of_mem _ hq)
    · rw [upds_not _ _ _ (fun q hq hqo => hr ⟨q, hq, hqo⟩)]
      obtain ⟨q, hq, hqo⟩ := h
      rcases List.mem_cons.1 hq with rfl | hq
      · simp only at hqo
        subst hqo
        rw [upd_same]
        exact hx _ (List.mem_cons_self ..) rfl
      · exact (hr ⟨q, hq, hqo⟩).elim
end Go.Proofs.YtipfcgbhaalcdaaGreat.Abs
namespace Go.Proofs.YtipfcgbhaalcdaaGreat.Abs
open Go
set_option linter.unusedVariables false
set_option linter.unusedSimpArgs false
variable {P : Program} {E : Env} {w0 : World} {A : Fp} {ob : Objs} {w : World} {ρ : Nat → Value} {φ : Nat → Fp} {Z : Fp} {sl : Slots} {a : Act}

def Wr (es : List (Cont × Src)) (o i : Nat) : Prop := ∃ c s, es[i]? = some (c, s) ∧ s.writes = true ∧ s.id? = some o
theorem wr_uniq {es : List (Cont × Src)} (hs : srcsOk (es.map (·.2)) = true) {o i j : Nat} (h1 : Wr es o i) (h2 : Wr es o j) : i = j := by
  obtain ⟨c, s, a1, a2, a3⟩ := h1
  obtain ⟨c', s', b1, b2, b3⟩ := h2
  refine Classical.byContradiction fun hne => ?_
  rcases Nat.lt_or_gt_of_ne hne with hlt | hlt
  · have := srcsOk_ne hs i j s s' hlt (by simp [a1]) (by simp [b1]) o a3 b3
    rw [this.1] at a2; cases a2
  · have := srcsOk_ne hs j i s' s hlt (by simp [b1]) (by simp [a1]) o b3 a3
    rw [this.2] at a2; cases a2
theorem wr_ob {es : List (Cont × Src)} {bk : List (Option Cont)} {bs : List (Nat × Ob)} (hB : BackR ob es bk bs) (hs : srcsOk (es.map (·.2)) = true) {o i : Nat} {c : Cont} {s : Src} {c' : Cont} (h1 : es[i]? = some (c, s)) (h2 : s.writes = true) (h3 : s.id? = some o) (h4 : bk[i]? = some (some c')) :
    upds ob bs o = rob (ob o) s c' := by
  refine upds_mem _ o bs ob ⟨_, hB.bwd i c s c' o h1 h4 h2 h3, rfl⟩ fun q hq hqo => ?_
  obtain ⟨j, c2, s2, c2', g1, g2, g3, g4, g5⟩ := hB.fwd q hq
  rw [hqo] at g4 g5
  obtain rfl := wr_uniq hs ⟨c, s, h1, h2, h3⟩ ⟨c2, s2, g1, g3, g4⟩
  rw [h1] at g1
  cases g1
  rw [h4] at g2
  cases g2
  exact g5
theorem nwr_ob {es : List (Cont × Src)} {bk : List (Option Cont)} {bs : List (Nat × Ob)} (hB : BackR ob es bk bs) {o : Nat} (h : ∀ i, ¬ Wr es o i) : upds ob bs o = ob o := by
  refine upds_not _ _ _ fun q hq hqo => ?_
  obtain ⟨i, c, s, c', g1, g2, g3, g4, g5⟩ := hB.fwd q hq
  exact h i ⟨c, s, g1, g3, by rw [g4, hqo]⟩

def φ1 (φ : Nat → Fp) (es : List (Cont × Src)) (Fs φ' : Nat → Fp) (o : Nat) : Fp := fun k =>
  ((∀ i, ¬ Wr es o i) ∧ φ o k) ∨ ∃ i, Wr es o i ∧ ((φ o k ∧ ¬ Fs i k) ∨ φ' (1000000 + i) k)

structure After (w : World) (A : Fp) (conts : List Cont) (ρ0 : Nat → Value) (r : Res) (w' : World) (ρ' : Nat → Value) (φ' : Nat → Fp) (Z' : Fp) : Prop where
  st : Step w A (obIn conts) w ρ0 (obOut conts r) w' ρ' φ' Z'

theorem new_or {conts : List Cont} {ρ0 ρ' : Nat → Value} {r : Res} {w' : World} {φ' : Nat → Fp} {Z' : Fp} (hst : Step w A (obIn conts) w ρ0 (obOut conts r) w' ρ' φ' Z') {q k : Nat} (h : φ' q k) : w.heap.size ≤ k ∨ A k := by
  rcases Nat.lt_or_ge k w.heap.size with hlt | hge
  · exact .inr (hst.inv.fresh q k h hlt)
  · exact .inl hge

section
variable {es : List (Cont × Src)} {xs : List Value} {Fs : Nat → Fp} {r : Res} {w' : World} {ρ' : Nat → Value} {φ' : Nat → Fp} {Z' : Fp} {bs : List (Nat × Ob)}

theorem af_wr (h : OInv w0 A ob w ρ φ Z) (hE : Ents ob w ρ es xs) (hH : Hand ob w ρ φ Z es xs Fs) {i k : Nat} (hk : Fs i k) : ∃ o, Wr es o i ∧ φ o k := by
  cases hi : es[i]? with
  | none => rw [hH.out i hi] at hk; exact hk.elim
  | some e =>
    have hlt : i < xs.length := by rw [← hE.len]; exact (List.getElem?_eq_some_iff.1 hi).1
    obtain ⟨o, h1, h2, h3⟩ := (hH.foot i e _ hi (List.getElem?_eq_getElem hlt)).sub k hk
    exact ⟨o, ⟨e.1, e.2, hi, h2, h1⟩, h3⟩

theorem stays (h : OInv w0 A ob w ρ φ Z) (hE : Ents ob w ρ es xs) (hs : srcsOk (es.map (·.2)) = true) (hH : Hand ob w ρ φ Z es xs Fs) {o k : Nat} (hk : φ o k) (hn : ∀ i, Wr es o i → ¬ Fs i k) : ¬ Af Fs k := by
  rintro ⟨i, hi⟩
  obtain ⟨o', hw, ho'⟩ := af_wr h hE hH hi
  have := h.disj o o' k hk ho'
  subst this
  exact hn i hw hi

theorem arg_val (hE : Ents ob w ρ es xs) (hO : OInv w (Af Fs) (obIn (es.map (·.1))) w (ρf xs) (φf Fs) (Zf w Fs)) (havr : ∀ a v, AIm es xs a v → AVR w (obIn (es.map (·.1))) (ρf xs) a v)
    (hst : Step w (Af Fs) (obIn (es.map (·.1))) w (ρf xs) (obOut (es.map (·.1)) r) w' ρ' φ' Z') {i : Nat} (hi : i < 1000000) {l sz : Nat} {rows : List (List T)} {s : Src} {x : Value} (he : es[i]? = some (.tree l (.sl sz rows), s)) (hx : xs[i]? = some x)
    {l' : Nat} {t' : T} (hc : (obOut (es.map (·.1)) r (1000000 + i)).c = .tree l' t') (hb : (obOut (es.map (·.1)) r (1000000 + i)).birth = 0) (hlike : t'.like (.sl sz rows) = true) : ρ' (1000000 + i) = x := by
  have h1 := hst.same _ _ (havr _ _ (.h he hx))
  cases h1 with | @h _ _ _ _ _ _ _ _ hbn hsl hval =>
  obtain ⟨_, hH⟩ := hval ⟨hb, .inl rfl⟩
  obtain ⟨v', rows', hA, hle, hvw⟩ := hH l' t' hc
  obtain ⟨e1, e2⟩ := hA.root
  subst e1 e2
  simp only [T.like, Bool.and_eq_true, beq_iff_eq] at hlike
  exact (view_all (hst.inv.tree hc) hvw (by omega)).symm

theorem stage1 (h : OInv w0 A ob w ρ φ Z) (hE : Ents ob w ρ es xs) (hs : srcsOk (es.map (·.2)) = true) (hH : Hand ob w ρ φ Z es xs Fs) (hsm : es.length < 1000000)
    (hO : OInv w (Af Fs) (obIn (es.map (·.1))) w (ρf xs) (φf Fs) (Zf w Fs)) (havr : ∀ a v, AIm es xs a v → AVR w (obIn (es.map (·.1))) (ρf xs) a v)
    (hbk : ∀ (i : Nat) (c : Cont), (es.map (·.1))[i]? = some c → BackOk c r.back[i]?)
    (hst : Step w (Af Fs) (obIn (es.map (·.1))) w (ρf xs) (obOut (es.map (·.1)) r) w' ρ' φ' Z') (hB : BackR ob es r.back bs) :
    Step w0 A ob w ρ (upds ob bs) w' ρ (φ1 φ es Fs φ') Z := by
  have hk := hst.inv.keep
  have hblk : ∀ k, k < w.heap.size → ¬ Af Fs k → w'.heap[k]? = w.heap[k]? := hk.block
  have hAφ : ∀ k, Af Fs k → ∃ o i, Wr es o i ∧ Fs i k ∧ φ o k := by
    rintro k ⟨i, hi⟩
    obtain ⟨o, h1, h2⟩ := af_wr h hE hH hi
    exact ⟨o, i, h1, hi, h2⟩
  have hnew : ∀ q k, φ' q k → w.heap.size ≤ k ∨ Af Fs k := fun q k hq => new_or hst hq
  have hZs : ∀ k, Z k → k < w.heap.size ∧ ¬ Af Fs k := fun k hz => ⟨h.zlt k hz, fun ha => by obtain ⟨o, i, _, _, hφ⟩ := hAφ k ha; exact h.notZ o k hφ hz⟩
  have hZb : ∀ k, Z k → w'.heap[k]? = w.heap[k]? := fun k hz => hblk k (hZs k hz).1 (hZs k hz).2
  -- what was an object's and is not of the callee's
  have cross : ∀ o k q, φ o k → (∀ i, Wr es o i → ¬ Fs i k) → φ' q k → False := by
    intro o k q hφ hn hq
    rcases hnew q k hq with hge | ha
    · exact absurd (h.lt o k hφ) (by omega)
    · exact stays h hE hs hH hφ hn ha
  -- what an entry's argument is behind the call
  have entry : ∀ (i : Nat) (c : Cont) (s : Src) (o : Nat), es[i]? = some (c, s) → s.writes = true → s.id? = some o → ∃ x, xs[i]? = some x ∧ EntOk ob w ρ es xs c s x ∧ Foot ob w ρ φ Z s x (Fs i) ∧ i < 1000000 ∧ BackOk c r.back[i]? := by
    intro i c s o hi _ _
    have hlt := (List.getElem?_eq_some_iff.1 hi).1
    have hltx : i < xs.length := by rw [← hE.len]; exact hlt
    exact ⟨_, List.getElem?_eq_getElem hltx, hE.ok i _ _ hi (List.getElem?_eq_getElem hltx), hH.foot i _ _ hi (List.getElem?_eq_getElem hltx), by omega, hbk i c (by simp [hi])⟩
  have hsame : ∀ o, Same w w' (ob o) (upds ob bs o) (ρ o) (ρ o) := by
    intro o
    by_cases hW : ∃ i, Wr es o i
    · obtain ⟨i, c, s, hi, hw, ho⟩ := hW
      obtain ⟨x, hx, he, hf, hlt, hbo⟩ := entry i c s o hi hw ho
      have hw' : ∀ c', r.back[i]? = some (some c') → upds ob bs o = rob (ob o) s c' := fun c' hb => wr_ob hB hs hi hw ho hb
      cases he with
      | ro => simp [Src.writes] at hw
      | nl => simp [Src.writes] at hw
      | @root o' b lvl sz rows hc hb hl =>
        simp only [Src.id?, Option.some.injEq] at ho
        subst ho
        obtain ⟨l, rfl⟩ : ∃ l, lvl = l + 1 := ⟨lvl - 1, by omega⟩
        rcases hbo with hbo | ⟨l', t', hbo, hfull, hlike⟩
        · rw [hw' _ hbo]
          exact Same.dead (Nat.le_succ _)
        · rw [hw' _ hbo]
          refine Same.root (Nat.le_succ _) (fun he => by omega) (fun sz' lo len x hh => HandleOk.root hc rfl (fun sz2 rows2 e => ?_) hh) (fun i j x hh => PtrOk.root hc rfl (fun sz2 rows2 e => ?_) hh)
          all_goals
            cases e
            cases t' with
            | sl sz3 rows3 => simp only [T.like, Bool.and_eq_true, beq_iff_eq] at hlike; obtain ⟨rfl, hl2⟩ := hlike; exact ⟨rows3, rfl, hl2⟩
            | _ => simp [T.like] at hlike
      | @nest o' b g p lvl t sz rows _ hc hv hp hat hl hA =>
        simp only [Src.id?, Option.some.injEq] at ho
        subst ho
        obtain ⟨l, hl1⟩ : ∃ l, lvl - p.length = l + 1 := ⟨lvl - p.length - 1, by omega⟩
        rw [hl1] at hbo
        rcases hbo with hbo | ⟨l', t', hbo, hfull, hlike⟩
        · obtain ⟨_, _, e⟩ := hB.nest i _ _ _ _ _ _ _ hi hbo
          cases e
        · rw [hw' _ hbo]
          simp only [rob, hc]
          exact Same.root (Nat.le_succ _) (fun he => by omega) (fun sz' lo len x hh => HandleOk.root hc rfl (put_any hp) hh) (fun i j x hh => PtrOk.root hc rfl (put_any hp) hh)
      | @box o' b cells cells' bb cs e fr hc hb hρ hwb hl hcl =>
        simp only [Src.id?, Option.some.injEq] at ho
        subst ho
        obtain ⟨l, hbo⟩ := hbo
        rw [hw' _ hbo]
        exact Same.box hc
    · rw [nwr_ob hB (fun i hi => hW ⟨i, hi⟩)]
      refine Same.stay (Z := Z) fun lvl t hc => ⟨φ o, h.tree hc, hZb, fun k hk' => hblk k (h.lt o k hk') (stays h hE hs hH hk' fun i hi => (hW ⟨i, hi⟩).elim)⟩
  have htr : ∀ a x, AVR w ob ρ a x → AVR w' (upds ob bs) ρ a x := fun a x ha => ha.mono hsame
  refine ⟨⟨h.keep.trans hk (fun n hn ha => by obtain ⟨o, i, _, _, hφ⟩ := hAφ n ha; exact h.fresh o n hφ hn), h.z0, fun k hz => Nat.lt_of_lt_of_le (h.zlt k hz) hk.size, ?_, ?_, ?_, ?_⟩, htr⟩
  · -- notZ
    intro o k hφ hz
    rcases hφ with ⟨_, hφ⟩ | ⟨i, _, ⟨hφ, _⟩ | hq⟩
    · exact h.notZ o k hφ hz
    · exact h.notZ o k hφ hz
    · rcases hnew _ k hq with hge | ha
      · exact absurd (h.zlt k hz) (by omega)
      · exact (hZs k hz).2 ha
  · -- disj
    have key : ∀ o k, φ1 φ es Fs φ' o k → (φ o k ∧ ∀ i, Wr es o i → ¬ Fs i k) ∨ ∃ i, Wr es o i ∧ φ' (1000000 + i) k := by
      intro o k hk'
      rcases hk' with ⟨hn, hφ⟩ | ⟨i, hw, ⟨hφ, hF⟩ | hq⟩
      · exact .inl ⟨hφ, fun i hi => (hn i hi).elim⟩
      · exact .inl ⟨hφ, fun j hj => by rw [wr_uniq hs hj hw]; exact hF⟩
      · exact .inr ⟨i, hw, hq⟩
    intro o o' k h1 h2
    rcases key o k h1 with ⟨a1, a2⟩ | ⟨i, a1, a2⟩
    · rcases key o' k h2 with ⟨b1, b2⟩ | ⟨j, b1, b2⟩
      · exact h.disj o o' k a1 b1
      · exact (cross o k _ a1 a2 b2).elim
    · rcases key o' k h2 with ⟨b1, b2⟩ | ⟨j, b1, b2⟩
      · exact (cross o' k _ b1 b2 a2).elim
      · have e := hst.inv.disj _ _ k a2 b2
        have e2 : i = j := by omega
        subst e2
        obtain ⟨c, s, c1, c2, c3⟩ := a1
        obtain ⟨c', s', d1, d2, d3⟩ := b1
        rw [c1] at d1
        cases d1
        rw [c3] at d3
        cases d3
        rfl
  · -- fresh
    intro o k hφ hlt
    rcases hφ with ⟨_, hφ⟩ | ⟨i, _, ⟨hφ, _⟩ | hq⟩
    · exact h.fresh o k hφ hlt
    · exact h.fresh o k hφ hlt
    · rcases hnew _ k hq with hge | ha
      · exact absurd hlt (by have := h.keep.size; omega)
      · obtain ⟨o', i', _, _, hφ'⟩ := hAφ k ha
        exact h.fresh o' k hφ' hlt
  · -- objs
    intro o
    by_cases hW : ∃ i, Wr es o i
    · obtain ⟨i, hWi⟩ := hW
      have hφ1 : ∀ k, φ1 φ es Fs φ' o k ↔ ((φ o k ∧ ¬ Fs i k) ∨ φ' (1000000 + i) k) := by
        intro k
        refine ⟨fun hk' => ?_, fun hk' => .inr ⟨i, hWi, hk'⟩⟩
        rcases hk' with ⟨hn, _⟩ | ⟨j, hj, hk'⟩
        · exact (hn i hWi).elim
        · rw [wr_uniq hs hj hWi] at hk'; exact hk'
      obtain ⟨c, s, hi, hw, ho⟩ := hWi
      obtain ⟨x, hx, he, hf, hlt, hbo⟩ := entry i c s o hi hw ho
      have hw' : ∀ c', r.back[i]? = some (some c') → upds ob bs o = rob (ob o) s c' := fun c' hb => wr_ob hB hs hi hw ho hb
      have hout : ∀ c', r.back[i]? = some (some c') → obOut (es.map (·.1)) r (1000000 + i) = ⟨0, 1, true, c'⟩ := fun c' hb => by rw [obOut_arg hlt]; simp [hb]
      have hobj : ∀ c', r.back[i]? = some (some c') → ObOk Z' w' (obOut (es.map (·.1)) r) ρ' φ' (1000000 + i) := fun c' hb => hst.inv.objs _
      unfold ObOk
      cases he with
      | ro => simp [Src.writes] at hw
      | nl => simp [Src.writes] at hw
      | @root o' b lvl sz rows hc hb hl =>
        simp only [Src.id?, Option.some.injEq] at ho
        subst ho
        simp only [Foot] at hf
        obtain ⟨l, rfl⟩ : ∃ l, lvl = l + 1 := ⟨lvl - 1, by omega⟩
        rcases hbo with hbo | ⟨l', t', hbo, hfull, hlike⟩
        · rw [hw' _ hbo]
          intro k hk'
          rw [hφ1, hf] at hk'
          rcases hk' with ⟨h1, h2⟩ | h1
          · exact h2 h1
          · have := hobj _ hbo
            unfold ObOk at this
            rw [hout _ hbo] at this
            exact this k h1
        · rw [hw' _ hbo]
          have hcc : (obOut (es.map (·.1)) r (1000000 + i)).c = .tree l' t' := by rw [hout _ hbo]
          have hval := arg_val hE hO havr hst hlt hi hx hcc (by rw [hout _ hbo]) hlike
          have ht := (hst.inv.tree hcc).full hfull Z
          rw [hval] at ht
          exact ht.congrF fun k => by
            rw [hφ1, hf]
            exact ⟨fun h1 => .inr h1, fun h1 => h1.elim (fun h2 => (h2.2 h2.1).elim) id⟩
      | @nest o' b g p lvl t sz rows _ hc hv hp hat hl hA =>
        simp only [Src.id?, Option.some.injEq] at ho
        subst ho
        obtain ⟨hsub, t2, sz2, rows2, hc2, hat2, how, hrep⟩ := hf
        rw [hc] at hc2
        cases hc2
        obtain ⟨l, hl1⟩ : ∃ l, lvl - p.length = l + 1 := ⟨lvl - p.length - 1, by omega⟩
        have hi0 := hi
        rw [hl1] at hbo
        rcases hbo with hbo | ⟨l', t', hbo, hfull, hlike⟩
        · obtain ⟨_, _, e⟩ := hB.nest i _ _ _ _ _ _ _ hi hbo
          cases e
        · rw [hw' _ hbo]
          simp only [rob, hc]
          obtain ⟨l2, t3, e1, e2⟩ := hB.lvl i _ _ _ _ _ _ _ _ hi hbo
          rw [hc] at e1
          cases e1
          have hcc : (obOut (es.map (·.1)) r (1000000 + i)).c = .tree l' t' := by rw [hout _ hbo]
          have hval := arg_val hE hO havr hst hlt hi hx hcc (by rw [hout _ hbo]) hlike
          have ht := (hst.inv.tree hcc).full hfull Z
          rw [hval] at ht
          have hl2 : l' = lvl - p.length := by omega
          rw [hl2] at ht
          have := hrep Z w' t' (φ' (1000000 + i)) (fun k hz => hz) (fun k hk' => by
            rcases hk' with hz | ⟨h1, h2⟩
            · exact hZb k hz
            · exact hblk k (h.lt _ k h1) (stays h hE hs hH h1 fun j hj => by rw [wr_uniq hs hj ⟨_, _, hi0, hw, rfl⟩]; exact h2)) ht (fun k h1 h2 => by
            rcases hnew _ k h1 with hge | ⟨j, hj⟩
            · exact absurd (h.lt _ k h2) (by omega)
            · obtain ⟨o2, hw2, hφ2⟩ := af_wr h hE hH hj
              have := h.disj _ o2 k h2 hφ2
              subst this
              rw [← wr_uniq hs hw2 ⟨_, _, hi0, hw, rfl⟩]; exact hj)
          exact this.congrF fun k => (hφ1 k).symm
      | @box o' b cells cells' bb cs e fr hc hb hρ hwb hl hcl =>
        simp only [Src.id?, Option.some.injEq] at ho
        subst ho
        simp only [Foot] at hf
        obtain ⟨lb, hbo⟩ := hbo
        rw [hw' _ hbo]
        have hcc : (obOut (es.map (·.1)) r (1000000 + i)).c = .box lb := by rw [hout _ hbo]
        obtain ⟨b2, cs2, e2, fr2, k1, k2, k3, k4, k5, k6⟩ := hst.inv.boxed hcc
        have hpt := hst.same _ _ (havr _ _ (.pt hi hx))
        cases hpt with | @pt _ _ _ _ _ _ _ hbn hsx hval =>
        obtain ⟨_, hP⟩ := hval ⟨by rw [hout _ hbo], .inl rfl⟩
        obtain ⟨b3, q1, q2⟩ := hP _ hcc rfl
        rw [add_zero_addr] at q2
        rw [k1] at q1
        cases q1
        refine ⟨b2, cs2, e2, fr2, q2, k2, k3, by simpa using k4, fun j y hy => ?_, fun k => ?_⟩
        · rw [List.getElem?_map] at hy
          cases hh : lb[j]? with
          | none => simp [hh] at hy
          | some z => simp [hh] at hy; subst hy; exact .u
        · rw [hφ1, hf, ← k6 k]
          exact ⟨fun h1 => h1.elim (fun h2 => (h2.2 h2.1).elim) id, fun h1 => .inr h1⟩
    · have hn : ∀ i, ¬ Wr es o i := fun i hi => hW ⟨i, hi⟩
      have hφ1 : ∀ k, φ o k ↔ φ1 φ es Fs φ' o k := fun k => ⟨fun hk' => .inl ⟨hn, hk'⟩, fun hk' => by
        rcases hk' with ⟨_, hk'⟩ | ⟨i, hi, _⟩
        · exact hk'
        · exact (hn i hi).elim⟩
      have hst2 : ∀ k, φ o k → w'.heap[k]? = w.heap[k]? := fun k hk' => hblk k (h.lt o k hk') (stays h hE hs hH hk' fun i hi => (hn i hi).elim)
      have := h.objs o
      unfold ObOk at this ⊢
      rw [nwr_ob hB hn]
      split
      · rename_i hc; rw [hc] at this; exact fun k hk' => this k ((hφ1 k).2 hk')
      · rename_i lvl t hc; rw [hc] at this
        exact (this.frame hZb hst2).congrF hφ1
      · rename_i cells hc; rw [hc] at this
        obtain ⟨b, cs, e, fr, h1, h2, h3, h4, h5, h6⟩ := this
        exact ⟨b, cs, e, fr, h1, (hst2 b ((h6 b).2 rfl)).trans h2, h3, h4, fun i a hi => htr _ _ (h5 i a hi), fun k => (hφ1 k).symm.trans (h6 k)⟩
end
end Go.Proofs.YtipfcgbhaalcdaaGreat.Abs
namespace Go.Proofs.YtipfcgbhaalcdaaGreat.Abs
open Go
set_option linter.unusedVariables false
set_option linter.unusedSimpArgs false
variable {P : Program} {E : Env} {w0 : World} {A : Fp} {ob : Objs} {w : World} {ρ : Nat → Value} {φ : Nat → Fp} {Z : Fp} {sl : Slots} {a : Act}

theorem OInv.newOb (h : OInv w0 A ob w ρ φ Z) (d : Nat) (c : Cont) (v : Value) (G : Fp) (hG : ∀ k, G k → ¬ Z k ∧ (∀ o', ¬ φ o' k) ∧ (k < w0.heap.size → A k))
    (hn : ObOk Z w (upd ob d ⟨(ob d).birth + 1, 0, false, c⟩) (upd ρ d v) (upd φ d G) d) :
    Step w0 A ob w ρ (upd ob d ⟨(ob d).birth + 1, 0, false, c⟩) w (upd ρ d v) (upd φ d G) Z :=
  h.upd1 d _ _ G none_ (Keep.refl _ _) (fun k hk => hk.elim) (fun k hk => hk) (fun k hk => .inl hk) (fun k hk => ⟨(hG k hk).1, fun o' _ => (hG k hk).2.1 o', (hG k hk).2.2⟩) Same.born (fun _ => hn)

theorem OInv.retell (h : OInv w0 A ob w ρ φ Z) (o : Nat) {cells cells2 : List AV} (d : Bool) (hc : (ob o).c = .box cells) (hl : cells2.length = cells.length)
    (hcl : ∀ b cs e fr, ρ o = .pointer (some ⟨b, 0, none⟩) → w.heap[b]? = some (.cells cs e fr) → ∀ i a, cells2[i]? = some a → AVR w ob ρ a (cs.getD i undef)) :
    Step w0 A ob w ρ (upd ob o { ob o with dirty := d, c := .box cells2 }) w ρ φ Z := by
  obtain ⟨b, cs, e, fr, h1, h2, h3, h4, h5, h6⟩ := h.boxed hc
  have key := h.upd1 (w' := w) (Z' := Z) o { ob o with dirty := d, c := .box cells2 } (ρ o) (φ o) none_ (Keep.refl _ _) (fun k hk => hk.elim) (fun k hk => hk) (fun k hk => .inl hk)
    (fun k hk => ⟨h.notZ o k hk, fun o' hne hk' => hne (h.disj o' o k hk' hk), h.fresh o k hk⟩) (Same.box hc) (fun htr => by
      unfold ObOk
      rw [upd_same, upd_same, upd_same]
      exact ⟨b, cs, e, fr, h1, h2, h3, hl.trans h4, fun i a hi => htr _ _ (hcl b cs e fr h1 h2 i a hi), h6⟩)
  rw [upd_id, upd_id] at key
  exact key

def idOf (ob : Objs) (d m : Nat) : Cont → AV
  | .box _ => .pt (d + 10000 * (m + 1)) ((ob (d + 10000 * (m + 1))).birth + 1) 0 [] 0 0
  | _ => .h (d + 10000 * (m + 1)) ((ob (d + 10000 * (m + 1))).birth + 1) 0 [] 0 0 0
theorem newIds_run {α : Type} (d : Nat) : ∀ (cs : List Cont) (m : Nat) (k : List AV → Rd α) (r : α), (newIds d m cs k).run ob = some r →
    ∃ vs, (k vs).run ob = some r ∧ vs.length = cs.length ∧ ∀ (j : Nat) (c : Cont), cs[j]? = some c → c ≠ .dead ∧ vs[j]? = some (idOf ob d (m + j) c) := by
  intro cs
  induction cs with
  | nil => intro m k r h; exact ⟨[], h, rfl, fun j c h => by simp at h⟩
  | cons c cs ih =>
    intro m k r h
    have fin : ∀ {v : AV}, v = idOf ob d m c → c ≠ .dead → (newIds d (m + 1) cs fun vs => k (v :: vs)).run ob = some r →
        ∃ vs, (k vs).run ob = some r ∧ vs.length = (c :: cs).length ∧ ∀ (j : Nat) (c' : Cont), (c :: cs)[j]? = some c' → c' ≠ .dead ∧ vs[j]? = some (idOf ob d (m + j) c') := by
      intro v hv hd h
      obtain ⟨vs, h1, h2, h3⟩ := ih (m + 1) _ r h
      refine ⟨v :: vs, h1, by simp [h2], fun j c' hj => ?_⟩
      cases j with
      | zero => simp at hj; subst hj; exact ⟨hd, by simp [hv]⟩
      | succ j =>
        obtain ⟨g1, g2⟩ := h3 j c' (by simpa using hj)
        exact ⟨g1, by rw [List.getElem?_cons_succ, g2, show m + 1 + j = m + (j + 1) by omega]⟩
    cases c with
    | dead => simp [newIds, Rd.run] at h
    | tree l t =>
      simp only [newIds, Rd.run] at h
      exact fin (v := .h (d + 10000 * (m + 1)) ((ob (d + 10000 * (m + 1))).birth + 1) 0 [] 0 0 0) rfl (fun h => by cases h) h
    | box l =>
      simp only [newIds, Rd.run] at h
      exact fin (v := .pt (d + 10000 * (m + 1)) ((ob (d + 10000 * (m + 1))).birth + 1) 0 [] 0 0) rfl (fun h => by cases h) h

def blank : Cont → Cont | .box l => .box (l.map fun _ => .u) | c => c
def idn (d m : Nat) : Nat := d + 10000 * (m + 1)
theorem idn_inj {d i j : Nat} (h : idn d i = idn d j) : i = j := by unfold idn at h; omega
theorem newObs_cons {ob : Objs} {d m : Nat} {c : Cont} (hc : c ≠ .dead) (vs : List AV) (cs : List Cont) : newObs (idOf ob d m c :: vs) (c :: cs) = (idn d m, ⟨(ob (idn d m)).birth + 1, 0, false, blank c⟩) :: newObs vs cs := by
  cases c with
  | dead => exact (hc rfl).elim
  | tree l t => rfl
  | box l => rfl

theorem stage2 (h0 : OInv w0 A ob w ρ φ Z) {w' : World} {obI : Objs} {φ' : Nat → Fp} {ρ' : Nat → Value} {Z' : Fp} {A' : Fp} {w1 : World} {d : Nat} {all : List Cont}
    (hI : OInv w1 A' obI w' ρ' φ' Z') (hall : ∀ (j : Nat) (c : Cont), all[j]? = some c → obI (2000000 + j) = ⟨1, 0, false, c⟩) (hfull : ∀ (j l : Nat) (t : T), all[j]? = some (.tree l t) → T.full l t = true)
    (hnew : ∀ q k, φ' q k → ¬ Z k ∧ (k < w0.heap.size → A k)) {obS : Objs} :
    ∀ (cs : List Cont) (m : Nat) (vs : List AV) (obc : Objs) (ρc : Nat → Value) (φc : Nat → Fp), (∀ j, cs[j]? = all[m + j]?) → (∀ (j : Nat) (c : Cont), cs[j]? = some c → c ≠ .dead ∧ vs[j]? = some (idOf obS d (m + j) c)) → vs.length = cs.length →
      OInv w0 A obc w' ρc φc Z → (∀ j, m ≤ j → (obc (idn d j)).birth = (obS (idn d j)).birth) → (∀ j o k, m ≤ j → φ' (2000000 + j) k → ¬ φc o k) →
      ∃ ρd φd, Step w0 A obc w' ρc (upds obc (newObs vs cs)) w' ρd φd Z ∧
        (∀ (j : Nat) (c : Cont), cs[j]? = some c → upds obc (newObs vs cs) (idn d (m + j)) = ⟨(obS (idn d (m + j))).birth + 1, 0, false, blank c⟩ ∧ ρd (idn d (m + j)) = ρ' (2000000 + (m + j))) ∧
        (∀ o, (∀ j, j < cs.length → o ≠ idn d (m + j)) → upds obc (newObs vs cs) o = obc o ∧ ρd o = ρc o) := by
  intro cs
  induction cs with
  | nil =>
    intro m vs obc ρc φc _ _ hl hc _ _
    obtain rfl : vs = [] := List.length_eq_zero_iff.1 (by simpa using hl)
    exact ⟨ρc, φc, hc.stay, fun j c h => by simp at h, fun o _ => ⟨rfl, rfl⟩⟩
  | cons c cs ih =>
    intro m vs obc ρc φc hcs hvs hl hc hb hφ
    obtain ⟨hcd, hv0⟩ := hvs 0 c rfl
    cases vs with
    | nil => simp at hl
    | cons v vs =>
      simp at hv0
      subst hv0
      rw [newObs_cons hcd]
      simp only [upds]
      have hcm : all[m]? = some c := by have := hcs 0; simpa using this.symm
      have hob := hall m c hcm
      have hobj := hI.objs (2000000 + m)
      unfold ObOk at hobj
      rw [hob] at hobj
      have hst : Step w0 A obc w' ρc (upd obc (idn d m) ⟨(obS (idn d m)).birth + 1, 0, false, blank c⟩) w' (upd ρc (idn d m) (ρ' (2000000 + m))) (upd φc (idn d m) (φ' (2000000 + m))) Z := by
        rw [← hb m (Nat.le_refl _)]
        refine hc.newOb (idn d m) (blank c) _ _ (fun k hk => ⟨(hnew _ k hk).1, fun o' => hφ m o' k (Nat.le_refl _) hk, (hnew _ k hk).2⟩) ?_
        unfold ObOk
        rw [upd_same, upd_same, upd_same]
        cases c with
        | dead => exact (hcd rfl).elim
        | tree l t => exact Ow.full hobj (hfull m l t hcm) Z
        | box l =>
          obtain ⟨b, cs2, e, fr, h1, h2, h3, h4, h5, h6⟩ := hobj
          refine ⟨b, cs2, e, fr, h1, h2, h3, by simpa using h4, fun i a hi => ?_, h6⟩
          rw [List.getElem?_map] at hi
          cases hh : l[i]? with
          | none => simp [hh] at hi
          | some z => simp [hh] at hi; subst hi; exact .u
      obtain ⟨ρd, φd, s1, s2, s3⟩ := ih (m + 1) vs _ _ _ (fun j => by rw [← List.getElem?_cons_succ (a := c), hcs (j + 1), show m + (j + 1) = m + 1 + j by omega])
        (fun j c' hj => by
          obtain ⟨g1, g2⟩ := hvs (j + 1) c' (by simpa using hj)
          exact ⟨g1, by rw [show m + 1 + j = m + (j + 1) by omega]; simpa using g2⟩) (by simpa using hl) hst.inv
        (fun j hj => by rw [upd_ne _ _ (fun e => by have := idn_inj e; omega)]; exact hb j (by omega))
        (fun j o k hj hk hk' => by
          by_cases ho : o = idn d m
          · subst ho
            rw [upd_same] at hk'
            have := hI.disj _ _ k hk hk'
            omega
          · rw [upd_ne _ _ ho] at hk'; exact hφ j o k (by omega) hk hk')
      refine ⟨ρd, φd, hst.trans s1, fun j c' hj => ?_, fun o ho => ?_⟩
      · cases j with
        | zero =>
          simp at hj
          subst hj
          obtain ⟨g1, g2⟩ := s3 (idn d m) (fun j _ e => by have := idn_inj e; omega)
          simp only [Nat.add_zero]
          rw [g1, g2, upd_same, upd_same]
          exact ⟨rfl, rfl⟩
        | succ j =>
          have := s2 j c' (by simpa using hj)
          rwa [show m + 1 + j = m + (j + 1) by omega] at this
      · obtain ⟨g1, g2⟩ := s3 o (fun j hj => by have := ho (j + 1) (by simp; omega); rwa [show m + 1 + j = m + (j + 1) by omega])
        have h0 := ho 0 (by simp)
        rw [Nat.add_zero] at h0
        rw [g1, g2, upd_ne _ _ h0, upd_ne _ _ h0]
        exact ⟨rfl, rfl⟩

theorem stage3 {w0 : World} {A : Fp} {w : World} {ρ : Nat → Value} {φ : Nat → Fp} {Z : Fp} {obF : Objs}
    (hF : ∀ (o : Nat) (b cs e fr), ρ o = .pointer (some ⟨b, 0, none⟩) → w.heap[b]? = some (.cells cs e fr) → True) :
    ∀ (ss : List (Nat × Ob)) (obc : Objs), OInv w0 A obc w ρ φ Z → (∀ a x, AVR w obF ρ a x → AVR w obc ρ a x) →
      (∀ q ∈ ss, ∃ us cells d, (obF q.1).c = .box us ∧ q.2 = { obF q.1 with dirty := d, c := .box cells } ∧ cells.length = us.length ∧
        ∀ b cs e fr, ρ q.1 = .pointer (some ⟨b, 0, none⟩) → w.heap[b]? = some (.cells cs e fr) → ∀ i a, cells[i]? = some a → AVR w obF ρ a (cs.getD i undef)) →
      (∀ o, (obc o).birth = (obF o).birth ∧ (obc o).sver = (obF o).sver ∧ ((obc o).c = (obF o).c ∨ ∃ us cells, (obF o).c = .box us ∧ (obc o).c = .box cells ∧ cells.length = us.length)) →
      Step w0 A obc w ρ (upds obc ss) w ρ φ Z := by
  intro ss
  induction ss with
  | nil => intro obc h _ _ _; exact h.stay
  | cons q ss ih =>
    intro obc h htr hss hob
    obtain ⟨o, n⟩ := q
    obtain ⟨us, cells, d, e1, e2, e3, e4⟩ := hss (o, n) (List.mem_cons_self ..)
    simp only at e1 e2 e4
    obtain ⟨g1, g2, g3⟩ := hob o
    obtain ⟨cells0, hc0, hl0⟩ : ∃ cells0, (obc o).c = .box cells0 ∧ cells0.length = us.length := by
      rcases g3 with g3 | ⟨us', cells0, k1, k2, k3⟩
      · exact ⟨us, g3.trans e1, rfl⟩
      · rw [e1] at k1; cases k1; exact ⟨cells0, k2, k3⟩
    have st := h.retell o (cells2 := cells) d hc0 (e3.trans hl0.symm) (fun b cs e fr h1 h2 i a hi => htr _ _ (e4 b cs e fr h1 h2 i a hi))
    have en : n = { obc o with dirty := d, c := .box cells } := by
      rw [e2]
      show (⟨(obF o).birth, (obF o).sver, d, .box cells⟩ : Ob) = ⟨(obc o).birth, (obc o).sver, d, .box cells⟩
      rw [g1, g2]
    simp only [upds]
    rw [en]
    refine st.trans (ih _ st.inv (fun a x hx => st.same _ _ (htr a x hx)) (fun q hq => hss q (List.mem_cons_of_mem _ hq)) fun o' => ?_)
    by_cases ho : o' = o
    · subst ho
      rw [upd_same]
      exact ⟨g1, g2, .inr ⟨us, cells, e1, rfl, e3⟩⟩
    · rw [upd_ne _ _ ho]; exact hob o'
end Go.Proofs.YtipfcgbhaalcdaaGreat.Abs
namespace Go.Proofs.YtipfcgbhaalcdaaGreat.Abs
open Go
set_option linter.unusedVariables false
set_option linter.unusedSimpArgs false
variable {P : Program} {E : Env} {w0 : World} {A : Fp} {ob : Objs} {w : World} {ρ : Nat → Value} {φ : Nat → Fp} {Z : Fp} {sl : Slots} {a : Act}

theorem EntOk.inv_ro {es : List (Cont × Src)} {xs : List Value} {c : Cont} {s : Src} {x : Value} (h : EntOk ob w ρ es xs c s x) : ∀ o b g p sz lo len, s = .ro (.h o b g p sz lo len) →
    ∃ lvl t rows, (ob o).c = .tree lvl t ∧ Valid (ob o) b g p ∧ t.at? p = some (.sl sz rows) ∧ AVR w ob ρ (.h o b g p sz lo len) x ∧ c = .tree 0 (.sl sz ((rows.drop lo).take len)) := by
  intro o b g p sz lo len hs
  cases h with
  | ro hc hv hat hx => cases hs; exact ⟨_, _, _, hc, hv, hat, hx, rfl⟩
  | nl => cases hs
  | root => cases hs
  | nest => cases hs
  | box => cases hs
theorem EntOk.inv_nl {es : List (Cont × Src)} {xs : List Value} {c : Cont} {s : Src} {x : Value} (h : EntOk ob w ρ es xs c s x) : ∀ sz, s = .ro (.nl sz) → x = .slice none 0 0 ∧ ∃ lv, c = .tree lv (.sl sz []) := by
  intro sz hs
  cases h with
  | ro hc hv hat hx => cases hs
  | nl => cases hs; exact ⟨rfl, _, rfl⟩
  | root => cases hs
  | nest => cases hs
  | box => cases hs
theorem view_trans {sz lo len lo2 len2 : Nat} {v x y : Value} (h1 : View sz v lo len x) (h2 : View sz x lo2 len2 y) (hle : lo2 + len2 ≤ len) : View sz v (lo + lo2) len2 y := by
  rcases h1 with ⟨rfl, rfl, rfl, rfl⟩ | ⟨a, n, c, q, c', rfl, rfl, g1, g2, g3, g4⟩
  · rcases h2 with ⟨_, rfl, rfl, rfl⟩ | ⟨a, n, c, q, c', e, _⟩
    · exact .inl ⟨rfl, rfl, rfl, rfl⟩
    · cases e
  · rcases h2 with ⟨e, _⟩ | ⟨a2, n2, c2, q2, c'', e, rfl, k1, k2, k3, k4⟩
    · cases e
    · cases e
      refine .inr ⟨a, n, c, q + q2, c'', rfl, ?_, k1, by omega, by omega, fun h => ?_⟩
      · rw [add_add, Nat.add_mul]
      · have := g4 (by omega)
        have := k4 h
        omega

theorem boxBacks_run {α : Type} {nid : Nat → AV} {src : List (Cont × Src)} : ∀ (bk : List (Option Cont)) (es : List (Cont × Src)) (k : List (Nat × Ob) → Rd α) (r : α), (boxBacks nid src bk es k).run ob = some r →
    ∃ xs, (k xs).run ob = some r ∧ ∀ q ∈ xs, ∃ (i : Nat) (c : Cont) (o b : Nat) (l : List AV), es[i]? = some (c, .box o b) ∧ bk[i]? = some (some (.box l)) ∧ q = (o, ⟨(ob o).birth, (ob o).sver, true, .box (l.map (expV nid src 9))⟩) := by
  intro bk
  induction bk with
  | nil =>
    intro es k r h
    have h : (k []).run ob = some r := by cases es <;> exact h
    exact ⟨[], h, fun q hq => by cases hq⟩
  | cons x bk ih =>
    intro es k r h
    cases es with
    | nil =>
      have h : (k []).run ob = some r := by
        cases x with
        | none => exact h
        | some c => cases c <;> exact h
      exact ⟨[], h, fun q hq => by cases hq⟩
    | cons e es =>
      obtain ⟨c, s⟩ := e
      have skip : (boxBacks nid src bk es k).run ob = some r → ∃ xs, (k xs).run ob = some r ∧ ∀ q ∈ xs, ∃ (i : Nat) (c' : Cont) (o b : Nat) (l : List AV), ((c, s) :: es)[i]? = some (c', .box o b) ∧ (x :: bk)[i]? = some (some (.box l)) ∧ q = (o, ⟨(ob o).birth, (ob o).sver, true, .box (l.map (expV nid src 9))⟩) := by
        intro h
        obtain ⟨xs, h1, h2⟩ := ih es k r h
        refine ⟨xs, h1, fun q hq => ?_⟩
        obtain ⟨i, c', o, b, l, g1, g2, g3⟩ := h2 q hq
        exact ⟨i + 1, c', o, b, l, by simpa using g1, by simpa using g2, g3⟩
      cases x with
      | none => exact skip h
      | some c2 =>
        cases c2 with
        | dead => exact skip h
        | tree l t => exact skip h
        | box l =>
          cases s with
          | box o b =>
            simp only [boxBacks, Rd.run] at h
            obtain ⟨xs, h1, h2⟩ := ih es _ r h
            refine ⟨_, h1, fun q hq => ?_⟩
            rcases List.mem_cons.1 hq with rfl | hq
            · exact ⟨0, c, o, b, l, rfl, rfl, rfl⟩
            · obtain ⟨i, c', o', b', l', g1, g2, g3⟩ := h2 q hq
              exact ⟨i + 1, c', o', b', l', by simpa using g1, by simpa using g2, g3⟩
          | ro y => exact skip h
          | root o b => exact skip h
          | nest o b g p lvl => exact skip h
theorem newBoxes_mem {nid : Nat → AV} {src : List (Cont × Src)} : ∀ (cs : List Cont) (vs : List AV), ∀ q ∈ newBoxes nid src vs cs, ∃ (j o b g : Nat) (p : List (Nat × Nat)) (i' j' : Nat) (l : List AV), vs[j]? = some (.pt o b g p i' j') ∧ cs[j]? = some (.box l) ∧ q = (o, ⟨b, 0, false, .box (l.map (expV nid src 9))⟩) := by
  intro cs
  induction cs with
  | nil => intro vs q hq; cases vs with
    | nil => simp [newBoxes] at hq
    | cons v vs => cases v <;> simp [newBoxes] at hq
  | cons c cs ih =>
    intro vs q hq
    cases vs with
    | nil => simp [newBoxes] at hq
    | cons v vs =>
      have skip : q ∈ newBoxes nid src vs cs → ∃ (j o b g : Nat) (p : List (Nat × Nat)) (i' j' : Nat) (l : List AV), (v :: vs)[j]? = some (.pt o b g p i' j') ∧ (c :: cs)[j]? = some (.box l) ∧ q = (o, ⟨b, 0, false, .box (l.map (expV nid src 9))⟩) := by
        intro hq
        obtain ⟨j, o, b, g, p, i', j', l, g1, g2, g3⟩ := ih vs q hq
        exact ⟨j + 1, o, b, g, p, i', j', l, by simpa using g1, by simpa using g2, g3⟩
      cases v with
      | pt o b g p i' j' =>
        cases c with
        | box l =>
          simp only [newBoxes] at hq
          rcases List.mem_cons.1 hq with rfl | hq
          · exact ⟨0, o, b, g, p, i', j', l, rfl, rfl, rfl⟩
          · exact skip hq
        | _ => exact skip hq
      | _ => exact skip hq

section
variable {es : List (Cont × Src)} {xs : List Value} {Fs : Nat → Fp} {r : Res} {w' : World} {ρ' : Nat → Value} {φ' : Nat → Fp} {Z' : Fp} {bs : List (Nat × Ob)}
theorem expV_sound (h : OInv w0 A ob w ρ φ Z) (hE : Ents ob w ρ es xs) (hsm : es.length < 1000000)
    (hO : OInv w (Af Fs) (obIn (es.map (·.1))) w (ρf xs) (φf Fs) (Zf w Fs)) (havr : ∀ a v, AIm es xs a v → AVR w (obIn (es.map (·.1))) (ρf xs) a v)
    (hbk : ∀ (i : Nat) (c : Cont), (es.map (·.1))[i]? = some c → BackOk c r.back[i]?)
    (hst : Step w (Af Fs) (obIn (es.map (·.1))) w (ρf xs) (obOut (es.map (·.1)) r) w' ρ' φ' Z')
    {d : Nat} {vs : List AV} {obF : Objs} {ρF : Nat → Value} (hsame : ∀ a x, AVR w ob ρ a x → AVR w' obF ρF a x) (hlen : vs.length = r.news.length)
    (hN : ∀ (j : Nat) (c : Cont), r.news[j]? = some c → c ≠ .dead ∧ vs[j]? = some (idOf ob d j c) ∧ obF (idn d j) = ⟨(ob (idn d j)).birth + 1, 0, false, blank c⟩ ∧ ρF (idn d j) = ρ' (2000000 + j))
    (hbox : ∀ (i : Nat) (c : Cont) (o b : Nat), es[i]? = some (c, .box o b) → (obF o).birth = b ∧ (∃ cells, (obF o).c = .box cells) ∧ ρF o = ρ o) :
    ∀ (n : Nat) (a : AV) (v : Value), AVR w' (obOut (es.map (·.1)) r) ρ' a v → AVR w' obF ρF (expV (fun i => vs.getD i .u) es n a) v := by
  have entry : ∀ (i : Nat) (e : Cont × Src), es[i]? = some e → ∃ x, xs[i]? = some x ∧ EntOk ob w ρ es xs e.1 e.2 x ∧ i < 1000000 ∧ BackOk e.1 r.back[i]? := by
    intro i e hi
    have hlt := (List.getElem?_eq_some_iff.1 hi).1
    have hltx : i < xs.length := by rw [← hE.len]; exact hlt
    exact ⟨_, List.getElem?_eq_getElem hltx, hE.ok i _ _ hi (List.getElem?_eq_getElem hltx), by omega, hbk i e.1 (by simp [hi])⟩
  have ro : ∀ (i : Nat) (t : T) (s : Src), es[i]? = some (.tree 0 t, s) → i < 1000000 → obOut (es.map (·.1)) r (1000000 + i) = ⟨0, 0, false, .tree 0 t⟩ := by
    intro i t s hi hlt
    obtain ⟨x, _, _, _, hb⟩ := entry i _ hi
    have hb : r.back[i]? = some none := hb
    rw [obOut_arg hlt, obIn_hi]
    simp [hb, hi]
  intro n
  induction n with
  | zero => intro a v _; exact .u
  | succ n ih =>
    intro a v ha
    cases ha with
    | s hs => exact .s hs
    | nl => exact .nl
    | u => exact .u
    | @ag l cs hl hc =>
      refine .ag (by simpa using hl) fun i x hi => ?_
      rw [List.getElem?_map] at hi
      cases hh : l[i]? with
      | none => simp [hh] at hi
      | some z => simp [hh] at hi; subst hi; exact ih z _ (hc i z hh)
    | @tu l cs hl hc =>
      refine .tu (by simpa using hl) fun i x hi => ?_
      rw [List.getElem?_map] at hi
      cases hh : l[i]? with
      | none => simp [hh] at hi
      | some z => simp [hh] at hi; subst hi; exact ih z _ (hc i z hh)
    | fn => exact .u
    | @h o b g p sz lo len _ hbn hsl hval =>
      unfold expV
      split
      · rename_i hge
        split
        · rename_i hpb
          obtain ⟨rfl, rfl⟩ := hpb
          obtain ⟨j, rfl⟩ : ∃ j, o = 2000000 + j := ⟨o - 2000000, by omega⟩
          rw [Nat.add_sub_cancel_left]
          simp only [List.getD_eq_getElem?_getD]
          cases hj : r.news[j]? with
          | none =>
            have : vs[j]? = none := by rw [List.getElem?_eq_none_iff] at hj ⊢; omega
            rw [this]
            exact .u
          | some c =>
            obtain ⟨hcd, h1, h2, h3⟩ := hN j c hj
            rw [h1]
            cases c with
            | dead => exact (hcd rfl).elim
            | box l => exact .u
            | tree l t =>
              simp only [Option.getD_some, idOf]
              refine .h ⟨by show _ ≤ (obF (idn d j)).birth; rw [h2]; exact Nat.le_refl _, fun _ hp => (hp rfl).elim⟩ hsl fun _ => ?_
              obtain ⟨g1, g2⟩ := hval ⟨by rw [obOut_new], .inl rfl⟩
              have e1 : (obOut (es.map (·.1)) r (2000000 + j)).c = .tree l t := by rw [obOut_new]; simp [hj]
              show HandleOk w' (obF (idn d j)) (ρF (idn d j)) [] sz lo len v
              rw [h2, h3]
              exact ⟨(fun cells hc => by cases hc), (fun l2 t2 hc => by cases hc; exact g2 l t e1)⟩
        · exact .u
      · rename_i hlt
        split
        · rename_i hpb
          obtain ⟨rfl, rfl, h1m⟩ := hpb
          obtain ⟨i, rfl⟩ : ∃ i, o = 1000000 + i := ⟨o - 1000000, by omega⟩
          rw [Nat.add_sub_cancel_left]
          split
          · rename_i t o' b' g' p' sz0 lo' len' hi
            obtain ⟨x, hx, he, hi6, _⟩ := entry i _ hi
            simp only at he
            obtain ⟨lvl, t0, rows, hc, hv, hat, hxa, ec⟩ := he.inv_ro _ _ _ _ _ _ _ rfl
            cases ec
            have e1 := ro i _ _ hi hi6
            obtain ⟨g1, g2⟩ := hval ⟨by rw [e1], .inl rfl⟩
            obtain ⟨v', rows', hA, hle, hvw⟩ := g2 0 _ (by rw [e1])
            obtain ⟨rfl, e2⟩ := hA.root
            cases e2
            have hval2 := arg_val (r := r) hE hO havr hst hi6 hi hx (l' := 0) (t' := .sl sz ((rows.drop lo').take len')) (by rw [e1]) (by rw [e1]) (by simp [T.like])
            rw [hval2] at hvw
            refine hsame _ _ ?_
            cases hxa with | @h _ _ _ _ _ _ _ _ hbn' hsl' hval' =>
            refine .h hbn' hsl fun hv2 => ?_
            obtain ⟨k1, k2⟩ := hval' hv2
            refine ⟨k1, fun l2 t2 hc2 => ?_⟩
            obtain ⟨v0, rows2, hA2, hle2, hvw2⟩ := k2 l2 t2 hc2
            have hcut : ((rows.drop lo').take len').length ≤ len' := by simp; omega
            exact ⟨v0, rows2, hA2, by omega, view_trans hvw2 hvw (by omega)⟩
          · rename_i t szn hi
            obtain ⟨x, hx, he, hi6, _⟩ := entry i _ hi
            simp only at he
            obtain ⟨ex, lv, ec⟩ := he.inv_nl _ rfl
            subst ex
            cases ec
            have e1 := ro i _ _ hi hi6
            obtain ⟨g1, g2⟩ := hval ⟨by rw [e1], .inl rfl⟩
            obtain ⟨v', rows', hA, hle, hvw⟩ := g2 0 _ (by rw [e1])
            obtain ⟨rfl, e2⟩ := hA.root
            cases e2
            have hval2 := arg_val (r := r) hE hO havr hst hi6 hi hx (l' := 0) (t' := .sl sz []) (by rw [e1]) (by rw [e1]) (by simp [T.like])
            rw [hval2] at hvw
            rcases hvw with ⟨_, _, _, rfl⟩ | ⟨_, _, _, _, _, e, _⟩
            · exact .nl
            · cases e
          · exact .u
        · exact .u
    | @pt o b g p i' j' _ hbn hsx hval =>
      unfold expV
      split
      · rename_i hpij
        obtain ⟨rfl, rfl, rfl⟩ := hpij
        split
        · rename_i hge
          split
          · rename_i hb1
            subst hb1
            obtain ⟨j, rfl⟩ : ∃ j, o = 2000000 + j := ⟨o - 2000000, by omega⟩
            rw [Nat.add_sub_cancel_left]
            simp only [List.getD_eq_getElem?_getD]
            cases hj : r.news[j]? with
            | none =>
              have : vs[j]? = none := by rw [List.getElem?_eq_none_iff] at hj ⊢; omega
              rw [this]
              exact .u
            | some c =>
              obtain ⟨hcd, h1, h2, h3⟩ := hN j c hj
              rw [h1]
              cases c with
              | dead => exact (hcd rfl).elim
              | tree l t => exact .u
              | box l =>
                simp only [Option.getD_some, idOf]
                refine .pt ⟨by show _ ≤ (obF (idn d j)).birth; rw [h2]; exact Nat.le_refl _, fun _ hp => (hp rfl).elim⟩ hsx fun _ => ?_
                obtain ⟨g1, g2⟩ := hval ⟨by rw [obOut_new], .inl rfl⟩
                have e1 : (obOut (es.map (·.1)) r (2000000 + j)).c = .box l := by rw [obOut_new]; simp [hj]
                obtain ⟨b2, q1, q2⟩ := g2 l e1 rfl
                show PtrOk w' (obF (idn d j)) (ρF (idn d j)) [] 0 0 v
                rw [h2, h3]
                exact ⟨(fun l2 t2 hc => by cases hc), fun cells _ _ => ⟨b2, q1, q2⟩⟩
          · exact .u
        · rename_i hlt
          split
          · rename_i hb0
            obtain ⟨rfl, h1m⟩ := hb0
            obtain ⟨i, rfl⟩ : ∃ i, o = 1000000 + i := ⟨o - 1000000, by omega⟩
            rw [Nat.add_sub_cancel_left]
            split
            · rename_i c o' b' hi
              obtain ⟨x, hx, he, hi6, hbo⟩ := entry i _ hi
              simp only at he hbo
              cases he with | @box _ _ cells cells' bb cs e fr hc hb hρ hwb hl hcl =>
              obtain ⟨lb, hbo⟩ := hbo
              have e1 : obOut (es.map (·.1)) r (1000000 + i) = ⟨0, 1, true, .box lb⟩ := by rw [obOut_arg hi6]; simp [hbo]
              obtain ⟨g1, g2⟩ := hval ⟨by rw [e1], .inl rfl⟩
              obtain ⟨b2, q1, q2⟩ := g2 lb (by rw [e1]) rfl
              have hpt := hst.same _ _ (havr _ _ (.pt hi hx))
              cases hpt with | @pt _ _ _ _ _ _ _ hbn2 hsx2 hval2 =>
              obtain ⟨_, hP⟩ := hval2 ⟨by rw [e1], .inl rfl⟩
              obtain ⟨b3, q3, q4⟩ := hP lb (by rw [e1]) rfl
              rw [q1] at q3
              cases q3
              obtain ⟨m1, ⟨cF, m2⟩, m3⟩ := hbox i _ o' b' hi
              have hv : v = ρ o' := by rw [q2, ← q4]
              refine .pt ⟨by rw [m1]; exact Nat.le_refl _, fun _ hp => (hp rfl).elim⟩ hsx fun _ => ⟨(fun l2 t2 hc2 => by rw [m2] at hc2; cases hc2), fun cells2 _ _ => ⟨bb, by rw [m3, hρ], ?_⟩⟩
              rw [hv, hρ, add_zero_addr]
            · exact .u
          · exact .u
      · exact .u
end
end Go.Proofs.YtipfcgbhaalcdaaGreat.Abs
namespace Go.Proofs.YtipfcgbhaalcdaaGreat.Abs
open Go
set_option linter.unusedVariables false
set_option linter.unusedSimpArgs false
variable {P : Program} {E : Env} {w0 : World} {A : Fp} {ob : Objs} {w : World} {ρ : Nat → Value} {φ : Nat → Fp} {Z : Fp} {sl : Slots} {a : Act}

def CallOk (P : Program) (E : Env) : Prop := ∀ f args conts r, E.call f args conts = some r → FnOk P f args conts r

theorem newObs_ids {ob : Objs} {d : Nat} : ∀ (cs : List Cont) (m : Nat) (vs : List AV), (∀ (j : Nat) (c : Cont), cs[j]? = some c → c ≠ .dead ∧ vs[j]? = some (idOf ob d (m + j) c)) → vs.length = cs.length →
    ∀ q ∈ newObs vs cs, ∃ j, j < cs.length ∧ q.1 = idn d (m + j) := by
  intro cs
  induction cs with
  | nil => intro m vs _ hl q hq; obtain rfl : vs = [] := List.length_eq_zero_iff.1 (by simpa using hl); simp [newObs] at hq
  | cons c cs ih =>
    intro m vs hvs hl q hq
    obtain ⟨hcd, hv0⟩ := hvs 0 c rfl
    cases vs with
    | nil => simp at hl
    | cons v vs =>
      simp at hv0
      subst hv0
      rw [newObs_cons hcd] at hq
      rcases List.mem_cons.1 hq with rfl | hq
      · exact ⟨0, by simp, rfl⟩
      · obtain ⟨j, h1, h2⟩ := ih (m + 1) vs (fun j c' hj => by
          obtain ⟨g1, g2⟩ := hvs (j + 1) c' (by simpa using hj)
          exact ⟨g1, by rw [show m + 1 + j = m + (j + 1) by omega]; simpa using g2⟩) (by simpa using hl) q hq
        exact ⟨j + 1, by simpa using h1, by rw [h2, show m + 1 + j = m + (j + 1) by omega]⟩

theorem back_birth {es : List (Cont × Src)} {bk : List (Option Cont)} {bs : List (Nat × Ob)} (hB : BackR ob es bk bs) : ∀ q ∈ bs, q.2.birth = (ob q.1).birth := by
  intro q hq
  obtain ⟨i, c, s, c', g1, g2, g3, g4, g5⟩ := hB.fwd q hq
  rw [g5]
  cases c' with
  | dead => rfl
  | box l => rfl
  | tree l t =>
    cases s with
    | nest o b g p lvl => simp only [rob]; cases (ob q.1).c <;> rfl
    | _ => rfl

theorem exCall0_sound (hC : CallOk P E) (h : OInv w0 A ob w ρ φ Z) {d f : Nat} {args : List AV} {vs0 : Array Value} (hsz : vs0.size = args.length) (ha : ∀ (i : Nat) (x : AV), args[i]? = some x → AVR w ob ρ x (vs0.getD i undef)) {out : Out} (hr : (exCall0 E d f args).run ob = some out) :
    (∀ (w : World) (vs : Array Value), (callFunc f vs).run P w = .ok (.enter f vs) w) ∧ Calls P f vs0 w (fun | .returned v, w' => Done w0 A ob w ρ out v w' | _, _ => False) := by
  unfold exCall0 at hr
  obtain ⟨l, es, xs, hr2, hE, hll, hl⟩ := imp_run (md := E.md f) h 99 args [] _ out [] (fun i => vs0.getD i undef) hr ⟨rfl, fun i e x hi => by simp at hi⟩ ha
  simp only [List.nil_append] at hr2 hE hl
  split at hr2
  case isFalse => simp [Rd.run] at hr2
  rename_i hs
  cases hcall : E.call f l (es.map (·.1)) with
  | none => simp [hcall, Rd.ofOpt, Rd.run] at hr2
  | some r =>
    simp only [hcall, Rd.ofOpt] at hr2
    obtain ⟨vs, hr3, hvl, hvs⟩ := newIds_run d r.news 0 _ out hr2
    obtain ⟨bs, hr4, hB⟩ := backs_run r.back es _ out hr3
    obtain ⟨xs2, hr5, hX⟩ := boxBacks_run r.back es _ out hr4
    split at hr5
    case isFalse => simp [Rd.run] at hr5
    rename_i hfree
    simp only [Rd.run, Option.some.injEq] at hr5
    have hF := hC f l _ r hcall
    refine ⟨hF.enters, ?_⟩
    obtain ⟨Fs, hH⟩ := hand h hE hs
    obtain ⟨hO, havr⟩ := callee_in h hE hH
    have hsm : es.length < 1000000 := by have := hF.small; simpa using this
    refine Calls.mono (hF.run w (Af Fs) (ρf xs) (φf Fs) (Zf w Fs) vs0 hO (fun k hk => hk.2) (hsz.trans hll.symm) (fun i x hx => havr _ _ (hl i x hx))) fun e w' he => ?_
    cases e with
    | panicked _ => exact he
    | outgrown => exact he
    | returned v =>
      obtain ⟨ρ', φ', Z', hst, hv⟩ := he
      have st1 := stage1 h hE hs hH hsm hO havr hF.back hst hB
      have hnewq : ∀ q k, φ' q k → ¬ Z k ∧ (k < w0.heap.size → A k) := by
        intro q k hq
        rcases new_or hst hq with hge | ⟨i, hi⟩
        · exact ⟨fun hz => absurd (h.zlt k hz) (by omega), fun hlt => absurd hlt (by have := h.keep.size; omega)⟩
        · obtain ⟨o, _, hφ⟩ := af_wr h hE hH hi
          exact ⟨h.notZ o k hφ, h.fresh o k hφ⟩
      have hvs' : ∀ (j : Nat) (c : Cont), r.news[j]? = some c → c ≠ .dead ∧ vs[j]? = some (idOf ob d (0 + j) c) := hvs
      obtain ⟨ρ2, φ2, st2, n1, n2⟩ := stage2 (obS := ob) st1.inv (d := d) (all := r.news) hst.inv (fun j c hj => by rw [obOut_new]; simp [hj]) hF.news hnewq r.news 0 vs (upds ob bs) ρ (φ1 φ es Fs φ') (fun j => by rw [Nat.zero_add]) hvs' hvl st1.inv
        (fun j _ => upds_birth ob bs (back_birth hB) _) (fun j o k _ hk hk' => by
          rcases hk' with ⟨hn, hφ⟩ | ⟨i, hW, ⟨hφ, hFn⟩ | hq⟩
          · rcases new_or hst hk with hge | ha
            · exact absurd (h.lt o k hφ) (by omega)
            · exact stays h hE hs hH hφ (fun i hi => (hn i hi).elim) ha
          · rcases new_or hst hk with hge | ha
            · exact absurd (h.lt o k hφ) (by omega)
            · exact stays h hE hs hH hφ (fun i' hi => by rw [wr_uniq hs hi hW]; exact hFn) ha
          · have := hst.inv.disj _ _ k hk hq
            obtain ⟨c, s, hi, _⟩ := hW
            have := (List.getElem?_eq_some_iff.1 hi).1
            omega)
      have hN : ∀ (j : Nat) (c : Cont), r.news[j]? = some c → c ≠ .dead ∧ vs[j]? = some (idOf ob d j c) ∧ upds (upds ob bs) (newObs vs r.news) (idn d j) = ⟨(ob (idn d j)).birth + 1, 0, false, blank c⟩ ∧ ρ2 (idn d j) = ρ' (2000000 + j) := by
        intro j c hj
        obtain ⟨g1, g2⟩ := hvs' j c hj
        obtain ⟨g3, g4⟩ := n1 j c hj
        rw [Nat.zero_add] at g2 g3 g4
        exact ⟨g1, g2, g3, g4⟩
      -- an argument's variable keeps its name to itself
      have hfr : ∀ (i : Nat) (c : Cont) (o b : Nat), es[i]? = some (c, .box o b) → ∀ j, j < r.news.length → o ≠ idn d j := by
        intro i c o b hi j hj heq
        have h1 := List.all_eq_true.1 hfree _ (List.mem_of_getElem? hi)
        simp only at h1
        obtain ⟨g1, g2⟩ := hvs' j _ (List.getElem?_eq_getElem hj)
        have h2 := List.all_eq_true.1 h1 _ (List.mem_of_getElem? g2)
        rw [Nat.zero_add] at h2
        cases hc : r.news[j] with
        | dead => exact g1 hc
        | tree l t => rw [hc] at h2; simp only [idOf, bne_iff_ne, ne_eq] at h2; exact h2 heq.symm
        | box l => rw [hc] at h2; simp only [idOf, bne_iff_ne, ne_eq] at h2; exact h2 heq.symm
      have hkeep : ∀ o, (∀ j, j < r.news.length → o ≠ idn d j) → upds (upds ob bs) (newObs vs r.news) o = upds ob bs o := by
        intro o ho
        refine upds_not _ _ _ fun q hq e => ?_
        obtain ⟨j, h1, h2⟩ := newObs_ids r.news 0 vs hvs' hvl q hq
        rw [Nat.zero_add] at h2
        exact ho j h1 (e ▸ h2)
      have hboxat : ∀ (i : Nat) (c : Cont) (o b : Nat), es[i]? = some (c, .box o b) → ∃ l, r.back[i]? = some (some (.box l)) ∧ upds (upds ob bs) (newObs vs r.news) o = ⟨(ob o).birth, (ob o).sver, true, .box (l.map fun _ => .u)⟩ ∧ (ob o).birth = b := by
        intro i c o b hi
        have hlt := (List.getElem?_eq_some_iff.1 hi).1
        have hltx : i < xs.length := by rw [← hE.len]; exact hlt
        have hk := hE.ok i _ _ hi (List.getElem?_eq_getElem hltx)
        simp only at hk
        have hbo := hF.back i c (by simp [hi])
        generalize xs[i] = x at hk
        cases hk with | @box _ _ cells cells' bb cs e fr hc hb hρ hwb hl2 hcl =>
        obtain ⟨lb, hbo⟩ := hbo
        refine ⟨lb, hbo, ?_, hb⟩
        rw [hkeep o (hfr i _ o b hi), wr_ob hB hs hi rfl rfl hbo]
        rfl
      -- a variable that was handed over: where it lies
      have hρ2 : ∀ (i : Nat) (c : Cont) (o b : Nat), es[i]? = some (c, .box o b) → ρ2 o = ρ o := by
        intro i c o b hi
        exact (n2 o (fun j hj => by rw [Nat.zero_add]; exact hfr i c o b hi j hj)).2
      have hexp := expV_sound (d := d) (vs := vs) h hE hsm hO havr hF.back hst (obF := upds (upds ob bs) (newObs vs r.news)) (ρF := ρ2) (fun a x hx => st2.same _ _ (st1.same _ _ hx)) hvl hN
        (fun i c o b hi => by
          obtain ⟨l, _, g2, g3⟩ := hboxat i c o b hi
          exact ⟨by rw [g2]; exact g3, ⟨_, by rw [g2]⟩, hρ2 i c o b hi⟩)
      have st3 := stage3 (obF := upds (upds ob bs) (newObs vs r.news)) (fun _ _ _ _ _ _ _ => trivial) (newBoxes (fun i => vs.getD i .u) es vs r.news ++ xs2) _ st2.inv (fun a x hx => hx) (fun q hq => by
        rcases List.mem_append.1 hq with hq | hq
        · obtain ⟨j, o, b, g, p, i', j', lb, g1, g2, g3⟩ := newBoxes_mem _ _ q hq
          obtain ⟨k1, k2, k3, k4⟩ := hN j _ g2
          rw [g1] at k2
          simp only [idOf, Option.some.injEq, AV.pt.injEq] at k2
          obtain ⟨rfl, rfl, _⟩ := k2
          subst g3
          refine ⟨_, lb.map (expV (fun i => vs.getD i .u) es 9), false, by show (upds (upds ob bs) (newObs vs r.news) (idn d j)).c = _; rw [k3]; rfl, by show (⟨(ob (idn d j)).birth + 1, 0, false, _⟩ : Ob) = ⟨(upds (upds ob bs) (newObs vs r.news) (idn d j)).birth, (upds (upds ob bs) (newObs vs r.news) (idn d j)).sver, false, _⟩; rw [k3], by simp, fun bb cs e fr h1 h2 i y hy => ?_⟩
          have hbx : (obOut (es.map (·.1)) r (2000000 + j)).c = .box lb := by rw [obOut_new]; simp [g2]
          obtain ⟨b2, cs2, e2, fr2, q1, q2, q3, q4, q5, q6⟩ := hst.inv.boxed hbx
          have h1' : ρ2 (idn d j) = _ := h1
          rw [k4, q1] at h1'
          cases h1'
          rw [q2] at h2
          cases h2
          rw [List.getElem?_map] at hy
          cases hh : lb[i]? with
          | none => simp [hh] at hy
          | some z => simp [hh] at hy; subst hy; exact hexp 9 z _ (q5 i z hh)
        · obtain ⟨i0, c, o, b, lb, g1, g2, g3⟩ := hX q hq
          obtain ⟨l2, k1, k2, k3⟩ := hboxat i0 c o b g1
          rw [g2] at k1
          cases k1
          subst g3
          refine ⟨_, lb.map (expV (fun i => vs.getD i .u) es 9), true, by show (upds (upds ob bs) (newObs vs r.news) o).c = _; rw [k2], by show (⟨(ob o).birth, (ob o).sver, true, _⟩ : Ob) = ⟨(upds (upds ob bs) (newObs vs r.news) o).birth, (upds (upds ob bs) (newObs vs r.news) o).sver, true, _⟩; rw [k2], by simp, fun bb cs e fr h1 h2 i y hy => ?_⟩
          have hlt := (List.getElem?_eq_some_iff.1 g1).1
          have hbx0 : obOut (es.map (·.1)) r (1000000 + i0) = ⟨0, 1, true, .box lb⟩ := by rw [obOut_arg (by omega)]; simp [g2]
          have hbx : (obOut (es.map (·.1)) r (1000000 + i0)).c = .box lb := by rw [hbx0]
          obtain ⟨b2, cs2, e2, fr2, q1, q2, q3, q4, q5, q6⟩ := hst.inv.boxed hbx
          have hltx : i0 < xs.length := by rw [← hE.len]; exact hlt
          have hk := hE.ok i0 _ _ g1 (List.getElem?_eq_getElem hltx)
          simp only at hk
          have hx0 : xs[i0]? = some xs[i0] := List.getElem?_eq_getElem hltx
          generalize xs[i0] = x at hk hx0
          cases hk with | @box _ _ cells cells' bb3 cs3 e3 fr3 hc hb hρ hwb hl2 hcl =>
          have hpt := hst.same _ _ (havr _ _ (.pt g1 hx0))
          cases hpt with | @pt _ _ _ _ _ _ _ hbn2 hsx2 hval2 =>
          obtain ⟨_, hP⟩ := hval2 ⟨by rw [hbx0], .inl rfl⟩
          obtain ⟨b4, q7, q8⟩ := hP lb hbx rfl
          rw [add_zero_addr] at q8
          rw [q1] at q7
          cases q7
          have h1' : ρ2 o = _ := h1
          rw [hρ2 i0 _ o b g1, q8] at h1'
          cases h1'
          rw [q2] at h2
          cases h2
          rw [List.getElem?_map] at hy
          cases hh : lb[i]? with
          | none => simp [hh] at hy
          | some z => simp [hh] at hy; subst hy; exact hexp 9 z _ (q5 i z hh)) (fun o => ⟨rfl, rfl, .inl rfl⟩)
      have hfin := hexp 9 r.v v hv
      rw [← hr5]
      refine ⟨ρ2, φ2, Z, ?_, ?_⟩
      · simp only [upds_append]
        exact ((st1.trans st2).trans (by simpa only [upds_append] using st3))
      · simp only [upds_append]
        have := st3.same _ _ hfin
        simpa only [upds_append] using this
theorem exCall_sound (hC : CallOk P E) (h : OInv w0 A ob w ρ φ Z) {d f : Nat} {args : List AV} {vs0 : Array Value} (hsz : vs0.size = args.length) (ha : ∀ (i : Nat) (x : AV), args[i]? = some x → AVR w ob ρ x (vs0.getD i undef)) {out : Out} (hr : (exCall E d f args).run ob = some out) :
    (∀ (w : World) (vs : Array Value), (callFunc f vs).run P w = .ok (.enter f vs) w) ∧ Calls P f vs0 w (fun | .returned v, w' => Done w0 A ob w ρ out v w' | _, _ => False) := by
  unfold exCall at hr
  cases h9 : otherName d (E.md f) args with
  | true => rw [h9] at hr; exact exCall0_sound hC h hsz ha hr
  | false => rw [h9] at hr; exact exCall0_sound hC h hsz ha hr
end Go.Proofs.YtipfcgbhaalcdaaGreat.Abs
namespace Go.Proofs.YtipfcgbhaalcdaaGreat.Abs
open Go
set_option linter.unusedVariables false
set_option linter.unusedSimpArgs false
variable {P : Program} {E : Env} {w0 : World} {A : Fp} {ob : Objs} {w : World} {ρ : Nat → Value} {φ : Nat → Fp} {Z : Fp} {sl : Slots} {a : Act}

theorem byteTy_under (hTs : TysOk P E) {t : TypeId} {ti : TyI} (hT : TyOk P t ti) (h : byteTy E.ty ti = true) : ∃ e, P.underlying t = some (.slice e) ∧ P.underlying e = some (.int .u8) := by
  unfold byteTy at h
  cases he : ti.elem with
  | none => rw [he] at h; cases h
  | some e =>
    rw [he] at h
    simp only [Option.bind_some] at h
    cases hi : E.ty e with
    | none => rw [hi] at h; cases h
    | some i =>
      rw [hi] at h
      simp only [isU8] at h
      split at h
      · rename_i n hc
        exact ⟨e, (hT.elem e he).1, (hTs _ _ hi).kind _ _ hc⟩
      · cases h

theorem nums_get : ∀ {rows : List (List T)} {l : List Int}, nums rows = some l → l.length = rows.length ∧ ∀ (i : Nat) n, l[i]? = some n → cellT rows i 0 = some (.v (.int .u8 n)) := by
  intro rows
  induction rows with
  | nil => intro l h; simp only [nums, Option.some.injEq] at h; subst h; exact ⟨rfl, fun i n h => by simp at h⟩
  | cons r rows ih =>
    intro l h
    unfold nums at h
    split at h
    · rename_i e; cases e
    · rename_i n r' e
      obtain ⟨rfl, rfl⟩ : r = [.v (.int .u8 n)] ∧ rows = r' := by cases e; exact ⟨rfl, rfl⟩
      split at h
      · rename_i l' hl
        simp only [Option.some.injEq] at h
        subst h
        obtain ⟨g1, g2⟩ := ih hl
        refine ⟨by simp [g1], fun i m hi => ?_⟩
        cases i with
        | zero => simp at hi; subst hi; rfl
        | succ i => exact g2 i m (by simpa using hi)
      · cases h
    · cases h

theorem bytesT_get {s : ByteArray} {i j : Nat} {t : T} (h : cellT (bytesT s) i j = some t) : j = 0 ∧ ∃ hi : i < s.size, t = .v (.int .u8 (s[i]'hi).toNat) := by
  unfold cellT bytesT at h
  rw [List.getElem?_map] at h
  cases hb : s.data.toList[i]? with
  | none => simp [hb] at h
  | some b =>
    simp only [hb, Option.map_some, Option.bind_some] at h
    cases j with
    | succ j => simp at h
    | zero =>
      simp at h
      have hi : i < s.data.size := by have := (List.getElem?_eq_some_iff.1 hb).1; simpa using this
      refine ⟨rfl, hi, ?_⟩
      rw [← h]
      have : s.data[i] = b := by
        have := (List.getElem?_eq_some_iff.1 hb).2; simpa using this
      rw [← this]; rfl
theorem bytesT_len {s : ByteArray} : (bytesT s).length = s.size := by show _ = s.data.size; simp [bytesT]
theorem bytesRow_size (s : ByteArray) (c : Nat) (h : s.size ≤ c) : (bytesRow s c).size = c := by
  have : s.data.size = s.size := rfl
  simp [bytesRow, this]; omega

theorem snd_conv (hTs : TysOk P E) (h : OInv w0 A ob w ρ φ Z) (hsl : ∀ n, AVR w ob ρ (sl n) (a.tmps.getD n undef)) {o : Oper} {s t : TypeId} {ti ts : TyI} (hT : TyOk P t ti) (hTS : TyOk P s ts) {x : Operand} (ho : o.op = .convert s t x) {out : Out}
    (hr : (exConv (o.dst.getD 0) ti ts (byteTy E.ty ti) (byteTy E.ty ts) (ev sl x)).run ob = some out) : Snd P w0 A ob w ρ o a out := by
  cases hx : ev sl x with
  | s v =>
    rw [hx] at hr
    cases v with
    | int k n =>
      simp only [exConv] at hr
      split at hr
      · rename_i k2 hk
        split at hr
        · rename_i hks
          obtain ⟨k3, hk3⟩ := Option.isSome_iff_exists.1 hks
          obtain ⟨m, hm⟩ : ∃ n, ti.cells = [.s (.int k2 n)] := by
            unfold kindOf at hk
            split at hk
            · rename_i e; cases hk; exact ⟨_, e⟩
            · cases hk
          obtain ⟨m2, hm2⟩ : ∃ n, ts.cells = [.s (.int k3 n)] := by
            unfold kindOf at hk3
            split at hk3
            · rename_i e; cases hk3; exact ⟨_, e⟩
            · cases hk3
          rw [val_out hr]
          exact snd_convert h hsl hT hTS ho hx hm hm2
        · simp [Rd.run] at hr
      · simp [Rd.run] at hr
    | string str =>
      simp only [exConv] at hr
      split at hr
      case isFalse => simp [Rd.run] at hr
      rename_i hq
      obtain ⟨hb, hs, hle⟩ := hq
      obtain ⟨e, u1, u2⟩ := byteTy_under hTs hT hb
      have u3 := isStr_under hTS hs
      obtain ⟨h1, _⟩ := ev_s hsl hx
      obtain rfl := mk_run hr
      have hrun := run_bytes_of_string (P := P) w s t e str u3 u1 u2
      have hcap := grownCap_ge w str.size 0 e
      have hmax := grownCap_le_maxLen w str.size 0 e (by unfold maxLen; omega)
      have hsz := bytesRow_size str (grownCap w str.size 0 e) hcap
      have hk : Keep none_ w (w.drew.alloc (.cells (bytesRow str (grownCap w str.size 0 e)) e ((bytesRow str (grownCap w str.size 0 e)).size, (bytesRow str (grownCap w str.size 0 e)).size + 1))) :=
        ⟨rfl, rfl, rfl, by show _ ≤ (w.heap.push _).size; rw [Array.size_push]; omega, fun k hk _ => by show (w.heap.push _)[k]? = _; rw [Array.getElem?_push, if_neg (by omega)]⟩
      have hnew : (w.drew.alloc (.cells (bytesRow str (grownCap w str.size 0 e)) e ((bytesRow str (grownCap w str.size 0 e)).size, (bytesRow str (grownCap w str.size 0 e)).size + 1))).heap[w.heap.size]? = some (.cells (bytesRow str (grownCap w str.size 0 e)) e ((bytesRow str (grownCap w str.size 0 e)).size, (bytesRow str (grownCap w str.size 0 e)).size + 1)) := by
        show (w.heap.push _)[w.heap.size]? = _; rw [Array.getElem?_push, if_pos rfl]
      have hF := Ow.own (Z := Z) (w := w.drew.alloc (.cells (bytesRow str (grownCap w str.size 0 e)) e ((bytesRow str (grownCap w str.size 0 e)).size, (bytesRow str (grownCap w str.size 0 e)).size + 1))) (l := 8) (b := w.heap.size) (off := 0) (c := grownCap w str.size 0 e)
        (rows := bytesT str) (sz := 1) (fun i j => if hi : i < str.size then .int .u8 (str[i]'hi).toNat else undef) (fun _ _ => none_) hnew (fun k hk hq => by simp only at hq; omega) (by rw [bytesT_len]; exact hcap) (by rw [hsz]; omega) hmax
        (fun r hr => by simp only [bytesT, List.mem_map] at hr; obtain ⟨b, _, rfl⟩ := hr; rfl)
        (fun i j t hc => by
          obtain ⟨rfl, hi, rfl⟩ := bytesT_get hc
          rw [dif_pos hi, Nat.mul_one, Nat.add_zero, Nat.zero_add]
          have hi' : i < str.data.size := hi
          unfold bytesRow
          rw [Array.getElem?_append_left (by simpa using hi')]
          rw [Array.getElem?_map, Array.getElem?_eq_getElem hi']
          rfl)
        (fun i j t hc => by
          obtain ⟨rfl, hi, rfl⟩ := bytesT_get hc
          rw [dif_pos hi]
          exact .v rfl)
        (fun _ _ _ => rfl) (fun _ _ h => h) (fun _ _ _ _ _ h => h.elim)
      rw [bytesT_len] at hF
      obtain ⟨ρ', φ', r1, r2⟩ := append_done (d := o.dst.getD 0) (n := str.size) h (h.world hk) hF (fun k hk' => by
        rcases hk' with rfl | ⟨i, j, hk'⟩
        · exact ⟨fun hz => Nat.lt_irrefl _ (h.zlt _ hz), fun o' ho => Nat.lt_irrefl _ (h.lt o' _ ho), fun hl => absurd hl (Nat.not_lt.2 h.keep.size)⟩
        · exact hk'.elim) rfl bytesT_len.symm
      refine opSound_value (exec_v (s := convert s t (a.eval x)) (by simp [execOp, ho]) (by rw [h1]; exact hrun)) ⟨ρ', φ', Z, r1, r2⟩
    | _ => simp [exConv, Rd.run] at hr
  | nl n =>
    rw [hx] at hr
    simp only [exConv] at hr
    split at hr
    case isFalse => simp [Rd.run] at hr
    rename_i hq
    obtain ⟨e, u1, u2⟩ := byteTy_under hTs hTS hq.1
    have u3 := isStr_under hT hq.2
    rw [val_out hr]
    have h1 := ev_sound (a := a) hsl x
    rw [hx] at h1
    generalize hv : a.eval x = v at h1
    cases h1
    refine snd_val (v := .string .empty) h (exec_v (s := convert s t (a.eval x)) (by simp [execOp, ho]) (by rw [hv]; exact run_convert_bytes_nil w s e u1 u2 0 0 t u3)) (.s rfl)
  | h oo b g p sz lo len =>
    rw [hx] at hr
    simp only [exConv] at hr
    split at hr
    case isFalse => simp [Rd.run] at hr
    rename_i hq
    obtain ⟨e, u1, u2⟩ := byteTy_under hTs hTS hq.1
    have u3 := isStr_under hT hq.2
    have h1 := ev_sound (a := a) hsl x
    rw [hx] at h1
    generalize hv : a.eval x = v at h1
    obtain ⟨lvl, tr, sz', rows, hc, hvl, hat, hr2⟩ := look_run (k := fun _ _ _ sz' rows => _) hr
    clear hr
    obtain ⟨v', F', rfl, hle, hvw, hA, how, hsub, _⟩ := view_cells h h1 hc hvl hat
    obtain ⟨F2, _, ho2⟩ := how.view hvw hle
    have hlen := drop_take_len hle
    generalize hR : (rows.drop lo).take len = R at hr2 ho2 hlen
    cases hn : nums R with
    | none => simp [hn, Rd.run] at hr2
    | some l =>
      simp only [hn] at hr2
      split at hr2
      case isFalse => simp [Rd.run] at hr2
      rename_i hs1
      subst hs1
      obtain ⟨g1, g2⟩ := nums_get hn
      rw [val_out hr2]
      refine snd_val (v := .string (strOfNums l)) h (exec_v (s := convert s t (a.eval x)) (by simp [execOp, ho]) ?_) (.s rfl)
      rw [hv]
      generalize hvv : v = vv at ho2
      generalize lvl - p.length = lq at ho2
      cases vv with
      | slice ad n c =>
        cases ad with
        | none =>
          have hl0 : l = [] := by
            cases ho2
            exact List.length_eq_zero_iff.1 (by rw [g1]; rfl)
          rw [run_convert_bytes_nil w s e u1 u2 n c t u3, hl0]
          rfl
        | some ad =>
          obtain ⟨e1, _, _, xs, G, l', hcell⟩ := ho2.row
          subst e1
          have hload : (loadCells ad R.length).run P w = .ok (l.map (Value.int .u8)).toArray w := by
            have := run_loadCells_list (P := P) w ad (l.map (Value.int .u8)) (fun j u hj => by
              rw [List.getElem?_map] at hj
              cases hm : l[j]? with
              | none => simp [hm] at hj
              | some m =>
                simp only [hm, Option.map_some, Option.some.injEq] at hj
                subst hj
                obtain ⟨c1, c2⟩ := hcell j 0 _ (g2 j m hm)
                rw [Nat.mul_one, Nat.add_zero] at c1
                generalize xs j 0 = q at c1 c2
                generalize G j 0 = gq at c2
                cases c2
                exact c1)
            simpa [g1] using this
          rw [run_convert_bytes_string w s t e (some ad) R.length c u1 u2 u3, run_bytesToString w ad R.length c l hload, foldl_push_bytes]
          simp [strOfNums, ByteArray.empty, ByteArray.emptyWithCapacity]
          rfl
      | _ => cases ho2
  | _ => rw [hx] at hr; simp [exConv, Rd.run] at hr
end Go.Proofs.YtipfcgbhaalcdaaGreat.Abs
namespace Go.Proofs.YtipfcgbhaalcdaaGreat.Abs
open Go
set_option linter.unusedVariables false
set_option linter.unusedSimpArgs false
variable {P : Program} {E : Env} {w0 : World} {A : Fp} {ob : Objs} {w : World} {ρ : Nat → Value} {φ : Nat → Fp} {Z : Fp} {sl : Slots} {a : Act}
theorem run_append_zeros (w : World) (t tn ty e : TypeId) (i : TypeInfo) (z : Value) (ht : P.underlying t = some (.slice e)) (htn : P.underlying tn = some (.int .i64)) (hi : P.info? e = some i) (hz : i.zero = some z) (hs : i.size = 1)
    (n : Nat) (h0 : 0 < n) (h63 : (n : Int) ≤ 140737488355328) (h48 : n * i.bytes ≤ 140737488355328) :
    (Builtin.append_ #[t, tn] ty #[.slice none 0 0, .int .i64 n]).run P w =
      .ok (.slice (some ⟨w.heap.size, 0, none⟩) n (grownCap w n 0 e)) (w.drew.alloc (.cells (Builtin.zeroCells z.cells n ++ Builtin.zeroCells z.cells (grownCap w n 0 e - n)) e)) := by
  have hn : n ≠ 0 := by omega
  have hw : IntKind.i64.wrap (n : Int) = n := by rw [IntKind.wrap_i64]; omega
  have h1 : ¬ ((n : Int) < 0) := by omega
  have h2 : ¬ ((281474976710656 : Int) < (n : Int) * (i.bytes : Int)) := by
    have : (n : Int) * (i.bytes : Int) = ((n * i.bytes : Nat) : Int) := by simp
    omega
  have h63' : ¬ (9223372036854775807 < (n : Int)) := by omega
  have h48' : ¬ (281474976710656 < Builtin.nextslicecap n 0 * i.bytes) := by rw [nextslicecap_zero h0]; omega
  simp [Builtin.append_, run_underlying ht, run_underlying htn, sizeOf, typeInfo, zeroValue, hi, hz, hs, hn, hw, h1, h2, h63', h48', asInt, asIntOf, Sem.run_bind, Sem.run, Result.andThen, pure, Question.forced, run_firstCells_none, newRow, grownCap]
  rfl
theorem zero_flat (x : Value) (n : Nat) : (flatV n 1 (fun _ _ => x)).toArray = Builtin.zeroCells #[x] n := by
  apply Array.ext'
  simp [flatV, Builtin.zeroCells]
  intro a _
  rw [Nat.mod_one]
  rfl
theorem append_zero (h : OInv w0 A ob w ρ φ Z) {t tn ty e : TypeId} {i : TypeInfo} {z x : Value} (ht : P.underlying t = some (.slice e)) (htn : P.underlying tn = some (.int .i64)) (hi : P.info? e = some i) (hz : i.zero = some z) (hs : i.size = 1) (hzc : z.cells = #[x]) (hx : scalar x = true)
    {d n bytes : Nat} (hby : i.bytes = bytes) (h0 : 0 < n) (hlim : lim n bytes = true) :
    ∃ v' w' ρ' φ' Z', (Builtin.append_ #[t, tn] ty #[.slice none 0 0, .int .i64 n]).run P w = .ok v' w' ∧
      Step w0 A ob w ρ (upd ob d ⟨(ob d).birth + 1, 0, false, .tree 9 (.sl 1 (List.replicate n [.v x]))⟩) w' ρ' φ' Z' ∧ AVR w' (upd ob d ⟨(ob d).birth + 1, 0, false, .tree 9 (.sl 1 (List.replicate n [.v x]))⟩) ρ' (.h d ((ob d).birth + 1) 0 [] 1 0 n) v' := by
  simp only [lim, decide_eq_true_eq] at hlim
  have hrun := run_append_zeros (P := P) w t tn ty e i z ht htn hi hz hs n h0 (by omega) (by rw [hby]; omega)
  have hcap := grownCap_ge w n 0 e
  have hmax := grownCap_le_maxLen w n 0 e (by unfold maxLen; omega)
  have hrep : ∀ (i j : Nat) (t : T), cellT (List.replicate n [T.v x]) i j = some t → t = .v x := by
    intro i j t ht
    unfold cellT at ht
    rw [List.getElem?_replicate] at ht
    split at ht
    · cases j with
      | zero => simpa using ht.symm
      | succ j => simp at ht
    · simp at ht
  obtain ⟨F, hF, hFk⟩ := fresh_node (w := w) (Z := Z) (L := 8) (sz := 1) (cap := grownCap w n 0 e) (e := e) (R1 := []) (R2 := List.replicate n [T.v x]) (xs1 := fun _ _ => x) (xs2 := fun _ _ => x) (G1 := fun _ _ => none_) (G2 := fun _ _ => none_)
    (zs := Builtin.zeroCells z.cells (grownCap w n 0 e - n)) (by decide) (fun r hr => by cases hr) (fun r hr => by rw [(List.mem_replicate.1 hr).2]; rfl) (by simpa using hcap) hmax (by rw [zeroCells_size, hzc]; simp) (fun i j t h => by simp [cellT] at h)
    (fun i j t h => by rw [hrep i j t h]; exact .v hx) (fun _ _ _ => rfl) (fun _ _ _ => rfl) (fun _ _ _ h => h.elim) (fun _ _ _ h => h.elim) (fun k hk => h.zlt k hk) (fun _ _ _ _ _ h => h.elim) (fun _ _ _ _ _ h => h.elim) (fun _ _ _ _ _ h => h.elim)
  have earr : (flatV ([] : List (List T)).length 1 (fun _ _ => x)).toArray ++ (flatV (List.replicate n [T.v x]).length 1 (fun _ _ => x)).toArray ++ Builtin.zeroCells z.cells (grownCap w n 0 e - n) = Builtin.zeroCells z.cells n ++ Builtin.zeroCells z.cells (grownCap w n 0 e - n) := by
    have : flatV ([] : List (List T)).length 1 (fun _ _ => x) = [] := by simp [flatV]
    rw [this, List.length_replicate, zero_flat, ← hzc]; simp
  rw [earr] at hF
  have hst2 := h.world (grown_keep w (Builtin.zeroCells z.cells n ++ Builtin.zeroCells z.cells (grownCap w n 0 e - n)) e)
  have hF2 : Ow Z (w.drew.alloc (.cells (Builtin.zeroCells z.cells n ++ Builtin.zeroCells z.cells (grownCap w n 0 e - n)) e)) 9 (.slice (some ⟨w.heap.size, 0, none⟩) n (grownCap w n 0 e)) (.sl 1 (List.replicate n [.v x])) F := by
    simpa using hF
  obtain ⟨ρ', φ', h3, h4⟩ := append_done (d := d) (n := n) h hst2 hF2 (fun k hk => by
    rcases hFk k hk with rfl | ⟨i, j, hk⟩ | ⟨i, j, hk⟩
    · exact ⟨fun hz => Nat.lt_irrefl _ (h.zlt _ hz), fun o' ho => Nat.lt_irrefl _ (h.lt o' _ ho), fun hlt => absurd hlt (Nat.not_lt.2 h.keep.size)⟩
    · exact hk.elim
    · exact hk.elim) rfl (by simp)
  exact ⟨_, _, ρ', φ', Z, hrun, h3, h4⟩
theorem snd_zeros (h : OInv w0 A ob w ρ φ Z) (hsl : ∀ n, AVR w ob ρ (sl n) (a.tmps.getD n undef)) {o : Oper} {c : Call} (ho : o.op = .call c) (hcal : c.callee = .builtin .append) {s x : Operand} (hargs : c.args.toList = [s, x]) {t tn : TypeId} (hts : c.argTypes.toList = [t, tn])
    {ti i tni : TyI} (hT : TyOk P t ti) {e : TypeId} (he : ti.elem = some e) (hTe : TyOk P e i) (hTn : TyOk P tn tni) {d : Nat} {out : Out} (hr : (exZeros d (some tni) { i with bytes := ti.bytes } (ev sl s) (ev sl x)).run ob = some out) : Snd P w0 A ob w ρ o a out := by
  obtain ⟨e1, ei, e2, e3, e4⟩ := hT.elem e he
  obtain ⟨i', z, f1, f2, f3, f4, f5⟩ := zero_cells hTe
  rw [e2] at f1
  cases f1
  unfold exZeros at hr
  split at hr
  · rename_i tn' z' q n h1 hc hs hx
    cases h1
    split at hr
    · rename_i hcond
      obtain ⟨g1, g2, g3⟩ := hcond
      obtain rfl := mk_run hr
      have hc' : i.cells = [.s z'] := hc
      have hz5 := f5 w ob ρ 0 (.s z') (by rw [hc']; rfl)
      have hsc : scalar z' = true ∧ z.cells.getD 0 undef = z' := by
        generalize z.cells.getD 0 undef = y at hz5
        cases hz5 with | s hh => exact ⟨hh, rfl⟩
      have hsize : z.cells.size = 1 := by rw [f4, hc']; rfl
      have hzc : z.cells = #[z'] := by
        apply Array.ext
        · rw [hsize]; rfl
        · intro k hk1 hk2
          have : k = 0 := by omega
          subst this
          have := hsc.2
          simp [Array.getD, hsize] at this
          simpa using this
      have hkn : P.underlying tn = some (.int .i64) := by
        unfold kindOf at g1
        split at g1
        · rename_i k m hk
          cases g1
          exact hTn.kind _ _ hk
        · cases g1
      have hav := ev_sound (a := a) hsl s
      rw [hs] at hav
      have hsv : a.eval s = .slice none 0 0 := by
        generalize a.eval s = y at hav
        cases hav; rfl
      have hxv := (ev_s hsl hx).1
      obtain ⟨m, rfl⟩ : ∃ m : Nat, n = m := ⟨n.toNat, by omega⟩
      rw [Int.toNat_natCast] at *
      obtain ⟨v', w', ρ', φ', Z', r1, r2, r3⟩ := append_zero (ty := o.type) (d := d) (n := m) h e1 hkn e2 f2 (by rw [f3, hc']; rfl) hzc hsc.1 (bytes := ti.bytes) e4 (by omega) g3
      have ha : c.args = #[s, x] := by rw [← Array.toList_inj]; simpa using hargs
      have ht : c.argTypes = #[t, tn] := by rw [← Array.toList_inj]; simpa using hts
      refine opSound_value (v := v') (w' := w') ?_ ⟨ρ', φ', Z', r2, r3⟩
      simp [execOp, ho, resolve, hcal, ha, ht, hsv, hxv, Sem.run_bind, Sem.run, Result.andThen, pure, invoke, builtin, r1]
    · simp [Rd.run] at hr
  · simp [Rd.run] at hr
theorem snd_capnil (h : OInv w0 A ob w ρ φ Z) (hsl : ∀ n, AVR w ob ρ (sl n) (a.tmps.getD n undef)) {o : Oper} {c : Call} (ho : o.op = .call c) (hcal : c.callee = .builtin .cap) {x : Operand} (hargs : c.args.toList = [x]) {t : TypeId} (hts : c.argTypes.toList = [t]) {ti : TyI} (hT : TyOk P t ti) (hs : ti.elem.isSome = true) {sz : Nat}
    (hx : ev sl x = .nl sz) : Snd P w0 A ob w ρ o a ⟨.s (.int .i64 0), []⟩ := by
  have h1 := ev_sound (a := a) hsl x
  have ha : c.args = #[x] := by rw [← Array.toList_inj]; simpa using hargs
  have ht : c.argTypes = #[t] := by rw [← Array.toList_inj]; simpa using hts
  obtain ⟨e, he⟩ := Option.isSome_iff_exists.1 hs
  have he := (hT.elem e he).1
  rw [hx] at h1
  have hv : a.eval x = .slice none 0 0 := by
    generalize a.eval x = y at h1
    cases h1; rfl
  refine snd_scalar h rfl ?_
  simp [execOp, ho, resolve, hcal, ha, ht, hv, Sem.run_bind, Sem.run, Result.andThen, pure, invoke, builtin, Builtin.cap_, underlying, he, goInt]
theorem snd_slicenil (h : OInv w0 A ob w ρ φ Z) (hsl : ∀ n, AVR w ob ρ (sl n) (a.tmps.getD n undef)) {o : Oper} {t : TypeId} {ti : TyI} (hT : TyOk P t ti) {x y : Operand} (ho : o.op = .slice t x none (some y) none) {q : Nat} (hx : ev sl x = .nl q) {kk : IntKind} (hy : ev sl y = .s (.int kk 0)) (hel : ti.elem.isSome = true) :
    Snd P w0 A ob w ρ o a ⟨.nl q, []⟩ := by
  have h1 := ev_sound (a := a) hsl x
  obtain ⟨e, he⟩ := Option.isSome_iff_exists.1 hel
  obtain ⟨e1, ei, e2, e3, _⟩ := hT.elem e he
  rw [hx] at h1
  have hv : a.eval x = .slice none 0 0 := by
    generalize a.eval x = y at h1
    cases h1; rfl
  refine snd_val h (exec_v (s := Instr.sliceAt t (a.eval x) none (some (a.eval y)) none) (by simp [execOp, ho]) (v := .slice none 0 0) ?_) .nl
  rw [hv, (ev_s hsl hy).1]
  simp [Instr.sliceAt, Instr.slice, Instr.sliceBounds, Instr.sliceBound, asIntOf, underlying, e1, Sem.run_bind, Sem.run, Result.andThen, pure, sizeOf, typeInfo, e2]
end Go.Proofs.YtipfcgbhaalcdaaGreat.Abs
namespace Go.Proofs.YtipfcgbhaalcdaaGreat.Abs
open Go
set_option linter.unusedVariables false
set_option linter.unusedSimpArgs false
variable {P : Program} {E : Env} {w0 : World} {A : Fp} {ob : Objs} {w : World} {ρ : Nat → Value} {φ : Nat → Fp} {Z : Fp} {sl : Slots} {a : Act}

theorem kindOf_some {l : List AV} {k : IntKind} (h : kindOf l = some k) : ∃ n, l = [.s (.int k n)] := by
  unfold kindOf at h
  split at h
  · cases h; exact ⟨_, rfl⟩
  · cases h
theorem byteAt_eq {s : ByteArray} {i : Nat} (h : i < s.size) : byteAt s i = ((s[i]'h).toNat : Int) := by
  have e : s[i]? = some (s[i]'h) := getElem?_pos s i h
  simp [byteAt, e]
theorem snd_val' {o : Oper} {x : AV} {out : Out} (hr : (val x).run ob = some out) (h : Snd P w0 A ob w ρ o a ⟨x, []⟩) : Snd P w0 A ob w ρ o a out := by rw [val_out hr]; exact h
theorem args1 {α : Type} {l : List α} {f : α → AV} {x : AV} (h : l.map f = [x]) : ∃ y, l = [y] ∧ f y = x := by
  match l, h with
  | [y], h => exact ⟨y, rfl, by simpa using h⟩
theorem args2 {α : Type} {l : List α} {f : α → AV} {x y : AV} (h : l.map f = [x, y]) : ∃ p q, l = [p, q] ∧ f p = x ∧ f q = y := by
  match l, h with
  | [p, q], h => simp at h; exact ⟨p, q, rfl, h⟩

theorem snd_value (hC : CallOk P E) (h : OInv w0 A ob w ρ φ Z) (hsl : ∀ n, AVR w ob ρ (sl n) (a.tmps.getD n undef)) {o : Oper} {c : Call} (ho : o.op = .call c) {f : Operand} (hcal : c.callee = .value f) {fid : FuncId} {caps : List AV} (hf : ev sl f = .fn fid caps) (hts : c.argTypes.size = c.args.size) {out : Out}
    (hr : (exCall E (o.dst.getD 0) fid (((c.args.toList.zip c.argTypes.toList).map fun (x, t) => evT E sl t x) ++ caps)).run ob = some out) : Snd P w0 A ob w ρ o a out := by
  have h1 := ev_sound (a := a) hsl f
  rw [hf] at h1
  generalize hq : a.eval f = v at h1
  cases h1 with | @fn _ _ cs hl hcs =>
  obtain ⟨hen, hcalls⟩ := exCall_sound (vs0 := c.args.map a.eval ++ cs) hC h (by simp [hl, hts]) (fun i x hx => by
    by_cases hi : i < c.args.size
    · rw [List.getElem?_append_left (by simp [hts]; exact hi), List.getElem?_map] at hx
      have e1 : (c.args.toList.zip c.argTypes.toList)[i]? = some (c.args[i], c.argTypes[i]'(by omega)) := by
        rw [List.getElem?_eq_getElem (by simp [hts]; exact hi)]
        simp
      rw [e1] at hx
      simp only [Option.map_some, Option.some.injEq] at hx
      subst hx
      have e2 : (c.args.map a.eval ++ cs).getD i undef = a.eval c.args[i] := by
        have : i < (c.args.map a.eval ++ cs).size := by simp; omega
        simp [Array.getD, this, Array.getElem_append, hi]
        intro h; omega
      rw [e2]
      exact evT_sound hsl _ _
    · rw [List.getElem?_append_right (by simp [hts]; omega)] at hx
      have hlen : ((c.args.toList.zip c.argTypes.toList).map fun (x, t) => evT E sl t x).length = c.args.size := by simp [hts]
      rw [hlen] at hx
      have hi2 : i - c.args.size < caps.length := (List.getElem?_eq_some_iff.1 hx).1
      have e2 : (c.args.map a.eval ++ cs).getD i undef = cs.getD (i - c.args.size) undef := by
        have h3 : i < (c.args.map a.eval ++ cs).size := by simp; omega
        have h4 : i - c.args.size < cs.size := by omega
        simp [Array.getD, h3, h4, Array.getElem_append, hi]
        rw [dif_pos (by omega)]
      rw [e2]
      exact hcs _ x hx) hr
  intro K Q hK
  unfold Oper.wp
  have hrun : (execOp a.eval o).run P w = .ok (.enter fid (c.args.map a.eval ++ cs)) w := by
    simp only [execOp, ho, resolve, hcal, hq, Deferred.ofValue]
    simp [Sem.run_bind, Sem.run, Result.andThen, pure, invoke, hen]
  rw [hrun, Oper.upon_enter]
  refine Calls.mono hcalls fun e w' he => ?_
  cases e with
  | returned v => exact hK v w' he
  | panicked _ => exact he.elim
  | outgrown => exact he.elim

theorem ex_sound (hTs : TysOk P E) (hC : CallOk P E) (h : OInv w0 A ob w ρ φ Z) (hsl : ∀ n, AVR w ob ρ (sl n) (a.tmps.getD n undef)) (o : Oper) {out : Out} (hr : (ex E sl o).run ob = some out) : Snd P w0 A ob w ρ o a out := by
  unfold ex at hr
  split at hr
  · rename_i x ho; exact snd_val' hr (snd_move h hsl (.inl ho))
  · rename_i x ho; exact snd_val' hr (snd_move h hsl (.inr ho))
  · rename_i c x y ho
    split at hr
    · rename_i t hc; exact snd_val' hr (snd_pick h hsl ho hc)
    · simp [Rd.run] at hr
  · rename_i t ho
    split at hr
    · rename_i i hi; exact snd_alloc h (hTs _ _ hi) ho hr
    · simp [Rd.run] at hr
  · rename_i t x ho
    split at hr
    · rename_i l hl; exact snd_box h hsl ho hl hr
    · simp [Rd.run] at hr
  · rename_i t parts ho
    split at hr
    · rename_i i hi
      split at hr
      · rename_i hag
        obtain ⟨y, hy, rfl⟩ := opt_out hr
        cases hf : fillAt (fun k => i.offs[k]?) i.cells (parts.toList.map fun (k, x) => (k, ev sl x)) with
        | none => simp [hf] at hy
        | some l => simp only [hf, Option.map_some, Option.some.injEq] at hy; subst hy; exact snd_build h hsl (hTs _ _ hi) ((hTs _ _ hi).flds hag) ho hf
      · simp [Rd.run] at hr
    · simp [Rd.run] at hr
  · rename_i t len parts ho
    split at hr
    · rename_i ti hti
      split at hr
      · rename_i e he
        split at hr
        · rename_i i hi
          split at hr
          · rename_i cells hf
            split at hr
            · rename_i hc; exact snd_buildSlice hTs h hsl (hTs _ _ hti) he (hTs _ _ hi) ho hf hc.1 hc.2 hr
            · simp [Rd.run] at hr
          · simp [Rd.run] at hr
        · simp [Rd.run] at hr
      · simp [Rd.run] at hr
    · simp [Rd.run] at hr
  · rename_i t x ho
    split at hr
    · rename_i ti hti; exact snd_load h hsl (hTs _ _ hti) ho hr
    · simp [Rd.run] at hr
  · rename_i t x y ho
    split at hr
    · rename_i ti hti; exact snd_store h hsl (hTs _ _ hti) ho hr
    · simp [Rd.run] at hr
  · rename_i x ho
    split at hr
    · rename_i hx; exact snd_val' hr (snd_nilCheck h hsl ho hx)
    · simp [Rd.run] at hr
  · rename_i op t x y yt ho; exact snd_bin hTs h hsl ho hr
  · rename_i op t x ho
    split at hr
    · rename_i t' hx; exact snd_val' hr (snd_not h hsl ho hx)
    · rename_i k n hx; exact snd_val' hr (snd_neg h hsl ho hx)
    · simp [Rd.run] at hr
  · rename_i st t x ho
    split at hr
    · rename_i ti ts hti hts
      exact snd_conv hTs h hsl (hTs _ _ hti) (hTs _ _ hts) ho hr
    · simp [Rd.run] at hr
  · rename_i f first cap ho
    split at hr
    · rename_i h0; exact snd_val' hr (snd_makeFunc h hsl ho h0)
    · simp [Rd.run] at hr
  · rename_i t l c ho
    split at hr
    · rename_i ti hti
      split at hr
      · rename_i e he
        split at hr
        · rename_i i hi
          split at hr
          · rename_i k n k' m hl hcc
            split at hr
            · rename_i hcond
              obtain ⟨⟨rfl, rfl⟩, c1, c2, c3, c4, c5⟩ := hcond
              exact snd_makeSlice h hsl (hTs _ _ hti) he (hTs _ _ hi) ho hl hcc c1 c2 c3 c4 c5 hr
            · simp [Rd.run] at hr
          · simp [Rd.run] at hr
        · simp [Rd.run] at hr
      · simp [Rd.run] at hr
    · simp [Rd.run] at hr
  · rename_i t x lo hi ho
    split at hr
    · simp [Rd.run] at hr
    · rename_i ti hti
      have some_ : ∀ {y : Option Operand} {v : AV}, y.map (ev sl) = some v → ∃ z, y = some z ∧ ev sl z = v := by
        intro y v hy
        cases y with
        | none => simp at hy
        | some z => exact ⟨z, rfl, by simpa using hy⟩
      have none_' : ∀ {y : Option Operand}, y.map (ev sl) = none → y = none := by
        intro y hy
        cases y with
        | none => rfl
        | some z => simp at hy
      split at hr
      · rename_i o' b g p sz l n k m hx hlo hhi
        obtain ⟨y, hy1, hy2⟩ := some_ hlo
        split at hr
        · rename_i hc
          obtain ⟨c1, c2, c3, c4⟩ := hc
          obtain ⟨m', rfl⟩ : ∃ m' : Nat, m = m' := ⟨m.toNat, by omega⟩
          exact snd_val' hr (snd_slice h hsl (hTs _ _ hti) ho hx (m := m') (k := n) (.inr ⟨y, _, hy1, hy2⟩) (.inl ⟨none_' hhi, rfl⟩) (by omega) (Nat.le_refl _) c3 c4)
        · simp [Rd.run] at hr
      · rename_i o' b g p sz l n k m hx hlo hhi
        obtain ⟨y, hy1, hy2⟩ := some_ hhi
        split at hr
        · rename_i hc
          obtain ⟨c1, c2, c3, c4⟩ := hc
          obtain ⟨m', rfl⟩ : ∃ m' : Nat, m = m' := ⟨m.toNat, by omega⟩
          exact snd_val' hr (by simpa using snd_slice h hsl (hTs _ _ hti) ho hx (m := 0) (k := m') (.inl ⟨none_' hlo, rfl⟩) (.inr ⟨y, _, hy1, hy2⟩) (Nat.zero_le _) (by omega) c3 c4)
        · simp [Rd.run] at hr
      · rename_i o' b g p sz l n k m k2 m2 hx hlo hhi
        obtain ⟨y, hy1, hy2⟩ := some_ hlo
        obtain ⟨y2, hy3, hy4⟩ := some_ hhi
        split at hr
        · rename_i hc
          obtain ⟨c1, c2, c3, c4, c5⟩ := hc
          obtain ⟨m', rfl⟩ : ∃ m' : Nat, m = m' := ⟨m.toNat, by omega⟩
          obtain ⟨m2', rfl⟩ : ∃ m2' : Nat, m2 = m2' := ⟨m2.toNat, by omega⟩
          exact snd_val' hr (snd_slice h hsl (hTs _ _ hti) ho hx (m := m') (k := m2') (.inr ⟨y, _, hy1, hy2⟩) (.inr ⟨y2, _, hy3, hy4⟩) (by omega) (by omega) c4 c5)
        · simp [Rd.run] at hr
      · rename_i q kk c hx hlo hhi
        obtain ⟨y, hy1, hy2⟩ := some_ hhi
        split at hr
        · rename_i hc
          obtain ⟨rfl, c3, c4⟩ := hc
          have hl0 := none_' hlo
          subst hl0
          subst hy1
          exact snd_val' hr (snd_slicenil h hsl (hTs _ _ hti) ho hx hy2 c3)
        · simp [Rd.run] at hr
      · rename_i s k m hx hlo hhi
        obtain ⟨y, hy1, hy2⟩ := some_ hlo
        split at hr
        · rename_i hc
          obtain ⟨c1, c2, c3⟩ := hc
          obtain ⟨m', rfl⟩ : ∃ m' : Nat, m = m' := ⟨m.toNat, by omega⟩
          exact snd_val' hr (snd_strSlice h hsl (hTs _ _ hti) c3 ho hx (m := m') (k := s.size) (.inr ⟨y, _, hy1, hy2⟩) (.inl ⟨none_' hhi, rfl⟩) (by omega) (Nat.le_refl _))
        · simp [Rd.run] at hr
      · rename_i s k m hx hlo hhi
        obtain ⟨y, hy1, hy2⟩ := some_ hhi
        split at hr
        · rename_i hc
          obtain ⟨c1, c2, c3⟩ := hc
          obtain ⟨m', rfl⟩ : ∃ m' : Nat, m = m' := ⟨m.toNat, by omega⟩
          exact snd_val' hr (snd_strSlice h hsl (hTs _ _ hti) c3 ho hx (m := 0) (k := m') (.inl ⟨none_' hlo, rfl⟩) (.inr ⟨y, _, hy1, hy2⟩) (Nat.zero_le _) (by omega))
        · simp [Rd.run] at hr
      · rename_i s k m k2 m2 hx hlo hhi
        obtain ⟨y, hy1, hy2⟩ := some_ hlo
        obtain ⟨y2, hy3, hy4⟩ := some_ hhi
        split at hr
        · rename_i hc
          obtain ⟨c1, c2, c3, c4⟩ := hc
          obtain ⟨m', rfl⟩ : ∃ m' : Nat, m = m' := ⟨m.toNat, by omega⟩
          obtain ⟨m2', rfl⟩ : ∃ m2' : Nat, m2 = m2' := ⟨m2.toNat, by omega⟩
          exact snd_val' hr (snd_strSlice h hsl (hTs _ _ hti) c4 ho hx (m := m') (k := m2') (.inr ⟨y, _, hy1, hy2⟩) (.inr ⟨y2, _, hy3, hy4⟩) (by omega) (by omega))
        · simp [Rd.run] at hr
      · simp [Rd.run] at hr
  · rename_i t x f ho
    split at hr
    · rename_i hx hti
      split at hr
      · rename_i k hk; exact snd_val' hr (snd_field h hsl (hTs _ _ hti) ho hx hk)
      · simp [Rd.run] at hr
    · simp [Rd.run] at hr
  · rename_i t x ix ho
    split at hr
    · rename_i hx hi hti
      split at hr
      · rename_i hc
        obtain ⟨c1, c2, c3, c4⟩ := hc
        obtain ⟨e, he⟩ := Option.isSome_iff_exists.1 c4
        exact snd_val' hr (snd_index h hsl (hTs _ _ hti) ho hx hi c1 c2 c3 he)
      · simp [Rd.run] at hr
    · simp [Rd.run] at hr
  · rename_i t x ix ho
    split at hr
    · rename_i s k i hx hi
      split at hr
      · rename_i hc
        obtain ⟨c1, c2, c3⟩ := hc
        obtain ⟨ti, hti, hs⟩ := any_some c1
        have hlt : i.toNat < s.size := by omega
        rw [byteAt_eq hlt] at hr
        exact snd_val' hr (snd_strIndex h hsl (hTs _ _ hti) hs ho hx hi c2 hlt)
      · simp [Rd.run] at hr
    · simp [Rd.run] at hr
  · rename_i x i ho
    split at hr
    · rename_i l hx
      obtain ⟨y, hy, rfl⟩ := opt_out hr
      exact snd_extract h hsl ho hx hy
    · simp [Rd.run] at hr
  · rename_i c ho
    split at hr
    · rename_i hcal
      split at hr
      · rename_i n t hargs hts
        split at hr
        · rename_i he
          obtain ⟨ti, hti, hs⟩ := any_some he
          obtain ⟨x, hx1, hx2⟩ := args1 hargs
          exact snd_val' hr (snd_len h hsl ho hcal hx1 hts (hTs _ _ hti) (.inl ⟨⟨_, _, _, _, _, _, hx2⟩, hs⟩))
        · simp [Rd.run] at hr
      · rename_i n t hargs hts
        split at hr
        · rename_i he
          obtain ⟨ti, hti, hs⟩ := any_some he
          obtain ⟨x, hx1, hx2⟩ := args1 hargs
          exact snd_val' hr (snd_len (n := 0) h hsl ho hcal hx1 hts (hTs _ _ hti) (.inr (.inl ⟨⟨_, hx2⟩, rfl, hs⟩)))
        · simp [Rd.run] at hr
      · rename_i s t hargs hts
        split at hr
        · rename_i he
          obtain ⟨ti, hti, hs⟩ := any_some he
          obtain ⟨x, hx1, hx2⟩ := args1 hargs
          exact snd_val' hr (snd_len h hsl ho hcal hx1 hts (hTs _ _ hti) (.inr (.inr ⟨s, hx2, rfl, hs⟩)))
        · simp [Rd.run] at hr
      · simp [Rd.run] at hr
    · rename_i hcal
      split at hr
      · rename_i s x t t' hargs hts
        split at hr
        · rename_i ti hti
          split at hr
          · rename_i i hi
            obtain ⟨p, q, hx1, hx2, hx3⟩ := args2 hargs
            cases he : ti.elem with
            | none => simp [he] at hi
            | some e =>
              simp only [he, Option.bind_some] at hi
              rw [← hx2, ← hx3] at hr
              split at hr
              · rename_i htt
                subst htt
                exact snd_append h hsl ho hcal hx1 hts (hTs _ _ hti) he (hTs _ _ hi) hr
              · cases htn : E.ty t' with
                | none => rw [htn] at hr; simp [exZeros, Rd.run] at hr
                | some tni =>
                  rw [htn] at hr
                  exact snd_zeros h hsl ho hcal hx1 hts (hTs _ _ hti) he (hTs _ _ hi) (hTs _ _ htn) hr
          · simp [Rd.run] at hr
        · simp [Rd.run] at hr
      · simp [Rd.run] at hr
    · rename_i hcal
      split at hr
      · rename_i n t hargs hts
        split at hr
        · rename_i he
          obtain ⟨ti, hti, hs⟩ := any_some he
          obtain ⟨x, hx1, hx2⟩ := args1 hargs
          exact snd_val' hr (snd_capnil h hsl ho hcal hx1 hts (hTs _ _ hti) hs hx2)
        · simp [Rd.run] at hr
      · simp [Rd.run] at hr
    · rename_i hcal
      split at hr
      · rename_i m n hargs
        obtain ⟨p, q, hx1, hx2, hx3⟩ := args2 hargs
        exact snd_val' hr ((snd_minmax h hsl ho hx1 hx2 hx3).1 hcal)
      · simp [Rd.run] at hr
    · rename_i hcal
      split at hr
      · rename_i m n hargs
        obtain ⟨p, q, hx1, hx2, hx3⟩ := args2 hargs
        exact snd_val' hr ((snd_minmax h hsl ho hx1 hx2 hx3).2 hcal)
      · simp [Rd.run] at hr
    · rename_i f hcal
      split at hr
      · rename_i fid caps hf
        split at hr
        · rename_i hts; exact snd_value hC h hsl ho hcal hf hts hr
        · simp [Rd.run] at hr
      · simp [Rd.run] at hr
    · simp [Rd.run] at hr
  · simp [Rd.run] at hr
end Go.Proofs.YtipfcgbhaalcdaaGreat.Abs
namespace Go.Proofs.YtipfcgbhaalcdaaGreat.Abs
open Go
set_option linter.unusedVariables false
set_option linter.unusedSimpArgs false

def stepO (E : Env) (all : List Oper) (o : Oper) (s : St) : Option St := match guardOf all s.sl o with
  | some true => match (ex E s.sl o).run s.ob with
    | some out => some ⟨putDst s.sl o.dst out.v, upds s.ob out.sets⟩
    | none => none
  | some false => some ⟨putDst s.sl o.dst (.tu []), s.ob⟩
  | none => none
theorem runOps_cons (E : Env) (all : List Oper) (o : Oper) (r : List Oper) (s : St) : runOps E all (o :: r) s = (stepO E all o s).bind (runOps E all r) := by
  simp only [runOps, stepO]
  cases guardOf all s.sl o with
  | none => rfl
  | some b => cases b with
    | false => rfl
    | true => cases (ex E s.sl o).run s.ob <;> rfl

theorem ev_congr {sl sl' : Slots} {x : Operand} (h : ∀ t, x = .tmp t → sl t = sl' t) : ev sl x = ev sl' x := by
  cases x with
  | tmp t => exact h t rfl
  | const v => unfold ev; split <;> first | rfl | (rename_i hh; cases hh)
  | _ => rfl
theorem evT_congr {E : Env} {sl sl' : Slots} {t : TypeId} {x : Operand} (h : ev sl x = ev sl' x) : evT E sl t x = evT E sl' t x := by
  unfold evT; rw [h]

theorem ex_congr {E : Env} {sl sl' : Slots} {o : Oper} (h : ∀ t, .tmp t ∈ o.op.operands.toList → sl t = sl' t) : ex E sl o = ex E sl' o := by
  have hx : ∀ x ∈ o.op.operands.toList, ev sl x = ev sl' x := fun x hx => ev_congr fun t e => h t (e ▸ hx)
  have hT : ∀ t, ∀ x ∈ o.op.operands.toList, evT E sl t x = evT E sl' t x := fun t x hm => evT_congr (hx x hm)
  obtain ⟨d, op, ty, pos, af, gd⟩ := o
  simp only at hx hT h
  cases op with
  | build t ps =>
    have e : ps.toList.map (fun (k, x) => (k, ev sl x)) = ps.toList.map (fun (k, x) => (k, ev sl' x)) :=
      List.map_congr_left fun p hp => by
        have := hx p.2 (by simp [Op.operands]; exact ⟨p.1, by simpa using hp⟩)
        simp [this]
    simp only [ex, e]
  | buildSlice t n ps =>
    have e : ∀ e, ps.toList.map (fun (k, x) => (k, evT E sl e x)) = ps.toList.map (fun (k, x) => (k, evT E sl' e x)) := fun e =>
      List.map_congr_left fun p hp => by
        have := hT e p.2 (by simp [Op.operands]; exact ⟨p.1, by simpa using hp⟩)
        simp [this]
    simp only [ex, e]
  | makeFunc f first cap =>
    cases f with
    | func f =>
      have e : cap.toList.map (ev sl) = cap.toList.map (ev sl') := List.map_congr_left fun x hm => hx x (by simp [Op.operands]; right; simpa using hm)
      simp only [ex, e]
    | _ => rfl
  | slice t x lo hi mx =>
    cases mx with
    | some _ => rfl
    | none =>
      have e1 := hx x (by simp [Op.operands])
      have e2 : lo.map (ev sl) = lo.map (ev sl') := by
        cases lo with
        | none => rfl
        | some y => simp [hx y (by simp [Op.operands])]
      have e3 : hi.map (ev sl) = hi.map (ev sl') := by
        cases hi with
        | none => rfl
        | some y => simp [hx y (by simp [Op.operands])]
      simp only [ex, e1, e2, e3]
  | call c =>
    have hc : ∀ x ∈ c.operands.toList, ev sl x = ev sl' x := hx
    have e1 : c.args.toList.map (ev sl) = c.args.toList.map (ev sl') := List.map_congr_left fun x hm => hc x (by simp [Call.operands]; first | (right; simpa using hm) | (left; simpa using hm))
    have e2 : (c.args.toList.zip c.argTypes.toList).map (fun (x, t) => evT E sl t x) = (c.args.toList.zip c.argTypes.toList).map (fun (x, t) => evT E sl' t x) :=
      List.map_congr_left fun p hm => evT_congr (hc p.1 (by simp [Call.operands]; have := (List.of_mem_zip (a := p.1) (b := p.2) hm).1; first | (right; simpa using this) | (left; simpa using this)))
    cases hk : c.callee with
    | value f =>
      have e3 : ev sl f = ev sl' f := hc f (by simp [Call.operands, hk])
      simp only [ex, hk, e2, e3]
    | builtin b => cases b <;> simp only [ex, hk, e1]
    | _ => simp only [ex, hk]
  | _ => first
    | rfl
    | (simp only [Op.operands, List.mem_cons, List.not_mem_nil, or_false, forall_eq_or_imp, forall_eq] at hx hT; simp only [ex, hx, hT])

theorem Rd.congr {α : Type} : ∀ (r : Rd α) {ob ob' : Objs}, (∀ o ∈ r.ids ob, ob' o = ob o) → r.run ob' = r.run ob ∧ r.ids ob' = r.ids ob := by
  intro r
  induction r with
  | ret a => intros; exact ⟨rfl, rfl⟩
  | fail => intros; exact ⟨rfl, rfl⟩
  | get o k ih =>
    intro ob ob' h
    have e : ob' o = ob o := h o (by simp [Rd.ids])
    have := ih (ob o) (ob := ob) (ob' := ob') fun o' ho' => h o' (by simp [Rd.ids, ho'])
    simp only [Rd.run, Rd.ids, e, this.1, this.2, and_self]

theorem guard_congr {all : List Oper} {sl sl' : Slots} {o : Oper} (h : ∀ t ∈ uses all o, sl' t = sl t) : guardOf all sl' o = guardOf all sl o := by
  unfold guardOf
  cases hg : o.guard with
  | none => rfl
  | some q =>
    obtain ⟨j, want⟩ := q
    simp only
    cases hd : (all[j]?).bind (·.dst) with
    | none => rfl
    | some d =>
      have : sl' d = sl d := h d (by unfold uses; rw [hg]; simp only; rw [hd]; simp)
      simp only [this]

def trO (E : Env) (all : List Oper) (o : Oper) (s : St) : List Nat × List Nat := match guardOf all s.sl o with
  | some true => match (ex E s.sl o).run s.ob with
    | some out => ((ex E s.sl o).ids s.ob, out.sets.map (·.1))
    | none => ([], [])
  | _ => ([], [])

theorem stepO_local {E : Env} {all : List Oper} {o : Oper} {s s1 : St} (h : stepO E all o s = some s1) : ∃ v sets, sets.map (·.1) = (trO E all o s).2 ∧ s1 = ⟨putDst s.sl o.dst v, upds s.ob sets⟩ ∧
    ∀ t : St, (∀ n ∈ uses all o, t.sl n = s.sl n) → (∀ k ∈ (trO E all o s).1, t.ob k = s.ob k) → stepO E all o t = some ⟨putDst t.sl o.dst v, upds t.ob sets⟩ ∧ trO E all o t = trO E all o s := by
  unfold stepO at h
  cases hg : guardOf all s.sl o with
  | none => simp [hg] at h
  | some b =>
    cases b with
    | false =>
      simp only [hg, Option.some.injEq] at h
      refine ⟨.tu [], [], by simp [trO, hg], h.symm, fun t ht hk => ?_⟩
      have e := guard_congr ht
      rw [hg] at e
      exact ⟨by simp [stepO, e, upds], by simp [trO, e, hg]⟩
    | true =>
      simp only [hg] at h
      cases hr : (ex E s.sl o).run s.ob with
      | none => simp [hr] at h
      | some out =>
        simp only [hr, Option.some.injEq] at h
        refine ⟨out.v, out.sets, by simp [trO, hg, hr], h.symm, fun t ht hk => ?_⟩
        have e := guard_congr ht
        rw [hg] at e
        have e2 : ex E t.sl o = ex E s.sl o := ex_congr fun n hn => ht n (by unfold uses; exact List.mem_append_left _ (List.mem_filterMap.2 ⟨_, hn, rfl⟩))
        have e3 := Rd.congr (ex E s.sl o) (ob := s.ob) (ob' := t.ob) (by simpa [trO, hg, hr] using hk)
        rw [hr] at e3
        exact ⟨by simp [stepO, e, e2, e3.1], by simp [trO, e, hg, e2, e3.1, e3.2, hr]⟩

theorem upds_other {α : Type} : ∀ (l : List (Nat × α)) (f : Nat → α) {n : Nat}, n ∉ l.map (·.1) → upds f l n = f n := by
  intro l
  induction l with
  | nil => intros; rfl
  | cons x r ih =>
    intro f n h
    obtain ⟨m, a⟩ := x
    simp only [List.map_cons, List.mem_cons, not_or] at h
    simp only [upds]
    rw [ih _ h.2]
    simp [upd, h.1]
theorem upds_in {α : Type} : ∀ (l : List (Nat × α)) {n : Nat}, n ∈ l.map (·.1) → ∃ a, ∀ f, upds f l n = a := by
  intro l
  induction l with
  | nil => intro n h; simp at h
  | cons x r ih =>
    intro n h
    obtain ⟨m, a⟩ := x
    by_cases hr : n ∈ r.map (·.1)
    · obtain ⟨a', ha⟩ := ih hr
      exact ⟨a', fun f => by simp only [upds]; exact ha _⟩
    · simp only [List.map_cons, List.mem_cons] at h
      have hm : n = m := h.resolve_right hr
      exact ⟨a, fun f => by simp only [upds]; rw [upds_other _ _ hr]; simp [upd, hm]⟩
theorem upds_comm {α : Type} (l l' : List (Nat × α)) (f : Nat → α) (h : ∀ n ∈ l.map (·.1), n ∉ l'.map (·.1)) : upds (upds f l) l' = upds (upds f l') l := by
  funext n
  by_cases hn : n ∈ l.map (·.1)
  · obtain ⟨a, ha⟩ := upds_in l hn
    rw [upds_other _ _ (h n hn), ha, ha]
  · rw [upds_other l _ hn]
    by_cases hn' : n ∈ l'.map (·.1)
    · obtain ⟨a, ha⟩ := upds_in l' hn'
      rw [ha, ha]
    · rw [upds_other l' _ hn', upds_other l' _ hn', upds_other l _ hn]
theorem putDst_comm (sl : Slots) (d d' : Option Nat) (v v' : AV) (h : ∀ n, d = some n → d' ≠ some n) : putDst (putDst sl d v) d' v' = putDst (putDst sl d' v') d v := by
  cases d with
  | none => rfl
  | some d =>
    cases d' with
    | none => rfl
    | some d' =>
      have : d' ≠ d := fun e => h d rfl (e ▸ rfl)
      funext n
      simp only [putDst, upd]
      by_cases h1 : n = d
      · subst h1; rw [if_neg (Ne.symm this)]; simp
      · simp [h1]
theorem apart_iff {a b : List Nat} (h : apart a b = true) : ∀ n ∈ a, n ∉ b := by
  intro n hn hb
  have := List.all_eq_true.1 h n hn
  simp [hb] at this
theorem putDst_other {sl : Slots} {d : Option Nat} {v : AV} {n : Nat} (h : n ∉ d.toList) : putDst sl d v n = sl n := by
  cases d with
  | none => rfl
  | some d => simp at h; simp [putDst, upd, h]

def slotsAp (l : List Oper) (a b : Oper) : Prop := apart a.dst.toList (b.dst.toList ++ uses l b) = true ∧ apart b.dst.toList (uses l a) = true
def trAp (x y : List Nat × List Nat) : Prop := apart x.2 (y.1 ++ y.2) = true ∧ apart y.2 x.1 = true

theorem swap_ops {E : Env} {all : List Oper} {a b : Oper} {s s1 s2 : St} (h1 : stepO E all a s = some s1) (h2 : stepO E all b s1 = some s2) (hs : slotsAp all a b) (ht : trAp (trO E all a s) (trO E all b s1)) :
    ∃ t1, stepO E all b s = some t1 ∧ trO E all b s = trO E all b s1 ∧ stepO E all a t1 = some s2 ∧ trO E all a t1 = trO E all a s := by
  obtain ⟨va, sa, ka, rfl, la⟩ := stepO_local h1
  obtain ⟨vb, sb, kb, rfl, lb⟩ := stepO_local h2
  have s1' := apart_iff hs.1
  have s2' := apart_iff hs.2
  have t1' := apart_iff ht.1
  have t2' := apart_iff ht.2
  obtain ⟨e1, e2⟩ := lb s (fun n hn => (putDst_other fun hd => s1' n hd (List.mem_append_right _ hn)).symm) (fun k hk => (upds_other _ _ fun hm => t1' k (ka ▸ hm) (List.mem_append_left _ hk)).symm)
  refine ⟨_, e1, e2, ?_⟩
  obtain ⟨e3, e4⟩ := la ⟨putDst s.sl b.dst vb, upds s.ob sb⟩ (fun n hn => putDst_other fun hd => s2' n hd hn) (fun k hk => upds_other _ _ fun hm => t2' k (kb ▸ hm) hk)
  refine ⟨?_, e4⟩
  rw [e3]
  congr 2
  · exact putDst_comm _ _ _ _ _ fun n hn hn' => s1' n (by simp [hn']) (List.mem_append_left _ (by simp [hn]))
  · exact upds_comm _ _ _ fun n hn hn' => t1' n (ka ▸ hn') (List.mem_append_right _ (kb ▸ hn))

inductive Chain (E : Env) (all : List Oper) : List (Nat × (List Nat × List Nat)) → St → St → Prop
  | nil (s : St) : Chain E all [] s s
  | cons {i : Nat} {o : Oper} {s s1 s2 : St} {r : List (Nat × (List Nat × List Nat))} (ho : all[i]? = some o) (hs : stepO E all o s = some s1) (h : Chain E all r s1 s2) : Chain E all ((i, trO E all o s) :: r) s s2

theorem Chain.inv {E : Env} {all : List Oper} {i : Nat} {tr : List Nat × List Nat} {r : List (Nat × (List Nat × List Nat))} {s s' : St} (h : Chain E all ((i, tr) :: r) s s') : ∃ o s1, all[i]? = some o ∧ stepO E all o s = some s1 ∧ trO E all o s = tr ∧ Chain E all r s1 s' := by
  cases h with
  | cons ho hs h => exact ⟨_, _, ho, hs, rfl, h⟩

def Free (all : List Oper) (x y : Nat × (List Nat × List Nat)) : Prop := (∀ a b, all[x.1]? = some a → all[y.1]? = some b → slotsAp all a b) ∧ trAp x.2 y.2

theorem Chain.front {E : Env} {all : List Oper} {x : Nat × (List Nat × List Nat)} {post : List (Nat × (List Nat × List Nat))} : ∀ (pre : List (Nat × (List Nat × List Nat))) {s s' : St}, Chain E all (pre ++ x :: post) s s' → (∀ y ∈ pre, Free all y x) → Chain E all (x :: (pre ++ post)) s s' := by
  intro pre
  induction pre with
  | nil => intro s s' h _; exact h
  | cons y pre ih =>
    intro s s' h hf
    obtain ⟨j, tr⟩ := y
    obtain ⟨i, tx⟩ := x
    obtain ⟨o, s1, ho, hs, e0, h1⟩ := Chain.inv h
    obtain ⟨p, s2, hp, hsp, e5, h2⟩ := Chain.inv (ih h1 fun y hy => hf y (List.mem_cons_of_mem _ hy))
    subst e0; subst e5
    have hff := hf _ (List.mem_cons_self ..)
    obtain ⟨t1, e1, e2, e3, e4⟩ := swap_ops hs hsp (hff.1 o p ho hp) hff.2
    rw [← e2, ← e4]
    exact .cons hp e1 (.cons ho e3 h2)

theorem look_run0 {α : Type} {ob : Objs} {o b g : Nat} {p : List (Nat × Nat)} {k : Ob → Nat → T → Nat → List (List T) → Rd α} {r : α} (h : (look o b g p k).run ob = some r) :
    ∃ lvl t sz rows, (ob o).c = .tree lvl t ∧ True ∧ t.at? p = some (.sl sz rows) ∧ (k (ob o) lvl t sz rows).run ob = some r := by
  simp only [look, Rd.run] at h
  cases hc : (ob o).c with
  | dead => simp [hc, Rd.run] at h
  | box c => simp [hc, Rd.run] at h
  | tree lvl t =>
    simp only [hc] at h
    split at h
    · split at h
      · rename_i sz rows hat
        exact ⟨lvl, t, sz, rows, rfl, trivial, hat, h⟩
      · simp [Rd.run] at h
    · simp [Rd.run] at h

def Rd.Pure (r : Rd Out) : Prop := r = .fail ∨ ∃ v, r = .ret ⟨v, []⟩
theorem pure_fail : Rd.Pure .fail := .inl rfl
theorem pure_val (x : AV) : Rd.Pure (val x) := .inr ⟨x, rfl⟩
theorem pure_opt (x : Option AV) : Rd.Pure (opt x) := by
  cases x with
  | none => exact .inl rfl
  | some x => exact .inr ⟨x, rfl⟩
theorem pure_bin (E : Env) (op : BinOp) (t : TypeId) (x y : AV) : Rd.Pure (exBin E op t x y) := by
  unfold exBin
  repeat' (first | exact pure_fail | exact pure_val _ | exact pure_opt _ | split)
theorem kind_str {ti : TyI} (h : (kindOf ti.cells).isSome = true) : isStr ti = false := by
  unfold kindOf at h
  unfold isStr
  split at h
  · rename_i e; rw [e]
  · cases h
theorem calm_conv {d : Nat} {ti ts : TyI} {bt bs : Bool} {x : AV} (h1 : (kindOf ti.cells).isSome = true) (h2 : (kindOf ts.cells).isSome = true) : Rd.Pure (exConv d ti ts bt bs x) := by
  unfold exConv
  simp only [kind_str h1, kind_str h2, Bool.false_eq_true, and_false, false_and, if_false]
  repeat' (first | exact pure_fail | exact pure_val _ | exact pure_opt _ | split)
theorem calm_pure {E : Env} {sl : Slots} {o : Oper} (h : calm E.ty o.op = true) : Rd.Pure (ex E sl o) := by
  obtain ⟨d, op, ty, pos, af, gd⟩ := o
  simp only at h
  cases op with
  | call c =>
    cases hc : c.callee with
    | builtin b =>
      cases b <;> first
        | (simp only [ex, hc]; (repeat' (first | exact pure_fail | exact pure_val _ | exact pure_opt _ | split)); done)
        | (generalize c.args.toList.map (ev sl) = l1; generalize c.argTypes.toList = l2; (repeat' (first | exact pure_fail | exact pure_val _ | exact pure_opt _ | split)); done)
        | (generalize c.args.toList.map (ev sl) = l1; (repeat' (first | exact pure_fail | exact pure_val _ | exact pure_opt _ | split)); done)
        | (exfalso; obtain ⟨c1, c2, c3⟩ := c; simp only at hc; subst hc; simp [calm] at h)
    | _ => exfalso; obtain ⟨c1, c2, c3⟩ := c; simp only at hc; subst hc; simp [calm] at h
  | binOp => exact pure_bin ..
  | convert s t x =>
    simp only [calm] at h
    simp only [ex]
    cases h1 : E.ty t with
    | none => rw [h1] at h; cases h
    | some ti =>
      cases h2 : E.ty s with
      | none => rw [h1, h2] at h; cases h
      | some ts =>
        rw [h1, h2] at h
        simp only [Bool.and_eq_true] at h
        exact calm_conv h.1 h.2
  | slice t x lo hi mx => cases mx <;> (simp only [ex]; repeat' (first | exact pure_fail | exact pure_val _ | exact pure_opt _ | split))
  | makeFunc f _ _ => cases f <;> (simp only [ex]; repeat' (first | exact pure_fail | exact pure_val _ | exact pure_opt _ | split))
  | _ => first
    | (simp [calm] at h; done)
    | (simp only [ex]; repeat' (first | exact pure_fail | exact pure_val _ | exact pure_opt _ | split))
theorem calm_tr {E : Env} {all : List Oper} {o : Oper} {s : St} (h : calm E.ty o.op = true) : trO E all o s = ([], []) := by
  unfold trO
  split
  · rcases calm_pure (E := E) (sl := s.sl) h with e | ⟨v, e⟩ <;> rw [e] <;> rfl
  · rfl
theorem mild_tr {E : Env} {all : List Oper} {o : Oper} {s : St} (h : mild E.ty o.op = true) : (trO E all o s).2 = [] := by
  obtain ⟨d, op, ty, pos, af, gd⟩ := o
  cases op with
  | load t x =>
    unfold trO
    split
    · split
      · rename_i out hr
        simp only [ex] at hr
        have : out.sets = [] := by
          unfold exLoad at hr
          repeat' (first | (simp only [Rd.run, reduceCtorEq] at hr; done) | (cases hr; done) | (simp only [val, Rd.run, Option.some.injEq, reduceCtorEq] at hr; first | (subst hr; rfl) | (exfalso; exact hr) | contradiction) | split at hr | simp only [Rd.run] at hr)
        simp [this]
      · rfl
    · rfl
  | convert s1 t x =>
    unfold trO
    split
    · split
      · rename_i out hr
        simp only [ex] at hr
        simp only [mild] at h
        have : out.sets = [] := by
          cases h1 : E.ty t with
          | none => rw [h1] at h; cases h
          | some ti =>
            rw [h1] at h hr
            cases h2 : E.ty s1 with
            | none => rw [h2] at hr; simp [Rd.run] at hr
            | some ts =>
              rw [h2] at hr
              simp only at h hr
              have hb : byteTy E.ty ti = false := by
                unfold byteTy
                cases he : ti.elem with
                | none => rfl
                | some e => rw [he] at h; cases h
              rw [hb] at hr
              generalize ev s.sl x = y at hr
              unfold exConv at hr
              simp only [Bool.false_eq_true, false_and, if_false] at hr
              split at hr
              · repeat' (first | (simp only [Rd.run, reduceCtorEq] at hr; done) | (simp only [val, Rd.run, Option.some.injEq, reduceCtorEq] at hr; subst hr; rfl) | split at hr)
              · simp [Rd.run] at hr
              · repeat' (first | (simp only [Rd.run, reduceCtorEq] at hr; done) | (simp only [val, Rd.run, Option.some.injEq, reduceCtorEq] at hr; subst hr; rfl) | split at hr)
              · split at hr
                · obtain ⟨_, _, _, _, _, _, _, hr2⟩ := look_run0 (k := fun _ _ _ _ _ => _) hr
                  clear hr
                  repeat' (first | (simp only [Rd.run, reduceCtorEq] at hr2; done) | (simp only [val, Rd.run, Option.some.injEq, reduceCtorEq] at hr2; subst hr2; rfl) | split at hr2)
                · simp [Rd.run] at hr
              · simp [Rd.run] at hr
        simp [this]
      · rfl
    · rfl
  | _ => simp [mild] at h

theorem testBit_getD_push {acc : Array Nat} {x n j : Nat} (h : (acc.getD n 0).testBit j = true) : ((acc.push x).getD n 0).testBit j = true := by
  by_cases hn : n < acc.size
  · have e : (acc.push x).getD n 0 = acc.getD n 0 := by
      have : n < (acc.push x).size := by simp; omega
      simp [Array.getD, hn, this, Array.getElem_push]
      omega
    rw [e]; exact h
  · simp [Array.getD, hn] at h
theorem before_step (acc : Array Nat) (af : Array Edge) (j : Nat) : (af.foldl (fun s e => if Region.binds .any e then s ||| 2 ^ e.on ||| acc.getD e.on 0 else s) 0).testBit j = true →
    ∃ e ∈ af, Region.binds .any e = true ∧ (j = e.on ∨ (acc.getD e.on 0).testBit j = true) := by
  refine Array.foldl_induction (motive := fun _ (s : Nat) => s.testBit j = true → ∃ e ∈ af, Region.binds .any e = true ∧ (j = e.on ∨ (acc.getD e.on 0).testBit j = true)) (by simp) ?_
  intro i s ih h
  by_cases hb : Region.binds .any af[i] = true
  · rw [if_pos hb, Nat.testBit_or, Nat.testBit_or] at h
    simp only [Bool.or_eq_true] at h
    rcases h with (h | h) | h
    · exact ih h
    · refine ⟨af[i], Array.getElem_mem _, hb, .inl ?_⟩
      rw [Nat.testBit_two_pow] at h
      simpa using (of_decide_eq_true h).symm
    · exact ⟨af[i], Array.getElem_mem _, hb, .inr h⟩
  · rw [if_neg hb] at h; exact ih h
theorem before_of {ops : Array Oper} {i j : Nat} (h : ordered ops j i = true) : ∃ o, ops[i]? = some o ∧ ∃ e ∈ o.after, Region.binds .any e = true ∧ (j = e.on ∨ ordered ops j e.on = true) := by
  have key : (Region.before ops).size = ops.size ∧ ∀ i, i < ops.size → ∀ j, ((Region.before ops).getD i 0).testBit j = true → ∃ o, ops[i]? = some o ∧ ∃ e ∈ o.after, Region.binds .any e = true ∧ (j = e.on ∨ ((Region.before ops).getD e.on 0).testBit j = true) := by
    unfold Region.before
    refine Array.foldl_induction (motive := fun k (acc : Array Nat) => acc.size = k ∧ ∀ i, i < k → ∀ j, (acc.getD i 0).testBit j = true → ∃ o, ops[i]? = some o ∧ ∃ e ∈ o.after, Region.binds .any e = true ∧ (j = e.on ∨ (acc.getD e.on 0).testBit j = true)) ⟨rfl, fun i hi => absurd hi (by omega)⟩ ?_
    intro k acc ih
    refine ⟨by simp [ih.1], fun i hi j hj => ?_⟩
    by_cases hk : i < k
    · have e : ∀ x, (acc.push x).getD i 0 = acc.getD i 0 := by
        intro x
        have h1 : i < acc.size := by rw [ih.1]; exact hk
        have h2 : i < (acc.push x).size := by simp; omega
        simp [Array.getD, h1, h2, Array.getElem_push]
        omega
      rw [e] at hj
      obtain ⟨o, ho, e, he, hb, hor⟩ := ih.2 i hk j hj
      exact ⟨o, ho, e, he, hb, hor.imp id testBit_getD_push⟩
    · have hik : i = k := by omega
      subst hik
      have e : ∀ x, (acc.push x).getD k 0 = x := by
        intro x
        have h2 : (k : Nat) < (acc.push x).size := by simp [ih.1]
        simp only [Array.getD, h2, dif_pos]
        have : acc.size = k := ih.1
        simp [Array.getElem_push, this]
      rw [e] at hj
      obtain ⟨e, he, hb, hor⟩ := before_step _ _ _ hj
      exact ⟨ops[k], by simp, e, he, hb, hor.imp id testBit_getD_push⟩
  have hi : i < ops.size := by
    unfold ordered at h
    by_cases hi : i < (Region.before ops).size
    · rw [← key.1]; exact hi
    · simp [Array.getD, hi] at h
  exact key.2 i hi j h

theorem Chain.of_run {E : Env} {all : List Oper} : ∀ (os : List Oper) (k : Nat) {s s' : St}, (∀ i, os[i]? = all[k + i]?) → runOps E all os s = some s' → ∃ L, Chain E all L s s' ∧ L.map (·.1) = List.range' k os.length ∧ ∀ x ∈ L, x ∈ trOps E all k os s ∨ x.2 = ([], []) := by
  intro os
  induction os with
  | nil => intro k s s' _ h; simp only [runOps, Option.some.injEq] at h; subst h; exact ⟨[], .nil _, rfl, by simp⟩
  | cons o os ih =>
    intro k s s' hk h
    rw [runOps_cons] at h
    cases hs : stepO E all o s with
    | none => simp [hs] at h
    | some s1 =>
      simp only [hs, Option.bind_some] at h
      obtain ⟨L, hc, hm, ht⟩ := ih (k + 1) (fun i => by have := hk (i + 1); simpa [Nat.add_assoc, Nat.add_comm 1 i] using this) h
      have ho : all[k]? = some o := by simpa using (hk 0).symm
      refine ⟨_, .cons ho hs hc, by simp [hm, List.range'_succ], fun x hx => ?_⟩
      unfold stepO at hs
      rcases List.mem_cons.1 hx with rfl | hx
      · cases hg : guardOf all s.sl o with
        | none => right; simp [trO, hg]
        | some b =>
          cases b with
          | false => right; simp [trO, hg]
          | true =>
            cases hr : (ex E s.sl o).run s.ob with
            | none => right; simp [trO, hg, hr]
            | some out => left; simp [trOps, trO, hg, hr]
      · refine (ht x hx).imp_left fun hx => ?_
        unfold trOps
        cases hg : guardOf all s.sl o with
        | none => simp [hg] at hs
        | some b =>
          cases b with
          | false => simp only [hg, Option.some.injEq] at hs; subst hs; exact hx
          | true =>
            simp only [hg] at hs
            cases hr : (ex E s.sl o).run s.ob with
            | none => simp [hr] at hs
            | some out => simp only [hr, Option.some.injEq] at hs; subst hs; simp only [hr]; exact List.mem_cons_of_mem _ hx
theorem Chain.mem {E : Env} {all : List Oper} {L : List (Nat × (List Nat × List Nat))} {s s' : St} (h : Chain E all L s s') : ∀ x ∈ L, ∃ o s, all[x.1]? = some o ∧ x.2 = trO E all o s := by
  induction h with
  | nil => intro x hx; simp at hx
  | cons ho hs h ih =>
    intro x hx
    rcases List.mem_cons.1 hx with rfl | hx
    · exact ⟨_, _, ho, rfl⟩
    · exact ih x hx

theorem free_of {E : Env} {ops : Array Oper} {L : List (Nat × (List Nat × List Nat))} {s s' : St} (hc : Chain E ops.toList L s s') (ht : ∀ x ∈ L, x ∈ trOps E ops.toList 0 ops.toList s ∨ x.2 = ([], [])) (hsl : slotsOk ops = true)
    (hp : unord E.ty ops = [] ∨ pairsOk (unord E.ty ops) (trOps E ops.toList 0 ops.toList s) = true) {y x : Nat × (List Nat × List Nat)} (hy : y ∈ L) (hx : x ∈ L) (hlt : y.1 < x.1) (hno : ordered ops y.1 x.1 = false) : Free ops.toList y x := by
  obtain ⟨a, sa, ha, ta⟩ := hc.mem y hy
  obtain ⟨b, sb, hb, tb⟩ := hc.mem x hx
  have hxl : x.1 < ops.toList.length := (List.getElem?_eq_some_iff.1 hb).1
  constructor
  · intro a' b' ha' hb'
    have h1 := List.all_eq_true.1 (List.all_eq_true.1 hsl x.1 (List.mem_range.2 hxl)) y.1 (List.mem_range.2 hlt)
    rw [ha', hb', hno] at h1
    simp only [Bool.false_or, Bool.and_eq_true] at h1
    exact h1
  · by_cases hm : (y.1, x.1) ∈ unord E.ty ops
    · have hp' := hp.resolve_left (fun e => by rw [e] at hm; simp at hm)
      rcases ht y hy with hy' | hy'
      · rcases ht x hx with hx' | hx'
        · have := List.all_eq_true.1 (List.all_eq_true.1 (List.all_eq_true.1 hp' _ hm) y hy') x hx'
          simp at this
          exact this
        · rw [hx']; simp [trAp, apart]
      · rw [hy']; simp [trAp, apart]
    · have hq : (calm E.ty a.op || calm E.ty b.op || (mild E.ty a.op && mild E.ty b.op)) = true := by
        cases hq : (calm E.ty a.op || calm E.ty b.op || (mild E.ty a.op && mild E.ty b.op)) with
        | true => rfl
        | false =>
          exfalso
          apply hm
          unfold unord
          simp only [List.mem_flatMap, List.mem_filterMap, List.mem_range]
          refine ⟨x.1, hxl, y.1, hlt, ?_⟩
          rw [hno, ha, hb]
          simp [hq]
      simp only [Bool.or_eq_true, Bool.and_eq_true] at hq
      rcases hq with (hq | hq) | hq
      · rw [ta, calm_tr hq]; simp [trAp, apart]
      · rw [tb, calm_tr hq]; simp [trAp, apart]
      · rw [ta, tb]; simp [trAp, apart, mild_tr hq.1, mild_tr hq.2]
end Go.Proofs.YtipfcgbhaalcdaaGreat.Abs
namespace Go.Proofs.YtipfcgbhaalcdaaGreat.Abs
open Go
set_option linter.unusedVariables false
set_option linter.unusedSimpArgs false
variable {P : Program} {E : Env} {w0 : World} {A : Fp} {ob : Objs} {w : World} {ρ : Nat → Value} {φ : Nat → Fp} {Z : Fp} {sl : Slots} {a : Act}

structure Lies (w0 : World) (A : Fp) (n : Nat) (s : St) (a : Act) (w : World) (ρ : Nat → Value) (φ : Nat → Fp) (Z : Fp) : Prop where
  inv : OInv w0 A s.ob w ρ φ Z
  sl : ∀ n, AVR w s.ob ρ (s.sl n) (a.tmps.getD n undef)
  size : n ≤ a.tmps.size
  defers : a.defers = []

theorem put_get {a : Act} {d : Nat} {v : Value} (hd : d < a.tmps.size) (n : Nat) : (a.put (some d) v).tmps.getD n undef = if n = d then v else a.tmps.getD n undef := by
  simp only [Act.put]
  by_cases h : n = d
  · subst h; simp [Array.getD, hd]
  · rw [if_neg h]
    simp only [Array.getD, Array.size_setIfInBounds]
    split
    · rename_i hlt; simp [Array.getElem_setIfInBounds, hlt, Ne.symm h]
    · rfl

theorem Lies.put {n : Nat} {s : St} {ob' : Objs} {w' : World} {ρ' : Nat → Value} {φ' : Nat → Fp} {Z' : Fp} (h : Lies w0 A n s a w ρ φ Z) (hst : Step w0 A s.ob w ρ ob' w' ρ' φ' Z') {d : Option Nat} (hd : ∀ k, d = some k → k < n) {x : AV} {v : Value} (hx : AVR w' ob' ρ' x v) :
    Lies w0 A n ⟨putDst s.sl d x, ob'⟩ (a.put d v) w' ρ' φ' Z' := by
  refine ⟨hst.inv, fun k => ?_, ?_, ?_⟩
  · cases d with
    | none => exact hst.same _ _ (h.sl k)
    | some d =>
      have hlt : d < a.tmps.size := Nat.lt_of_lt_of_le (hd d rfl) h.size
      simp only [putDst]
      rw [put_get hlt]
      by_cases hk : k = d
      · subst hk; rw [upd_same, if_pos rfl]; exact hx
      · rw [upd_ne _ _ hk, if_neg hk]; exact hst.same _ _ (h.sl k)
  · cases d <;> simp [Act.put, h.size]
  · cases d <;> simp [Act.put, h.defers]

theorem dst_lt {n : Nat} {o : Oper} (h : dstOk n o = true) : ∀ k, o.dst = some k → k < n := by
  intro k hk
  unfold dstOk at h
  rw [hk] at h
  simpa using h

theorem guard_sound {n : Nat} {s : St} (h : Lies w0 A n s a w ρ φ Z) {ops : Array Oper} {o : Oper} {b : Bool} (hg : guardOf ops.toList s.sl o = some b) : Region.wanted o (yielded ops a.tmps) = b := by
  unfold guardOf at hg
  unfold Region.wanted
  cases hgo : o.guard with
  | none => simp [hgo] at hg; rw [hg]
  | some q =>
    obtain ⟨j, want⟩ := q
    simp only [hgo] at hg
    cases hd : (ops.toList[j]?).bind (·.dst) with
    | none => rw [hd] at hg; cases hg
    | some d =>
      simp only [hd] at hg
      have h1 := h.sl d
      split at hg
      · rename_i t ht
        rw [ht] at h1
        generalize hv : a.tmps.getD d undef = v at h1
        cases h1
        simp only [Option.some.injEq] at hg
        have e : a.tmps[d]? = some (.bool t) := by
          cases he : a.tmps[d]? with
          | none => simp [he] at hv; cases hv
          | some y => simp [he] at hv; rw [hv]
        have hd' : (ops[j]?).bind (·.dst) = some d := by rw [← hd]; simp
        simp [yielded, hd', e, ← hg]
      · rename_i ht
        rw [ht] at h1
        generalize hv : a.tmps.getD d undef = v at h1
        cases h1 with | @tu _ cs hl hh =>
        simp only [Option.some.injEq] at hg
        have hd' : (ops[j]?).bind (·.dst) = some d := by rw [← hd]; simp
        cases he : a.tmps[d]? with
        | none => simp [yielded, hd', he, ← hg]
        | some y =>
          have : y = .tuple cs := by simpa [he] using hv
          simp [yielded, hd', he, this, ← hg]
      · cases hg

theorem wpOp_sound (hTs : TysOk P E) (hC : CallOk P E) {n : Nat} {s s1 : St} (h : Lies w0 A n s a w ρ φ Z) {ops : Array Oper} {Q : Go.Exit → Act → World → Prop} {i : Nat} {o : Oper} (ho : ops[i]? = some o) (hd : dstOk n o = true) (hs : stepO E ops.toList o s = some s1) {K : Act → World → Prop}
    (hK : ∀ a' w' ρ' φ' Z', Lies w0 A n s1 a' w' ρ' φ' Z' → Step w0 A s.ob w ρ s1.ob w' ρ' φ' Z' → K a' w') : wpOp P ops Q i K a w := by
  unfold wpOp
  rw [ho]
  simp only
  unfold stepO at hs
  cases hg : guardOf ops.toList s.sl o with
  | none => simp [hg] at hs
  | some b =>
    rw [guard_sound h hg]
    cases b with
    | false =>
      simp only [hg, Option.some.injEq] at hs
      simp only [Bool.false_eq_true, if_false]
      subst hs
      exact hK _ _ ρ φ Z (h.put h.inv.stay (dst_lt hd) (.tu rfl fun i a h => by simp at h)) h.inv.stay
    | true =>
      simp only [hg] at hs
      simp only [if_true]
      cases hr : (ex E s.sl o).run s.ob with
      | none => simp [hr] at hs
      | some out =>
        simp only [hr, Option.some.injEq] at hs
        subst hs
        refine .inl (ex_sound hTs hC h.inv h.sl o hr K Q fun v w' hdone => ?_)
        obtain ⟨ρ', φ', Z', hst, hv⟩ := hdone
        exact hK _ _ ρ' φ' Z' (h.put hst (dst_lt hd) hv) hst

theorem wpOps_sound (hTs : TysOk P E) (hC : CallOk P E) {n : Nat} {ops : Array Oper} {Q : Go.Exit → Act → World → Prop} : ∀ (todo : List Nat) (os : List Oper) (s s' : St) (a : Act) (w : World) (ρ : Nat → Value) (φ : Nat → Fp) (Z : Fp), (∀ k : Nat, os[k]? = (todo[k]?).bind (fun i : Nat => ops[i]?)) → todo.length = os.length → (∀ o ∈ os, dstOk n o = true) →
    runOps E ops.toList os s = some s' → Lies w0 A n s a w ρ φ Z → (∀ a' w' ρ' φ' Z', Lies w0 A n s' a' w' ρ' φ' Z' → Step w0 A s.ob w ρ s'.ob w' ρ' φ' Z' → Q .normal a' w') → wpOps P ops Q todo a w := by
  intro todo
  induction todo with
  | nil =>
    intro os s s' a w ρ φ Z hos hl hd hr h hQ
    obtain rfl : os = [] := List.length_eq_zero_iff.1 hl.symm
    simp only [runOps, Option.some.injEq] at hr
    subst hr
    exact hQ a w ρ φ Z h h.inv.stay
  | cons i todo ih =>
    intro os s s' a w ρ φ Z hos hl hd hr h hQ
    cases os with
    | nil => simp at hl
    | cons o os =>
      have ho : ops[i]? = some o := by simpa using (hos 0).symm
      rw [runOps_cons] at hr
      cases hs : stepO E ops.toList o s with
      | none => simp [hs] at hr
      | some s1 =>
        simp only [hs, Option.bind_some] at hr
        rw [wpOps_cons]
        refine wpOp_sound hTs hC h ho (hd o (List.mem_cons_self ..)) hs fun a1 w1 ρ1 φ1 Z1 h1 st1 => ?_
        exact ih os s1 s' a1 w1 ρ1 φ1 Z1 (fun k => by simpa using hos (k + 1)) (by simpa using hl) (fun o ho => hd o (List.mem_cons_of_mem _ ho)) hr h1 fun a' w' ρ' φ' Z' h' st' => hQ a' w' ρ' φ' Z' h' (st1.trans st')

theorem region_sound (hTs : TysOk P E) (hC : CallOk P E) {n id : Nat} {ops : Array Oper} {s s' : St} (hd : ops.toList.all (dstOk n) = true) (hr : runOps E ops.toList ops.toList s = some s') (h : Lies w0 A n s a w ρ φ Z) {Q : Go.Exit → Act → World → Prop}
    (hQ : ∀ a' w' ρ' φ' Z', Lies w0 A n s' a' w' ρ' φ' Z' → Step w0 A s.ob w ρ s'.ob w' ρ' φ' Z' → Q .normal a' w') : (Code.region id ops false).wp P Q a w := by
  refine wp_region (wpOps_sound hTs hC (List.range ops.size) ops.toList s s' a w ρ φ Z (fun k => ?_) (by simp) (fun o ho => List.all_eq_true.1 hd o ho) hr h hQ)
  by_cases hk : k < ops.size
  · rw [List.getElem?_range hk]; simp
  · rw [List.getElem?_eq_none (by simpa using hk), List.getElem?_eq_none (by simpa using hk)]; rfl

theorem setIB_getD {l : Array Bool} {i k : Nat} (hi : i < l.size) (d : Bool) : (l.setIfInBounds i true).getD k d = if k = i then true else l.getD k d := by
  by_cases h : k = i
  · subst h; simp [Array.getD, hi]
  · rw [if_neg h]
    simp only [Array.getD, Array.size_setIfInBounds]
    split
    · rename_i hk; simp [Array.getElem_setIfInBounds, hk, Ne.symm h]
    · rfl

def Orderly (md : Region.Mode) (ops : Array Oper) : Prop := ∃ π : List Nat, (∀ i, i < ops.size → i ∈ π) ∧ ∀ pre i post, π = pre ++ i :: post → ∀ o, ops[i]? = some o → ∀ e ∈ o.after, Region.binds md e = true → e.on ∈ pre
theorem first_of {l : List Nat} {p : Nat → Bool} (h : ∃ i ∈ l, p i = false) : ∃ pre i post, l = pre ++ i :: post ∧ p i = false ∧ ∀ j ∈ pre, p j = true := by
  induction l with
  | nil => obtain ⟨i, hi, _⟩ := h; simp at hi
  | cons a l ih =>
    cases ha : p a with
    | false => exact ⟨[], a, l, rfl, ha, by simp⟩
    | true =>
      obtain ⟨i, hi, hp⟩ := h
      have : ∃ i ∈ l, p i = false := by
        rcases List.mem_cons.1 hi with rfl | hi
        · rw [ha] at hp; cases hp
        · exact ⟨i, hi, hp⟩
      obtain ⟨pre, j, post, rfl, h1, h2⟩ := ih this
      exact ⟨a :: pre, j, post, rfl, h1, fun k hk => (List.mem_cons.1 hk).elim (fun e => e ▸ ha) (h2 k)⟩
theorem binds_any {md : Region.Mode} {e : Edge} (h : Region.binds .any e = true) : Region.binds md e = true := by
  unfold Region.binds at *
  split at h
  · exact absurd h (by decide)
  · exact absurd h (by decide)
  · rfl
theorem wpAny_lies (hTs : TysOk P E) (hC : CallOk P E) {n : Nat} {ops : Array Oper} {md : Region.Mode} {Q : Go.Exit → Act → World → Prop} (he : edgesOk ops = true) (hord : Orderly md ops) (hd : ops.toList.all (dstOk n) = true) {s' : St} :
    ∀ (fuel : Nat) (L : List (Nat × (List Nat × List Nat))) (listed : Array Bool) (s : St) (a : Act) (w : World) (ρ : Nat → Value) (φ : Nat → Fp) (Z : Fp), fuel = L.length → listed.size = ops.size →
      (∀ i, (∃ x ∈ L, x.1 = i) ↔ (i < ops.size ∧ listed.getD i true = false)) → L.Pairwise (fun x y => x.1 < y.1) → (∀ i j, i < ops.size → listed.getD i true = true → ordered ops j i = true → listed.getD j true = true) →
      Chain E ops.toList L s s' → (∀ y ∈ L, ∀ x ∈ L, y.1 < x.1 → ordered ops y.1 x.1 = false → Free ops.toList y x) → Lies w0 A n s a w ρ φ Z →
      (∀ a' w' ρ' φ' Z', Lies w0 A n s' a' w' ρ' φ' Z' → Step w0 A s.ob w ρ s'.ob w' ρ' φ' Z' → Q .normal a' w') → wpAny P md ops Q fuel listed a w := by
  intro fuel
  have hfd : ∀ (l : Array Bool) k, l.size = ops.size → k < ops.size → l.getD k false = l.getD k true := by
    intro l k h1 h2
    simp [Array.getD, h1, h2]
  have hedge : ∀ (i : Nat) (o : Oper), ops[i]? = some o → ∀ e ∈ o.after, (match e.ground with | .gcOnly _ => decide (e.on < ops.size) | _ => decide (e.on < i)) = true := by
    intro i o ho e hm
    have := List.all_eq_true.1 he i (List.mem_range.2 (Array.getElem?_eq_some_iff.1 ho).1)
    rw [ho] at this
    simp only at this
    rw [← Array.all_toList] at this
    exact List.all_eq_true.1 this e (by simpa using hm)
  have hsize : ∀ (i : Nat) (o : Oper), ops[i]? = some o → ∀ e ∈ o.after, e.on < ops.size := by
    intro i o ho e hm
    have h1 := hedge i o ho e hm
    have h2 := (Array.getElem?_eq_some_iff.1 ho).1
    split at h1
    · simpa using h1
    · have : e.on < i := by simpa using h1
      omega
  have hon : ∀ (i : Nat) (o : Oper), ops[i]? = some o → ∀ e ∈ o.after, Region.binds .any e = true → e.on < i := by
    intro i o ho e hm hb
    have h1 := hedge i o ho e hm
    unfold Region.binds at hb
    split at hb
    · exact absurd hb (by decide)
    · exact absurd hb (by decide)
    · split at h1
      · simp_all
      · simpa using h1
  have hready : ∀ (l : Array Bool) i, l.size = ops.size → (i ∈ Region.ready md ops l ↔ i < ops.size ∧ l.getD i true = false ∧ ∀ o, ops[i]? = some o → ∀ e ∈ o.after, Region.binds md e = true → l.getD e.on true = true) := by
    intro l i hl
    unfold Region.ready
    rw [List.mem_filter, List.mem_range]
    constructor
    · rintro ⟨hi, h⟩
      simp only [Bool.and_eq_true, Bool.not_eq_true'] at h
      refine ⟨hi, h.1, fun o ho e hm hb => ?_⟩
      have h2 := h.2
      rw [ho] at h2
      simp only [Option.map_some, Option.getD_some] at h2
      rw [← Array.all_toList] at h2
      have := List.all_eq_true.1 h2 e (by simpa using hm)
      rw [hb] at this
      simp only [Bool.not_true, Bool.false_or] at this
      rw [← hfd l e.on hl (hsize i o ho e hm)]
      exact this
    · rintro ⟨hi, h1, h2⟩
      refine ⟨hi, ?_⟩
      have ho : ops[i]? = some ops[i] := by simp [hi]
      rw [h1, ho]
      simp only [Bool.not_false, Bool.true_and, Option.map_some, Option.getD_some]
      rw [← Array.all_toList]
      refine List.all_eq_true.2 fun e hm => ?_
      have hm' : e ∈ ops[i].after := by simpa using hm
      cases hb : Region.binds md e with
      | false => simp
      | true =>
        rw [hfd l e.on hl (hsize i _ ho e hm'), h2 _ ho e hm' hb]
        simp
  induction fuel with
  | zero =>
    intro L listed s a w ρ φ Z hlen hsz hmem hpw hdown hch hfree hl hQ
    obtain rfl : L = [] := List.length_eq_zero_iff.1 hlen.symm
    cases hch
    refine ⟨?_, hQ a w ρ φ Z hl hl.inv.stay⟩
    refine List.eq_nil_iff_forall_not_mem.2 fun i hi => ?_
    obtain ⟨h1, h2, _⟩ := (hready listed i hsz).1 hi
    obtain ⟨x, hx, _⟩ := (hmem i).2 ⟨h1, h2⟩
    simp at hx
  | succ fuel ih =>
    intro L listed s a w ρ φ Z hlen hsz hmem hpw hdown hch hfree hl hQ
    refine ⟨fun hnil => ?_, fun i hi => ?_⟩
    · exfalso
      cases L with
      | nil => simp at hlen
      | cons x r =>
        obtain ⟨h1, h2⟩ := (hmem x.1).1 ⟨x, List.mem_cons_self .., rfl⟩
        obtain ⟨π, hall, hπ⟩ := hord
        obtain ⟨pre, i, post, he2, hi1, hi2⟩ := first_of (l := π) (p := fun i => listed.getD i true) ⟨x.1, hall _ h1, h2⟩
        have hi3 : i < ops.size := by
          refine Decidable.byContradiction fun hge => ?_
          have : listed.getD i true = true := by
            simp only [Array.getD]
            rw [dif_neg (by omega)]
          rw [this] at hi1; cases hi1
        have : i ∈ Region.ready md ops listed := (hready listed i hsz).2 ⟨hi3, hi1, fun o ho e hm hb => hi2 _ (hπ pre i post he2 o ho e hm hb)⟩
        rw [hnil] at this
        simp at this
    · obtain ⟨h1, h2, h3⟩ := (hready listed i hsz).1 hi
      obtain ⟨x, hx, rfl⟩ := (hmem i).2 ⟨h1, h2⟩
      obtain ⟨pre, post, rfl⟩ := List.append_of_mem hx
      have hback : ∀ j, ordered ops j x.1 = true → listed.getD j true = true := by
        intro j hj
        obtain ⟨o, ho, e, hm, hb, hor⟩ := before_of hj
        have h4 := h3 o ho e hm (binds_any hb)
        rcases hor with rfl | hor
        · exact h4
        · exact hdown e.on j (Nat.lt_trans (hon _ o ho e hm hb) h1) h4 hor
      have hpw' := List.pairwise_append.1 hpw
      have hch' := hch.front pre fun y hy => by
        refine hfree y (by simp [hy]) x hx (hpw'.2.2 y hy x (by simp)) ?_
        cases hq : ordered ops y.1 x.1 with
        | false => rfl
        | true =>
          exfalso
          have := hback _ hq
          have h5 := (hmem y.1).1 ⟨y, by simp [hy], rfl⟩
          rw [h5.2] at this
          cases this
      obtain ⟨xi, xt⟩ := x
      obtain ⟨o, s1, ho, hs, e0, hch2⟩ := hch'.inv
      have ho' : ops[xi]? = some o := by simpa using ho
      refine wpOp_sound hTs hC hl ho' (List.all_eq_true.1 hd o (by
        have := List.mem_of_getElem? ho
        exact this)) hs fun a1 w1 ρ1 φ1 Z1 hl1 st1 => ?_
      have hset := fun k => setIB_getD (k := k) (hsz ▸ h1 : xi < listed.size) true
      refine ih (pre ++ post) (listed.setIfInBounds xi true) s1 a1 w1 ρ1 φ1 Z1 (by simp at hlen ⊢; omega) (by simpa using hsz) (fun k => ?_) ?_ (fun i j hi hli hor => ?_) hch2 (fun y hy z hz => hfree y (by simp at hy ⊢; rcases hy with hy | hy <;> simp [hy]) z (by simp at hz ⊢; rcases hz with hz | hz <;> simp [hz])) hl1 fun a' w' ρ' φ' Z' h' st' => hQ a' w' ρ' φ' Z' h' (st1.trans st')
      · rw [hset]
        constructor
        · rintro ⟨y, hy, rfl⟩
          have h5 := (hmem y.1).1 ⟨y, by simp at hy ⊢; rcases hy with hy | hy <;> simp [hy], rfl⟩
          have hne : y.1 ≠ xi := by
            rcases List.mem_append.1 hy with hy | hy
            · have := hpw'.2.2 y hy (xi, xt) (by simp); simp at this; omega
            · have := (List.pairwise_cons.1 hpw'.2.1).1 y hy; simp at this; omega
          rw [if_neg hne]
          exact h5
        · rintro ⟨h5, h6⟩
          by_cases hk : k = xi
          · rw [if_pos hk] at h6; cases h6
          · rw [if_neg hk] at h6
            obtain ⟨y, hy, rfl⟩ := (hmem k).2 ⟨h5, h6⟩
            refine ⟨y, ?_, rfl⟩
            simp at hy ⊢
            rcases hy with hy | rfl | hy
            · exact .inl hy
            · exact (hk rfl).elim
            · exact .inr hy
      · exact List.Pairwise.sublist (by simp) hpw
      · rw [hset] at hli ⊢
        split
        · rfl
        · by_cases hk : i = xi
          · subst hk; exact hback j hor
          · rw [if_neg hk] at hli; exact hdown i j hi hli hor

theorem orderly_text {md : Region.Mode} {ops : Array Oper} (hmd : md ≠ .gc) (he : edgesOk ops = true) : Orderly md ops := by
  refine ⟨List.range ops.size, fun i hi => List.mem_range.2 hi, fun pre i post h o ho e hm hb => ?_⟩
  have h1 := List.all_eq_true.1 he i (List.mem_range.2 (Array.getElem?_eq_some_iff.1 ho).1)
  rw [ho] at h1
  simp only at h1
  rw [← Array.all_toList] at h1
  have h1 := List.all_eq_true.1 h1 e (by simpa using hm)
  have hlt : e.on < i := by
    split at h1
    · rename_i hg
      unfold Region.binds at hb
      rw [hg] at hb
      cases md <;> first | exact absurd rfl hmd | cases hb
    · simpa using h1
  have hpre : pre.length = i := by
    have h2 : (List.range ops.size)[pre.length]? = some i := by rw [h]; simp
    have h3 := List.getElem?_eq_some_iff.1 h2
    obtain ⟨h4, h5⟩ := h3
    simpa using h5
  have h6 : (List.range ops.size)[e.on]? = pre[e.on]? := by rw [h, List.getElem?_append_left (by omega)]
  have h7 : e.on < ops.size := Nat.lt_trans hlt (Array.getElem?_eq_some_iff.1 ho).1
  rw [List.getElem?_range h7] at h6
  exact List.mem_of_getElem? h6.symm
theorem orderOk_ok {md : Region.Mode} {ops : Array Oper} : ∀ (todo l : List Nat), orderOk md ops l todo = true → (∀ i, i < ops.size → i ∈ l ∨ i ∈ todo) ∧ ∀ pre i post, todo = pre ++ i :: post → ∀ o, ops[i]? = some o → ∀ e ∈ o.after, Region.binds md e = true → e.on ∈ pre ∨ e.on ∈ l := by
  intro todo
  induction todo with
  | nil =>
    intro l h
    refine ⟨fun i hi => .inl ?_, fun pre i post h => by simp at h⟩
    simp only [orderOk, List.all_eq_true] at h
    simpa using h i (List.mem_range.2 hi)
  | cons a todo ih =>
    intro l h
    simp only [orderOk, Bool.and_eq_true] at h
    obtain ⟨h1, h2⟩ := h
    obtain ⟨h3, h4⟩ := ih _ h2
    refine ⟨fun i hi => ?_, fun pre i post he o ho e hm hb => ?_⟩
    · rcases h3 i hi with h | h
      · rcases List.mem_cons.1 h with rfl | h
        · exact .inr List.mem_cons_self
        · exact .inl h
      · exact .inr (List.mem_cons_of_mem _ h)
    · cases pre with
      | nil =>
        simp only [List.nil_append, List.cons.injEq] at he
        obtain ⟨rfl, rfl⟩ := he
        rw [ho] at h1
        simp only at h1
        rw [← Array.all_toList] at h1
        have := List.all_eq_true.1 h1 e (by simpa using hm)
        rw [hb] at this
        right
        simpa using this
      | cons b pre =>
        simp only [List.cons_append, List.cons.injEq] at he
        obtain ⟨rfl, he⟩ := he
        rcases h4 pre i post he o ho e hm hb with h | h
        · exact .inl (List.mem_cons_of_mem _ h)
        · rcases List.mem_cons.1 h with h | h
          · exact .inl (by rw [h]; exact List.mem_cons_self)
          · exact .inr h
theorem orderly_gc {ops : Array Oper} (h : orderOk .gc ops [] (Region.linearise .gc ops 0) = true) : Orderly .gc ops := by
  obtain ⟨h1, h2⟩ := orderOk_ok _ _ h
  exact ⟨_, fun i hi => by simpa using h1 i hi, fun pre i post he o ho e hm hb => by simpa using h2 pre i post he o ho e hm hb⟩

theorem draw_sound (hTs : TysOk P E) (hC : CallOk P E) {n id : Nat} {ops : Array Oper} {s s' : St} (hd : ops.toList.all (dstOk n) = true) (hsl : slotsOk ops = true) (hgc : gcOk ops = true) (he : edgesOk ops = true)
    (hp : unord E.ty ops = [] ∨ pairsOk (unord E.ty ops) (trOps E ops.toList 0 ops.toList s) = true) (hr : runOps E ops.toList ops.toList s = some s') (h : Lies w0 A n s a w ρ φ Z) {Q : Go.Exit → Act → World → Prop}
    (hQ : ∀ a' w' ρ' φ' Z', Lies w0 A n s' a' w' ρ' φ' Z' → Step w0 A s.ob w ρ s'.ob w' ρ' φ' Z' → Q .normal a' w') : (Code.region id ops true).wp P Q a w := by
  refine wp_region_draw fun t => ?_
  obtain ⟨md, t', hsch, hord⟩ : ∃ md t', Region.schedule (P.follows .mixedOrders) ops t = Region.linearise md ops t' ∧ Orderly md ops := by
    unfold Region.schedule
    split
    · exact ⟨_, _, rfl, orderly_text (by decide) he⟩
    · rename_i hm
      split
      · exact ⟨_, _, rfl, orderly_text (by decide) he⟩
      · refine ⟨_, _, rfl, orderly_gc ?_⟩
        unfold gcOk at hgc
        simp only [Bool.or_eq_true, Bool.not_eq_true'] at hgc hm
        rcases hgc with hgc | hgc
        · exact absurd (.inr hgc) hm
        · exact hgc
  rw [hsch]
  obtain ⟨L, hch, hm, ht⟩ := Chain.of_run ops.toList 0 (fun i => by simp) hr
  have st : Step w0 A s.ob w ρ s.ob { w with drawn := w.drawn + 1 } ρ φ Z := h.inv.world ⟨rfl, rfl, rfl, Nat.le_refl _, fun _ _ _ => rfl⟩
  refine wpAny_sound ops.size t' _ a _ (wpAny_lies hTs hC he hord hd ops.size L (Array.replicate ops.size false) s a _ ρ φ Z ?_ (by simp) (fun i => ?_) ?_ (fun i j hi hli => ?_) hch (fun y hy x hx hlt hno => free_of hch ht hsl hp hy hx hlt hno) ⟨st.inv, fun k => st.same _ _ (h.sl k), h.size, h.defers⟩ fun a' w' ρ' φ' Z' h' st' => hQ a' w' ρ' φ' Z' h' (st.trans st'))
  · have := congrArg List.length hm; simpa using this.symm
  · have e : (∃ x ∈ L, x.1 = i) ↔ i ∈ L.map (·.1) := by simp [List.mem_map]
    rw [e, hm]
    simp [List.mem_range', Array.getD]
  · have : (L.map (·.1)).Pairwise (· < ·) := by rw [hm]; exact List.pairwise_lt_range'
    exact List.pairwise_map.1 this
  · simp [Array.getD, hi] at hli
end Go.Proofs.YtipfcgbhaalcdaaGreat.Abs
namespace Go.Proofs.YtipfcgbhaalcdaaGreat.Abs
open Go
set_option linter.unusedVariables false
set_option linter.unusedSimpArgs false
variable {P : Program} {E : Env} {w0 : World} {A : Fp} {ob : Objs} {w : World} {ρ : Nat → Value} {φ : Nat → Fp} {Z : Fp} {sl : Slots} {a : Act}

def Rounds (P : Program) (c : Code) (Q : Go.Exit → Act → World → Prop) : Nat → Act → World → Prop
  | 0, _, _ => False
  | n + 1, a, w => c.wp P (Exit.then (Rounds P c Q n) Q) a w
theorem wp_rounds {c : Code} {Q : Go.Exit → Act → World → Prop} {n : Nat} (h : Rounds P c Q n a w) : (Code.loop c).wp P Q a w := by
  intro b k cs
  have key : ∀ n a w, Rounds P c Q n a w → ∃ e a' w', Q e a' w' ∧ Arrives P (lone (b.at a (.code c :: .inLoop c :: k)) cs w) b k cs e a' w' := by
    intro n
    induction n with
    | zero => intro a w h; exact h.elim
    | succ n ih =>
      intro a w h
      obtain ⟨e, a1, w1, hq, ha⟩ := h b (.inLoop c :: k) cs
      cases e with
      | normal =>
        obtain ⟨e2, a2, w2, hq2, ha2⟩ := ih a1 w1 hq
        exact ⟨e2, a2, w2, hq2, .of_steps (Steps.trans ha (.one step_inLoop)) ha2⟩
      | exit id => exact ⟨_, a1, w1, hq, .pass (x := .inLoop c) rfl (fun _ _ => .inl (by simp)) ha⟩
      | goto l => exact ⟨_, a1, w1, hq, .pass (x := .inLoop c) rfl (fun _ _ => .inl (by simp)) ha⟩
      | ret => exact ⟨_, a1, w1, hq, .pass (x := .inLoop c) rfl (fun _ _ => .inl (by simp)) ha⟩
      | panic ch => exact ⟨_, a1, w1, hq, .pass (x := .inLoop c) rfl (fun _ _ => .inl (by simp)) ha⟩
      | outgrown => exact ⟨_, a1, w1, hq, .pass (x := .inLoop c) rfl (fun _ _ => .inl (by simp)) ha⟩
  obtain ⟨e, a', w', hq, ha⟩ := key n a w h
  exact ⟨e, a', w', hq, .of_steps (.one step_loop) ha⟩

def outOf : Exit → Go.Exit
  | .normal => .normal
  | .exit id => .exit id
  | .ret => .ret

def Ends (w0 : World) (A : Fp) (n : Nat) (s : St) (w : World) (ρ : Nat → Value) (x : Exit) (s' : St) (Q : Go.Exit → Act → World → Prop) : Prop :=
  ∀ a' w' ρ' φ' Z', Lies w0 A n s' a' w' ρ' φ' Z' → Step w0 A s.ob w ρ s'.ob w' ρ' φ' Z' → Q (outOf x) a' w'

theorem run_sound (hTs : TysOk P E) (hC : CallOk P E) {n m : Nat} : ∀ (c : Code), codeOk n c = true → ∀ {s s' : St} {x : Exit} {a : Act} {w : World} {ρ : Nat → Value} {φ : Nat → Fp} {Z : Fp}, run E m c s = some (x, s') → Lies w0 A n s a w ρ φ Z →
    ∀ {Q : Go.Exit → Act → World → Prop}, Ends w0 A n s w ρ x s' Q → c.wp P Q a w := by
  intro c
  induction c with
  | skip =>
    intro _ s s' x a w ρ φ Z hr hl Q hQ
    simp only [run, Option.some.injEq, Prod.mk.injEq] at hr
    obtain ⟨rfl, rfl⟩ := hr
    exact wp_skip (hQ _ _ _ _ _ hl hl.inv.stay)
  | exit id =>
    intro _ s s' x a w ρ φ Z hr hl Q hQ
    simp only [run, Option.some.injEq, Prod.mk.injEq] at hr
    obtain ⟨rfl, rfl⟩ := hr
    exact wp_exit (hQ _ _ _ _ _ hl hl.inv.stay)
  | ret =>
    intro _ s s' x a w ρ φ Z hr hl Q hQ
    simp only [run, Option.some.injEq, Prod.mk.injEq] at hr
    obtain ⟨rfl, rfl⟩ := hr
    exact wp_ret (hQ _ _ _ _ _ hl hl.inv.stay)
  | region id ops draw =>
    intro hok s s' x a w ρ φ Z hr hl Q hQ
    simp only [codeOk, Bool.and_eq_true, Bool.or_eq_true, Bool.not_eq_true'] at hok
    cases draw with
    | false =>
      simp only [run] at hr
      cases h1 : runOps E ops.toList ops.toList s with
      | none => simp [h1] at hr
      | some s1 =>
        simp only [h1, Option.map_some, Option.some.injEq, Prod.mk.injEq] at hr
        obtain ⟨rfl, rfl⟩ := hr
        exact region_sound hTs hC hok.1 h1 hl hQ
    | true =>
      simp only [run] at hr
      split at hr
      · rename_i hp
        cases h1 : runOps E ops.toList ops.toList s with
        | none => simp [h1] at hr
        | some s1 =>
          simp only [h1, Option.map_some, Option.some.injEq, Prod.mk.injEq] at hr
          obtain ⟨rfl, rfl⟩ := hr
          have h2 := hok.2.resolve_left (by simp)
          exact draw_sound hTs hC hok.1 h2.1 h2.2.1 h2.2.2 hp h1 hl hQ
      · cases hr
  | seq p q ihp ihq =>
    intro hok s s' x a w ρ φ Z hr hl Q hQ
    simp only [codeOk, Bool.and_eq_true] at hok
    simp only [run] at hr
    refine wp_seq ?_
    cases h1 : run E m p s with
    | none => simp [h1] at hr
    | some r =>
      obtain ⟨y, s1⟩ := r
      cases y with
      | normal =>
        simp only [h1] at hr
        refine ihp hok.1 h1 hl fun a1 w1 ρ1 φ1 Z1 hl1 st1 => ?_
        exact ihq hok.2 hr hl1 fun a2 w2 ρ2 φ2 Z2 hl2 st2 => hQ _ _ _ _ _ hl2 (st1.trans st2)
      | exit id =>
        simp only [h1, Option.some.injEq, Prod.mk.injEq] at hr
        obtain ⟨rfl, rfl⟩ := hr
        exact ihp hok.1 h1 hl hQ
      | ret =>
        simp only [h1, Option.some.injEq, Prod.mk.injEq] at hr
        obtain ⟨rfl, rfl⟩ := hr
        exact ihp hok.1 h1 hl hQ
  | cond o p q ihp ihq =>
    intro hok s s' x a w ρ φ Z hr hl Q hQ
    simp only [codeOk, Bool.and_eq_true] at hok
    simp only [run] at hr
    split at hr
    · rename_i t ht
      have h1 := ev_sound (a := a) hl.sl o
      rw [ht] at h1
      generalize hv : a.eval o = v at h1
      cases h1
      cases t with
      | true =>
        rw [if_pos rfl] at hr
        exact wp_cond_true hv (ihp hok.1 hr hl hQ)
      | false =>
        rw [if_neg (by simp)] at hr
        exact wp_cond_false hv (ihq hok.2 hr hl hQ)
    · cases hr
  | block id p ih =>
    intro hok s s' x a w ρ φ Z hr hl Q hQ
    simp only [codeOk] at hok
    simp only [run] at hr
    refine wp_block ?_
    cases h1 : run E m p s with
    | none => simp [h1] at hr
    | some r =>
      obtain ⟨y, s1⟩ := r
      cases y with
      | exit id' =>
        simp only [h1] at hr
        by_cases hid : id' = id
        · rw [if_pos hid] at hr
          simp only [Option.some.injEq, Prod.mk.injEq] at hr
          obtain ⟨rfl, rfl⟩ := hr
          refine ih hok h1 hl fun a1 w1 ρ1 φ1 Z1 hl1 st1 => ?_
          simp only [outOf, Exit.inBlock, if_pos hid]
          exact hQ _ _ _ _ _ hl1 st1
        · rw [if_neg hid] at hr
          simp only [Option.some.injEq, Prod.mk.injEq] at hr
          obtain ⟨rfl, rfl⟩ := hr
          refine ih hok h1 hl fun a1 w1 ρ1 φ1 Z1 hl1 st1 => ?_
          simp only [outOf, Exit.inBlock, if_neg hid]
          exact hQ _ _ _ _ _ hl1 st1
      | normal =>
        simp only [h1, Option.some.injEq, Prod.mk.injEq] at hr
        obtain ⟨rfl, rfl⟩ := hr
        exact ih hok h1 hl hQ
      | ret =>
        simp only [h1, Option.some.injEq, Prod.mk.injEq] at hr
        obtain ⟨rfl, rfl⟩ := hr
        exact ih hok h1 hl hQ
  | loop p ih =>
    intro hok s s' x a w ρ φ Z hr hl Q hQ
    simp only [codeOk] at hok
    simp only [run] at hr
    suffices h : ∀ (k : Nat) {s : St} {a : Act} {w : World} {ρ : Nat → Value} {φ : Nat → Fp} {Z : Fp}, loopN (run E m p) k s = some (x, s') → Lies w0 A n s a w ρ φ Z → Ends w0 A n s w ρ x s' Q → Rounds P p Q k a w from wp_rounds (h m hr hl hQ)
    intro k
    induction k with
    | zero => intro s a w ρ φ Z hr; simp [loopN] at hr
    | succ k ihk =>
      intro s a w ρ φ Z hr hl hQ
      simp only [loopN] at hr
      simp only [Rounds]
      cases h1 : run E m p s with
      | none => simp [h1] at hr
      | some r =>
        obtain ⟨y, s1⟩ := r
        cases y with
        | normal =>
          simp only [h1] at hr
          refine ih hok h1 hl fun a1 w1 ρ1 φ1 Z1 hl1 st1 => ?_
          exact ihk hr hl1 fun a2 w2 ρ2 φ2 Z2 hl2 st2 => hQ _ _ _ _ _ hl2 (st1.trans st2)
        | exit id =>
          simp only [h1, Option.some.injEq, Prod.mk.injEq] at hr
          obtain ⟨rfl, rfl⟩ := hr
          exact ih hok h1 hl hQ
        | ret =>
          simp only [h1, Option.some.injEq, Prod.mk.injEq] at hr
          obtain ⟨rfl, rfl⟩ := hr
          exact ih hok h1 hl hQ
  | _ => intro _ s s' x a w ρ φ Z hr; simp [run] at hr
end Go.Proofs.YtipfcgbhaalcdaaGreat.Abs
