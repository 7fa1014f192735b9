/- FnExactPack returns true for every input, and leaves its arguments as they read. Conditions: none beside the row's own. -/
import Derived.ChangeSame
import Derived.SizedLaws
import Derived.DataReads
import Derived.Carry
import Derived.WideShapes
import Derived.KernelRfl
import Derived.Test.YtipfcgbhaalcdaaGreatRows
import Derived.WalkKit
import Derived.ProofKit
import Derived.OpenShut
import Derived.ShutString
import Derived.ChangeOld
import Derived.Below
import Derived.Test.YtipfcgbhaalcdaaGreatPF5
namespace Go.Proofs.YtipfcgbhaalcdaaGreat.Abs
open Go Go.Proofs
set_option linter.unusedVariables false
set_option linter.unusedSimpArgs false
attribute [local irreducible] callE
def askedOf (x : Ins) (peer : Int) : Int := if x.n = 9 then peer else x.n
def srcIs (n : Nat) (W : List (List Item)) (p : Nat) (q : Int) : Int × Int :=
  if 0 ≤ q ∧ q ≤ (n : Int) - 1 then (if (rd W (q.toNat * n + p)).length = 0 then (0, 3) else if (rd (rd W (q.toNat * n + p)) 0).mark = true then (0, 5) else (q, 0)) else (0, 2)
def wantsOf (P : List (List Ins)) (S : List State) (p : Nat) : Event := next (rd P p) (rd S p)
def insAt (P : List (List Ins)) (S : List State) (p : Nat) : Ins := rd (rd P p) (rd S p).at_.toNat
def comingIs (P : List (List Ins)) (S : List State) (W : List (List Item)) (H : List (List Event)) (p peer : Int) : Event × Int :=
  if 0 ≤ p ∧ p ≤ (P.length : Int) - 1 then
    (if (rd S p.toNat).code = 0 then
      (if (200 : Int) ≤ ((rd H p.toNat).length : Int) then (⟨0, 0, 0⟩, 4) else
        if (wantsOf P S p.toNat).kind = 2 then (if (12 : Int) ≤ ((rd W (p.toNat * P.length + (wantsOf P S p.toNat).peer.toNat)).length : Int) then (⟨0, 0, 0⟩, 4) else (wantsOf P S p.toNat, 0))
        else if (wantsOf P S p.toNat).kind = 3 then
          (if (srcIs P.length W p.toNat (askedOf (insAt P S p.toNat) peer)).2 = 0 then (⟨3, askedOf (insAt P S p.toNat) peer, (rd (rd W ((askedOf (insAt P S p.toNat) peer).toNat * P.length + p.toNat)) 0).v⟩, 0) else (⟨0, 0, 0⟩, (srcIs P.length W p.toNat (askedOf (insAt P S p.toNat) peer)).2))
        else (wantsOf P S p.toNat, 0))
    else (⟨0, 0, 0⟩, 6))
  else (⟨0, 0, 0⟩, 2)
def stepW (n : Nat) (W : List (List Item)) (p : Nat) (e : Event) : List (List Item) :=
  if e.kind = 2 then W.set (p * n + e.peer.toNat) (rd W (p * n + e.peer.toNat) ++ [⟨false, e.v⟩]) else if e.kind = 3 then W.set (e.peer.toNat * n + p) ((rd W (e.peer.toNat * n + p)).drop 1) else W
def stepS (P : List (List Ins)) (S : List State) (W : List (List Item)) (H : List (List Event)) (p : Nat) (e : Event) : Sys :=
  ⟨P, S.set p (did (rd P p) (rd S p) e), stepW P.length W p e, H.set p (rd H p ++ [e])⟩
def stepIs (P : List (List Ins)) (S : List State) (W : List (List Item)) (H : List (List Event)) (p peer : Int) : Sys × Int :=
  if (comingIs P S W H p peer).2 = 0 then (stepS P S W H p.toNat (comingIs P S W H p peer).1, 0) else (⟨P, S, W, H⟩, (comingIs P S W H p peer).2)
structure ComesAt (P : List (List Ins)) (S : List State) (W : List (List Item)) (H : List (List Event)) (p : Nat) (e : Event) : Prop where
  lt : p < P.length
  code : (rd S p).code = 0
  few : (rd H p).length < 200
  comes : comes e (next (rd P p) (rd S p)) = true
  send : e.kind = 2 → (0 ≤ e.peer ∧ e.peer.toNat < P.length) ∧ (rd W (p * P.length + e.peer.toNat)).length < 12
  take : e.kind = 3 → (0 ≤ e.peer ∧ e.peer.toNat < P.length) ∧ 0 < (rd W (e.peer.toNat * P.length + p)).length ∧ (rd (rd W (e.peer.toNat * P.length + p)) 0).mark = false ∧ e.v = (rd (rd W (e.peer.toNat * P.length + p)) 0).v
theorem next_kind {l : List Ins} {s : State} : (next l s).kind = 2 ∧ (rd l s.at_.toNat).op = 6 ∧ (next l s).peer = (rd l s.at_.toNat).n ∨ (next l s).kind = 3 ∧ (rd l s.at_.toNat).op = 7 ∧ next l s = ⟨3, (rd l s.at_.toNat).n, 0⟩ ∨ (next l s).kind ≠ 2 ∧ (next l s).kind ≠ 3 := by
  unfold next
  by_cases h6 : (rd l s.at_.toNat).op = 6
  · left; simp [h6]
  · by_cases h7 : (rd l s.at_.toNat).op = 7
    · right; left; simp [h7]
    · right; right
      by_cases h8 : (rd l s.at_.toNat).op = 8 <;> simp [h6, h7, h8]
theorem insOk_peer {x : Ins} {m n : Int} (h : insOk x m n = true) (h6 : x.op = 6) : 0 ≤ x.n ∧ x.n ≤ n - 1 := by
  simp only [insOk, h6, inB, Bool.and_eq_true, decide_eq_true_eq] at h
  simp at h
  omega
structure ProcF (P : List (List Ins)) (S : List State) (H : List (List Event)) (p : Nat) : Prop where
  ok : SOk (rd P p).length (rd S p)
  io : IOk (rd P p).length (rd (rd P p) (rd S p).at_.toNat)
  pl : (rd P p).length ≤ 30
  peer : (next (rd P p) (rd S p)).kind = 2 → 0 ≤ (next (rd P p) (rd S p)).peer ∧ (next (rd P p) (rd S p)).peer ≤ (P.length : Int) - 1
theorem procF_of {P : List (List Ins)} {S : List State} {W : List (List Item)} {H : List (List Event)} {p : Nat} (hs : sysOk P S W H = true) (hp : p < P.length) : ProcF P S H p := by
  simp only [sysOk, Bool.and_eq_true, allBelow_eq] at hs
  have hpr := hs.2.2.1 p hp
  simp only [procOk, Bool.and_eq_true] at hpr
  obtain ⟨e1, e2, e3, e4, e5⟩ := stood_evOk hpr.2.2
  have hat0 := e2.at0
  have hat1 := e2.at1
  refine ⟨e2, progOk_iok e3 (by omega), (progOk_len e3).2, fun h => ?_⟩
  rcases @next_kind (rd P p) (rd S p) with hk | hk | hk
  · rw [hk.2.2]
    have h1 := hpr.1
    simp only [progOk, Bool.and_eq_true, List.all_eq_true] at h1
    exact insOk_peer (h1.2 _ (rd_mem (by omega))) hk.2.1
  · omega
  · exact absurd h hk.1
theorem sysOk_G {P : List (List Ins)} {S : List State} {W : List (List Item)} {H : List (List Event)} (h : sysOk P S W H = true) : SysG ⟨P, S, W, H⟩ := by
  obtain ⟨hI, hP, hS, h200⟩ := sysOk_facts h
  have hN := hI.n
  have hsl := hI.s
  have hwl := hI.w
  have hHl := hI.h
  have hnn : P.length * P.length ≤ 4 * 4 := Nat.mul_le_mul hN.2 hN.2
  have h' := h
  simp only [sysOk, Bool.and_eq_true, List.all_eq_true] at h'
  refine sysG_of ⟨by show P.length ≤ _; omega, fun j hj => ?_, by show S.length ≤ _; omega, fun j hj => ?_, by show W.length ≤ _; omega, fun j hj => ?_, by show H.length ≤ _; omega, fun j hj => ?_⟩ hN.2 (by show S.length ≤ _; omega) (by show W.length ≤ _; omega) (by show H.length ≤ _; omega)
  · have hj : j < P.length := hj
    have := (procF_of h hj).pl
    show (rd P j).length ≤ _
    omega
  · have hj : j < S.length := hj
    have h1 := (procF_of (p := j) h (by omega)).ok
    have h2 := h1.regs
    have h3 := h1.out
    show (rd S j).regs.length ≤ _ ∧ (rd S j).out.length ≤ _
    omega
  · have hj : j < W.length := hj
    have h1 := h'.2.1 _ (rd_mem hj)
    simp only [wayOk, Bool.and_eq_true, decide_eq_true_eq] at h1
    show (rd W j).length ≤ _
    omega
  · have hj : j < H.length := hj
    have := h200 j hj
    show (rd H j).length ≤ _
    omega

end Go.Proofs.YtipfcgbhaalcdaaGreat.Abs
namespace Go.Proofs.YtipfcgbhaalcdaaGreat.Abs
open Go Go.Proofs
set_option linter.unusedVariables false
set_option linter.unusedSimpArgs false
attribute [local irreducible] callE
end Go.Proofs.YtipfcgbhaalcdaaGreat.Abs
namespace Go.Proofs.YtipfcgbhaalcdaaGreat.Abs
open Go Go.Proofs
set_option linter.unusedVariables false
set_option linter.unusedSimpArgs false
attribute [local irreducible] callE
def stopOk (P : List (List Ins)) (S : List State) (W : List (List Item)) (H : List (List Event)) (p kind : Int) : Bool := sysOk P S W H && (inB p 0 ((P.length : Int) - 1) && inB kind 1 3)
abbrev aStop (p kind v : Int) : AV := .ag [i64 p, i64 kind, i64 v]
def holdsB (kind v a : Int) (o : List Int) (es : List Event) : Bool :=
  if kind = 1 then decide (a = v) else if kind = 2 then decide (0 < (o.length : Int)) && decide (rd o ((o.length : Int) - 1).toNat = v)
  else !decide ((es.length : Int) = 0) && (decide ((rd es ((es.length : Int) - 1).toNat).kind = 3) && decide ((rd es ((es.length : Int) - 1).toNat).v = v))
def stopHolds (P : List (List Ins)) (S : List State) (W : List (List Item)) (H : List (List Event)) (p kind v : Int) : Bool := stopOk P S W H p kind && holdsB kind v (rd S p.toNat).at_ (rd S p.toNat).out (rd H p.toNat)
def lastIs (f : Nat → Bool) : Nat → Int
  | 0 => if f 0 = true then 0 else -1
  | n + 1 => if f (n + 1) = true then ((n + 1 : Nat) : Int) else lastIs f n
def heldAt (l : List Ins) (es : List Event) (kind v : Int) (n : Nat) : Bool := holdsB kind v (stOf (replayAll l (es.take n))).at_ (stOf (replayAll l (es.take n))).out (es.take n)
def lastMo (P : List (List Ins)) (S : List State) (W : List (List Item)) (H : List (List Event)) (p kind v : Int) : Int := if stopOk P S W H p kind = true then lastIs (heldAt (rd P p.toNat) (rd H p.toNat) kind v) (rd H p.toNat).length else -1
structure LA where
  n : Int
  d : Nat
end Go.Proofs.YtipfcgbhaalcdaaGreat.Abs
namespace Go.Proofs.YtipfcgbhaalcdaaGreat.Abs
open Go Go.Proofs
set_option linter.unusedVariables false
set_option linter.unusedSimpArgs false
attribute [local irreducible] callE
def heldIn (X : Sys) (q : Nat) (kind v : Int) : Bool := holdsB kind v (rd X.states q).at_ (rd X.states q).out (rd X.hist q)
def stepX (X : Sys) (w : Who) : Sys × Int := stepIs X.progs X.states X.ways X.hist w.p w.i
def untilGo (q : Nat) (kind v : Int) : Nat → List Who → Sys → Sys × Int
  | i, [], X => (X, (i : Int))
  | i, w :: r, X => if (stepX X w).2 = 0 ∧ heldIn (stepX X w).1 q kind v = true then ((stepX X w).1, ((i + 1 : Nat) : Int)) else untilGo q kind v (i + 1) r (stepX X w).1
def untilIs (P : List (List Ins)) (S : List State) (W : List (List Item)) (H : List (List Event)) (l : List Who) (p kind v : Int) : Sys × Int :=
  if stopOk P S W H p kind = true ∧ (l.length : Int) ≤ 200 then untilGo p.toNat kind v 0 l ⟨P, S, W, H⟩ else (⟨[], [], [], []⟩, -1)
structure Along (n : Nat) (X : Sys) : Prop where
  ok : sysOk X.progs X.states X.ways X.hist = true
  n : X.progs.length = n
structure US where
  j : Nat
  X : Sys
  o : Nat
  b0 : Nat
  b1 : Nat
  b2 : Nat
  b3 : Nat
  dd : Bool
def whoOk (H : List (List Event)) (f : List Int) (w : Who) : Bool := inB w.p 0 ((H.length : Int) - 1) && (decide (w.i = rd f w.p.toNat) && canCome H f w.p.toNat)
def rowGo (H : List (List Event)) : List Who → List Int → Bool
  | [], _ => true
  | w :: r, f => whoOk H f w && rowGo H r (goOn f w.p.toNat)
def rowOkB (P : List (List Ins)) (S : List State) (W : List (List Item)) (H : List (List Event)) (row : List Who) : Bool := sysOk P S W H && (decide (row.length = allEv H) && rowGo H row (List.replicate H.length 0))
structure RO where
  j : Nat
  f : List Int
  g : Nat
  d : Bool
theorem snoc_new (l : List State) : l.map rState ++ [[.v (.int .i64 0), .sl 1 ((List.replicate 4 0).map rI), .sl 1 [], .v (.int .i64 0)]] = (l ++ [newState]).map rState := by simp [rState, newState]
def newSys (P : List (List Ins)) : Sys := ⟨P, List.replicate P.length newState, List.replicate (P.length * P.length) default, List.replicate P.length default⟩
structure NS where
  j : Nat
  lp : List (List Ins)
  ls : List State
  v0 : AV
  v1 : AV
  b0 : Nat
  b1 : Nat
  c0 : Cont
  c1 : Cont
  dd : Bool
def NS.ok (P : List (List Ins)) (n0 n1 : Nat) (z : NS) : Prop :=
  (z.lp = P.take z.j ∧ z.ls = (List.replicate P.length newState).take z.j) ∧
  ((z.j = 0 ∧ (z.v0 = .nl 1 ∧ z.v1 = .nl 4) ∧ (z.b0 = 0 ∧ z.b1 = 0) ∧ (z.c0 = .dead ∧ z.c1 = .dead)) ∨
   (0 < z.j ∧ (z.v0 = .h n0 z.b0 0 [] 1 0 z.lp.length ∧ z.v1 = .h n1 z.b1 0 [] 4 0 z.ls.length) ∧ (z.c0 = tInsSS9 z.lp ∧ z.c1 = tStateS9 z.ls)))
def newRes (P : List (List Ins)) : Res := ⟨.tu [nSys 0 P (List.replicate P.length newState) (List.replicate (P.length * P.length) default) (List.replicate P.length default), bl true], [tInsSS9 P, tStateS9 (List.replicate P.length newState), tItemSS9 (List.replicate (P.length * P.length) default), tEventSS9 (List.replicate P.length default)], [none]⟩
end Go.Proofs.YtipfcgbhaalcdaaGreat.Abs
namespace Go.Proofs.YtipfcgbhaalcdaaGreat.Abs
open Go Go.Proofs
set_option linter.unusedVariables false
set_option linter.unusedSimpArgs false
attribute [local irreducible] callE
theorem sZ.all {r : Int} {F : Int → Prop} (h : ∀ n, F n) : sZ r F := ⟨h r⟩
theorem sW.all {k : IntKind} {r : Int} {F : Int → Prop} (h : ∀ n, F n) : sW k r F := ⟨h _⟩

abbrev tB (b : List Int) : Cont := .tree 0 (.sl 1 (b.map rB))
def Cur (b : List Int) (lo hi : Int) (r : Res) : Prop := ∃ (x i h : Int), lo ≤ x ∧ x ≤ hi ∧ 0 ≤ i ∧ i ≤ b.length ∧ r = ⟨i64 x, [], [none, some (.box [.h 1000000 0 0 [] 1 0 b.length, i64 i, i64 h])]⟩
abbrev tCur (b : List Int) (i h : Int) : Cont := .box [.h 1000000 0 0 [] 1 0 b.length, i64 i, i64 h]
structure Bytes (b : List Int) : Prop where
  len : b.length ≤ 100000000000
  num : ∀ v ∈ b, 0 ≤ v ∧ v < 256
end Go.Proofs.YtipfcgbhaalcdaaGreat.Abs
namespace Go.Proofs.YtipfcgbhaalcdaaGreat.Abs
open Go Go.Proofs
set_option linter.unusedVariables false
set_option linter.unusedSimpArgs false
attribute [local irreducible] callE
theorem one_rIns (a b c d e : Int) : [[T.v (.int .i64 a), .v (.int .i64 b), .v (.int .i64 c), .v (.int .i64 d), .v (.int .i64 e)]] = [(⟨a, b, c, d, e⟩ : Ins)].map rIns := rfl
theorem cons_rIns (l : List Ins) (a b c d e : Int) : [T.v (.int .i64 a), .v (.int .i64 b), .v (.int .i64 c), .v (.int .i64 d), .v (.int .i64 e)] :: l.map rIns = ((⟨a, b, c, d, e⟩ : Ins) :: l).map rIns := rfl
theorem one_rI (a : Int) : [[T.v (.int .i64 a)]] = [a].map rI := rfl
theorem cons_rI (l : List Int) (a : Int) : [T.v (.int .i64 a)] :: l.map rI = (a :: l).map rI := rfl
def DrawnIns (b : List Int) (m n : Nat) (r : Res) : Prop := ∃ (l : List Ins) (i h : Int), m ≤ l.length ∧ l.length ≤ n ∧ 0 ≤ i ∧ i ≤ b.length ∧ r = ⟨.h 2000000 1 0 [] 5 0 l.length, [tIns9 l], [none, some (tCur b i h)]⟩
structure DP where
  j : Nat
  l : List Ins
  o : Nat
  bb : Nat
  i : Int
  h : Int
theorem sCall.pick {x : Option Res} {b l : List Int} {F : Res → Prop} (e : Told x (fun r => ∃ x i h : Int, x ∈ l ∧ 0 ≤ i ∧ i ≤ b.length ∧ r = ⟨i64 x, [], [none, some (tCur b i h), none]⟩)) (h : ∀ x i h : Int, x ∈ l → 0 ≤ i → i ≤ b.length → F ⟨i64 x, [], [none, some (tCur b i h), none]⟩) : sCall x F :=
  sCall.ex e fun r hr => by obtain ⟨x, i, h', h2, h3, h4, rfl⟩ := hr; exact h x i h' h2 h3 h4
theorem sCall.prog {x : Option Res} {b : List Int} {m n : Nat} {F : Res → Prop} (e : Told x (DrawnIns b m n)) (h : ∀ (l : List Ins) (i h : Int), m ≤ l.length → l.length ≤ n → 0 ≤ i → i ≤ b.length → F ⟨.h 2000000 1 0 [] 5 0 l.length, [tIns9 l], [none, some (tCur b i h)]⟩) : sCall x F :=
  sCall.ex e fun r hr => by obtain ⟨l, i, h', h1, h2, h3, h4, rfl⟩ := hr; exact h l i h' h1 h2 h3 h4
structure DA where
  l : List Ins
  n : Nat
  o : Nat
  bb : Nat
  g : Nat
  d : Bool
  i : Int
  h : Int
end Go.Proofs.YtipfcgbhaalcdaaGreat.Abs
namespace Go.Proofs.YtipfcgbhaalcdaaGreat.Abs
open Go Go.Proofs
set_option linter.unusedVariables false
set_option linter.unusedSimpArgs false
attribute [local irreducible] callE
def Rt (P : List (List Ins)) (S : List State) (W : List (List Item)) (H : List (List Event)) : Prop := sysOk P S W H = true ∨ (P = [] ∧ S = []) ∧ W = [] ∧ H = []
theorem none_B : SysB 1048576 [] [] [] [] := by
  refine ⟨by simp, fun j hj => ?_, by simp, fun j hj => ?_, by simp, fun j hj => ?_, by simp, fun j hj => ?_⟩ <;> simp at hj
theorem Rt.B {P : List (List Ins)} {S : List State} {W : List (List Item)} {H : List (List Event)} (h : Rt P S W H) : SysB 1048576 P S W H := by
  rcases h with h | ⟨⟨rfl, rfl⟩, rfl, rfl⟩
  · exact (sysOk_G h).b
  · exact none_B
def DSys (b : List Int) (R : List (List Ins) → List State → List (List Item) → List (List Event) → Prop) (m : List (Option Cont)) (r : Res) : Prop :=
  ∃ (P : List (List Ins)) (S : List State) (W : List (List Item)) (H : List (List Event)) (i h : Int), R P S W H ∧ 0 ≤ i ∧ i ≤ b.length ∧ r = ⟨nSys 0 P S W H, [tInsSS9 P, tStateS9 S, tItemSS9 W, tEventSS9 H], none :: some (tCur b i h) :: m⟩
structure DN where
  j : Nat
  l : List (List Ins)
  o : Nat
  bb : Nat
  i : Int
  h : Int
def Peers (r : Res) : Prop := ∃ l : List Int, l.length ≤ 4 ∧ r = ⟨.h 2000000 1 0 [] 1 0 l.length, [tI9 l], [none, none, none, none]⟩
theorem sCall.peers {x : Option Res} {F : Res → Prop} (e : Told x Peers) (h : ∀ l : List Int, l.length ≤ 4 → F ⟨.h 2000000 1 0 [] 1 0 l.length, [tI9 l], [none, none, none, none]⟩) : sCall x F :=
  sCall.ex e fun r hr => by obtain ⟨l, h1, rfl⟩ := hr; exact h l h1
structure PE where
  j : Nat
  m : Int
  l : List Int
  o : Nat
  bb : Nat
def DPick (b : List Int) (r : Res) : Prop := ∃ p q i h : Int, 0 ≤ i ∧ i ≤ b.length ∧ r = ⟨.ag [i64 p, i64 q], [], [none, some (tCur b i h), none, none, none, none]⟩
def stepRt (P : List (List Ins)) (S : List State) (W : List (List Item)) (H : List (List Event)) (p peer : Int) : Sys × Int := if sysOk P S W H = true then stepIs P S W H p peer else (⟨[], [], [], []⟩, 1)
def DRun (b : List Int) (m : Int) (r : Res) : Prop :=
  ∃ (P : List (List Ins)) (S : List State) (W : List (List Item)) (H : List (List Event)) (l : List Who) (i h : Int), Rt P S W H ∧ (l.length : Int) ≤ m ∧ (0 ≤ i ∧ i ≤ b.length) ∧
  (r = ⟨.tu [nSys 0 P S W H, .h 2000004 1 0 [] 2 0 l.length, nSys 0 P S W H], [tInsSS9 P, tStateS9 S, tItemSS9 W, tEventSS9 H, tWho9 l], [none, some (tCur b i h)]⟩ ∨
   ∃ (P' : List (List Ins)) (S' : List State) (W' : List (List Item)) (H' : List (List Event)), Rt P' S' W' H' ∧ r = ⟨.tu [nSys 0 P S W H, .h 2000004 1 0 [] 2 0 l.length, nSys 5 P' S' W' H'], [tInsSS9 P, tStateS9 S, tItemSS9 W, tEventSS9 H, tWho9 l, tInsSS9 P', tStateS9 S', tItemSS9 W', tEventSS9 H'], [none, some (tCur b i h)]⟩)
structure DR where
  j : Nat
  l : List Who
  lo : Nat
  lb : Nat
  P : List (List Ins)
  S : List State
  W : List (List Item)
  H : List (List Event)
  o : Nat
  b0 : Nat
  b1 : Nat
  b2 : Nat
  b3 : Nat
  d7 : Bool
  dd : Bool
  i : Int
  h : Int
end Go.Proofs.YtipfcgbhaalcdaaGreat.Abs
namespace Go.Proofs.YtipfcgbhaalcdaaGreat.Abs
open Go Go.Proofs
set_option linter.unusedVariables false
set_option linter.unusedSimpArgs false
attribute [local irreducible] callE
theorem cons_rItem (l : List Item) (a : Bool) (v : Int) : [[T.v (.bool a), .v (.int .i64 v)]] ++ l.map rItem = ((⟨a, v⟩ : Item) :: l).map rItem := rfl
theorem mem_rd {α : Type} [Inhabited α] {l : List α} {x : α} (h : x ∈ l) : ∃ j, j < l.length ∧ rd l j = x := by
  obtain ⟨i, hi, rfl⟩ := List.mem_iff_getElem.1 h
  exact ⟨i, hi, by simp [rd, hi]⟩
theorem SysB.all {B : Nat} {P : List (List Ins)} {S : List State} {W : List (List Item)} {H : List (List Event)} (h : SysB B P S W H) : (∀ x ∈ P, x.length ≤ B) ∧ (∀ x ∈ S, x.regs.length ≤ B ∧ x.out.length ≤ B) ∧ (∀ x ∈ W, x.length ≤ B) ∧ ∀ x ∈ H, x.length ≤ B := by
  refine ⟨fun x hx => ?_, fun x hx => ?_, fun x hx => ?_, fun x hx => ?_⟩
  · obtain ⟨j, hj, rfl⟩ := mem_rd hx; exact h.pp j hj
  · obtain ⟨j, hj, rfl⟩ := mem_rd hx; exact h.ss j hj
  · obtain ⟨j, hj, rfl⟩ := mem_rd hx; exact h.ww j hj
  · obtain ⟨j, hj, rfl⟩ := mem_rd hx; exact h.hh j hj
def DSys2 (r : Res) : Prop := ∃ (P : List (List Ins)) (S : List State) (W : List (List Item)) (H : List (List Event)) (p k : Int), SysB 2000000 P S W H ∧ r = ⟨.tu [nSys 0 P S W H, i64 p, i64 k], [tInsSS9 P, tStateS9 S, tItemSS9 W, tEventSS9 H], [none]⟩
def DSys1 (r : Res) : Prop := ∃ (P : List (List Ins)) (S : List State) (W : List (List Item)) (H : List (List Event)) (p : Int), SysB 2000000 P S W H ∧ r = ⟨.tu [nSys 0 P S W H, i64 p], [tInsSS9 P, tStateS9 S, tItemSS9 W, tEventSS9 H], [none]⟩
def DSys0 (r : Res) : Prop := ∃ (P : List (List Ins)) (S : List State) (W : List (List Item)) (H : List (List Event)), SysB 2000000 P S W H ∧ r = ⟨nSys 0 P S W H, [tInsSS9 P, tStateS9 S, tItemSS9 W, tEventSS9 H], [none]⟩
def DSysStop (r : Res) : Prop := ∃ (P : List (List Ins)) (S : List State) (W : List (List Item)) (H : List (List Event)) (p kind v : Int), SysB 2000000 P S W H ∧ r = ⟨.tu [nSys 0 P S W H, aStop p kind v], [tInsSS9 P, tStateS9 S, tItemSS9 W, tEventSS9 H], [none]⟩
def DStop (b : List Int) (r : Res) : Prop := ∃ p kind v i h : Int, 0 ≤ i ∧ i ≤ b.length ∧ r = ⟨aStop p kind v, [], [none, some (tCur b i h), none, none, none, none]⟩
theorem sCall.stop {x : Option Res} {b : List Int} {F : Res → Prop} (e : Told x (DStop b)) (h : ∀ p kind v i h : Int, 0 ≤ i → i ≤ b.length → F ⟨aStop p kind v, [], [none, some (tCur b i h), none, none, none, none]⟩) : sCall x F :=
  sCall.ex e fun r hr => by obtain ⟨p, kind, v, i, h', h1, h2, rfl⟩ := hr; exact h p kind v i h' h1 h2
end Go.Proofs.YtipfcgbhaalcdaaGreat.Abs
namespace Go.Proofs.YtipfcgbhaalcdaaGreat.Abs
open Go Go.Proofs
set_option linter.unusedVariables false
set_option linter.unusedSimpArgs false
attribute [local irreducible] callE
theorem Reach.whole {H : List (List Event)} {f : List Int} {n : Nat} (h : Reach H f n) (hP : PeersIn H) : wholeB H f = true := by
  rw [wholeB_eq]
  induction h with
  | zero => intro a b ha hb; simp only [tookC, rd_zero, Int.toNat_zero, List.take_zero]; simp [cnt, vals]
  | @step f n p h hp hc ih =>
    intro a b ha hb
    have hf := h.fok
    have hlt := can_lt hf hp hc
    have h0 := (hf.rng p hp).1
    have h1 := ih a b ha hb
    have hs : sentC H f a b ≤ sentC H (goOn f p) a b := by
      unfold sentC
      apply cnt_take
      rw [rd_goOn (by rw [hf.len]; exact hp)]
      split
      · rename_i e; subst e; omega
      · exact Nat.le_refl _
    by_cases hbp : b = p
    · subst hbp
      have ht : tookC H (goOn f b) a b = tookC H f a b + (if isEv 3 a (rd (rd H b) (rd f b).toNat) = true then 1 else 0) := by
        unfold tookC
        rw [rd_goOn (by rw [hf.len]; exact hp), if_pos rfl, show (rd f b + 1).toNat = (rd f b).toNat + 1 by omega]
        simp only [cnt]
        rw [vals_snoc _ _ _ (by omega)]
        split <;> simp
      by_cases he : isEv 3 a (rd (rd H b) (rd f b).toNat) = true
      · rw [if_pos he] at ht
        simp only [isEv, Bool.and_eq_true, decide_eq_true_eq] at he
        simp only [canCome, Bool.and_eq_true, Bool.not_eq_true', Bool.and_eq_false_iff, decide_eq_true_eq, decide_eq_false_iff_not] at hc
        rcases hc.2 with h4 | h4
        · exact absurd he.1 h4
        · rw [he.2, Int.toNat_natCast] at h4
          unfold tookC at ht h1
          unfold sentC at hs h1
          unfold tookC sentC
          omega
      · rw [if_neg he] at ht
        omega
    · have ht : tookC H (goOn f p) a b = tookC H f a b := by
        unfold tookC
        rw [rd_goOn (by rw [hf.len]; exact hp), if_neg hbp]
      omega
end Go.Proofs.YtipfcgbhaalcdaaGreat.Abs
namespace Go.Proofs.YtipfcgbhaalcdaaGreat.Abs
open Go Go.Proofs
set_option linter.unusedVariables false
set_option linter.unusedSimpArgs false
attribute [local irreducible] callE
def DAt (r : Res) : Prop := ∃ n : Int, 0 ≤ n ∧ n < 256 ∧ r = ⟨i64 n, [], [none]⟩
theorem sCall.at_ {x : Option Res} {F : Res → Prop} (e : Told x DAt) (h : ∀ n : Int, 0 ≤ n → n < 256 → F ⟨i64 n, [], [none]⟩) : sCall x F :=
  sCall.ex e fun r hr => by obtain ⟨n, h1, h2, rfl⟩ := hr; exact h n h1 h2
end Go.Proofs.YtipfcgbhaalcdaaGreat.Abs
namespace Go.Proofs.YtipfcgbhaalcdaaGreat.Abs
open Go Go.Proofs
set_option linter.unusedVariables false
set_option linter.unusedSimpArgs false
attribute [local irreducible] callE
def DRow (b : List Int) (r : Res) : Prop := ∃ (l : List Who) (i h : Int), l.length ≤ 1000 ∧ (0 ≤ i ∧ i ≤ b.length) ∧ r = ⟨.h 2000000 1 0 [] 2 0 l.length, [tWho9 l], [none, some (tCur b i h), none, none, none, none]⟩
structure DW where
  j : Nat
  l : List Who
  o : Nat
  bb : Nat
  f : List Int
  g : Nat
  e : Bool
  d : Bool
  i : Int
  h : Int
end Go.Proofs.YtipfcgbhaalcdaaGreat.Abs
namespace Go.Proofs.YtipfcgbhaalcdaaGreat.Abs
open Go Go.Proofs
set_option linter.unusedVariables false
set_option linter.unusedSimpArgs false
attribute [local irreducible] callE
abbrev tBool (l : List Bool) : Cont := .tree 0 (.sl 1 (l.map rBool))
abbrev tBool9 (l : List Bool) : Cont := .tree 9 (.sl 1 (l.map rBool))
abbrev tIntSS (l : List (List Int)) : Cont := .tree 0 (.sl 1 (l.map rIntL))
abbrev tIntSS9 (l : List (List Int)) : Cont := .tree 9 (.sl 1 (l.map rIntL))
theorem set_rIntL (l : List (List Int)) (n : Nat) (x : List Int) : (l.map rIntL).set n [.sl 1 (x.map rI)] = (l.set n x).map rIntL := by simp [rIntL, List.map_set]
theorem rep_rIntL (n : Nat) : List.replicate n [T.sl 1 []] = (List.replicate n (default : List Int)).map rIntL := by simp [rIntL, default, instInhabitedList]
theorem gI20 {p A : Prop} (h : A) (e : p := by first | with_reducible assumption | omega | (simp only [Nat.zero_add, Nat.add_zero, Nat.sub_zero, Int.toNat_natCast, Int.toNat_zero, Int.toNat_one, List.length_map, List.length_nil, Int.reduceToNat, Nat.reduceAdd, Nat.reduceSub, Int.sub_zero, Int.reduceAdd, Int.reduceSub, Nat.sub_self, Int.toNat_natCast_add_one, marks_len, bs_len, List.length_append, List.length_cons, List.length_set, List.length_replicate, List.length_range]; first | done | omega)) : sI p A := sI.mk e h
theorem gNum20 {r r' : Nat} {F : Nat → Prop} (h : F r') (e : r = r' := by first | (simp only [Nat.zero_add, Nat.add_zero, Nat.sub_zero, Int.toNat_natCast, Int.toNat_zero, Int.toNat_one, List.length_map, List.length_nil, Int.reduceToNat, Nat.reduceAdd, Nat.reduceSub, Int.sub_zero, Int.reduceAdd, Int.reduceSub, Nat.sub_self, Int.toNat_natCast_add_one, marks_len, bs_len]; rfl) | rfl) : sN r F := sN.eq e h
theorem gRow20 {r r' : List (List T)} {F : List (List T) → Prop} (h : F r') (e : r = r' := by first | (simp only [Nat.add_zero, Nat.zero_add, Nat.reduceAdd, List.drop_zero, List.take_succ_cons, List.take_nil, List.drop_succ_cons, List.drop_nil, List.take_zero, List.nil_append, List.append_nil, List.map_nil, drop_suf, take_pre, drop_map, List.take_length, take_len_set, take_len_app, List.set_set, List.length_map, set_rIntL, rep_rIntL, cons_rItem, one_rIns, cons_rIns, one_rI, cons_rI, snoc_new, snoc_rItem, snoc_rInsL, snoc_rItemL, snoc_rEventL, snoc_rState, set_rWho, rep_rWho, snoc_rWho, set_rState, rep_rState, set_rInsL, rep_rInsL, set_rItemL, rep_rItemL, set_rEventL, rep_rEventL, set_rItem, rep_rItem, rep_rKept, marks_take, set_rKept, set_rIns, rep_rIns, set_rEvent, rep_rEvent, snoc_rKept, snoc_rEvent, snoc_rIns, bytesT_bs, snoc_rI, snoc_rB, snoc_rBool, set_rI, set_rBool, rep_rI, rep_rBool, map_app]; rfl) | rfl) : sR r F := sR.eq e h
theorem gRf5 {b : Bool} {A : Prop} (h : A) (e : b = true := by first | exact Nat.beq_refl _ | exact wide_map (fun _ => rfl) _ | exact full_map (fun _ => rfl) _ | exact full_map (fun x => full_rKept x) _ | exact full_map (fun x => full_rInsL x) _ | exact full_map (fun x => full_rItemL x) _ | exact full_map (fun x => full_rEventL x) _ | exact full_map (fun x => full_rState x) _ | exact full_map (fun x => full_rIntL x) _ | exact full_map (fun x => full_rIntL x) _ | rfl | (simp only [full_map, wide_map]; done)) : fB b A := fB.of e h
theorem st20 {P Q : Prop} (h : Q) (e : Q → P := by with_reducible first | exact fun h => gP h | exact fun h => gN h | exact fun h => fG.not h | exact fun h => gY h | exact fun h => gF h | exact fun h => fG.yes (flat_map (fun _ => rfl) _) h | exact fun h => gS64 h | exact fun h => gU8 h | exact fun h => gI20 h | exact fun h => fE.of rfl h | exact fun h => gNum20 h | exact fun h => gSet h | exact fun h => gRd h | exact fun h => gLk h | exact fun h => gRow20 h | exact fun h => gRf5 h) : P := e h
abbrev aLive (j : Nat) (P : List (List Ins)) (S : List State) (W : List (List Item)) (H : List (List Event)) (on : Bool) (cut : List Int) (opn : List Bool) (kept : List (List Int)) : AV :=
  .ag [.h (1000000 + j) 0 0 [] 1 0 P.length, .h (1000001 + j) 0 0 [] 4 0 S.length, .h (1000002 + j) 0 0 [] 1 0 W.length, .h (1000003 + j) 0 0 [] 1 0 H.length, bl on, .h (1000004 + j) 0 0 [] 1 0 cut.length, .h (1000005 + j) 0 0 [] 1 0 opn.length, .h (1000006 + j) 0 0 [] 1 0 kept.length]
abbrev nLive (j : Nat) (P : List (List Ins)) (S : List State) (W : List (List Item)) (H : List (List Event)) (on : Bool) (cut : List Int) (opn : List Bool) (kept : List (List Int)) : AV :=
  .ag [.h (2000000 + j) 1 0 [] 1 0 P.length, .h (2000001 + j) 1 0 [] 4 0 S.length, .h (2000002 + j) 1 0 [] 1 0 W.length, .h (2000003 + j) 1 0 [] 1 0 H.length, bl on, .h (2000004 + j) 1 0 [] 1 0 cut.length, .h (2000005 + j) 1 0 [] 1 0 opn.length, .h (2000006 + j) 1 0 [] 1 0 kept.length]
abbrev aShot (j : Nat) (on : Bool) (cut : List Int) (opn : List Bool) (kept : List (List Int)) : AV :=
  .ag [bl on, .h (1000000 + j) 0 0 [] 1 0 cut.length, .h (1000001 + j) 0 0 [] 1 0 opn.length, .h (1000002 + j) 0 0 [] 1 0 kept.length]
abbrev nShot (j : Nat) (on : Bool) (cut : List Int) (opn : List Bool) (kept : List (List Int)) : AV :=
  .ag [bl on, .h (2000000 + j) 1 0 [] 1 0 cut.length, .h (2000001 + j) 1 0 [] 1 0 opn.length, .h (2000002 + j) 1 0 [] 1 0 kept.length]
structure ShotB (B : Nat) (cut : List Int) (opn : List Bool) (kept : List (List Int)) : Prop where
  c : cut.length ≤ B
  o : opn.length ≤ B
  k : kept.length ≤ B
  kk : ∀ j : Nat, j < kept.length → (rd kept j).length ≤ B
def shotSz (cut : List Int) (opn : List Bool) (kept : List (List Int)) : Nat := cut.length + (opn.length + (kept.length + wts List.length kept))
theorem ShotB.mono {B B' : Nat} {cut : List Int} {opn : List Bool} {kept : List (List Int)} (h : ShotB B cut opn kept) (hb : B ≤ B') : ShotB B' cut opn kept :=
  ⟨by have := h.c; omega, by have := h.o; omega, by have := h.k; omega, fun j hj => by have := h.kk j hj; omega⟩
def markedB (w : List Item) : Bool := w.any (·.mark)
def marksB (W : List (List Item)) : Bool := W.any markedB
theorem ok_impl_marked11 (k : Nat) (x : Item) : callE PR C (k + 1) 210 [.ag [bl x.mark, i64 x.v]] [] = some ⟨bl x.mark, [], []⟩ := by
  (refine fnI [ResultVar.tmp 2] Tryz.func210 ?_; conv => whnf)
  repeat' ((with_reducible (first | refine st20 ?_|refine fG.split (fun _ => ?_) (fun _ => ?_)|refine fG.bool (fun _ => ?_) (fun _ => ?_))) <;> (try (conv => whnf)))
theorem ok_IndexFunc_Mark (k : Nat) (w : List Item) (hw : w.length ≤ 100000000000) :
    callE PR C (k + 2) 265 [.h 1000000 0 0 [] 2 0 w.length, .fn 210 []] [tItem w] = some ⟨i64 (idxP (·.mark) w), [], [none]⟩ := by
  (refine fnI [ResultVar.tmp 4] Tryz.func265 ?_; conv => whnf)
  refine loop_rule (ι := Nat) (fun i => [(0, .h 1000000 0 0 [] 2 0 w.length), (1, .fn 210 []), (7, i64 w.length), (8, i64 (i : Nat))]) (fun i => [(1000000, ⟨0, 0, false, tItem w⟩)])
    (fun i => w.length - i) (fun i => i ≤ w.length ∧ w.findIdx? (·.mark) = ((w.drop i).findIdx? (·.mark)).map (· + i)) 0 fitOk (by simp) (by simp [C]; omega) ?_
  rintro i sl ob ⟨hi, hall⟩
  (conv => whnf)
  repeat' ((with_reducible (first | refine sCall.of (ok_impl_marked11 _ _) ?_|refine st20 ?_|refine fG.split (fun _ => ?_) (fun _ => ?_)|refine fG.bool (fun _ => ?_) (fun _ => ?_))) <;> (try (conv => whnf)))
  case refine_1.refine_2 h hx =>
    refine ⟨⟨i + 1, fitOk, ?_, ?_⟩⟩
    · exact ⟨by show i + 1 ≤ _; omega, findIdx_step (by omega) hall hx⟩
    · show w.length - (i + 1) < w.length - i; omega
  case refine_1.refine_1 h hx => rw [findIdx_here (by omega) hall hx]
  case refine_2 h => rw [findIdx_none (by omega) hall]
theorem ok_ContainsFunc_Mark (k : Nat) (w : List Item) (hw : w.length ≤ 100000000000) :
    callE PR C (k + 3) 192 [.h 1000000 0 0 [] 2 0 w.length, .fn 210 []] [tItem w] = some ⟨bl (markedB w), [], [none]⟩ := by
  unfold markedB
  rw [← idxP_any]
  (refine fnI [ResultVar.tmp 4] Tryz.func192 ?_; conv => whnf)
  repeat' ((with_reducible (first | refine sCall.of (ok_IndexFunc_Mark _ _ hw) ?_|refine st20 ?_|refine fG.split (fun _ => ?_) (fun _ => ?_)|refine fG.bool (fun _ => ?_) (fun _ => ?_))) <;> (try (conv => whnf)))
theorem ok_impl_marked1 (k : Nat) (w : List Item) (hw : w.length ≤ 100000000000) : callE PR C (k + 4) 209 [.h 1000000 0 0 [] 2 0 w.length] [tItem w] = some ⟨bl (markedB w), [], [none]⟩ := by
  (refine fnI [ResultVar.tmp 2] Tryz.func209 ?_; conv => whnf)
  repeat' ((with_reducible (first | refine sCall.of (ok_ContainsFunc_Mark _ _ hw) ?_|refine st20 ?_|refine fG.split (fun _ => ?_) (fun _ => ?_)|refine fG.bool (fun _ => ?_) (fun _ => ?_))) <;> (try (conv => whnf)))
theorem ok_IndexFunc_Marks (k : Nat) (W : List (List Item)) (hW : W.length ≤ 100000000000) (hx : ∀ j : Nat, j < W.length → (rd W j).length ≤ 100000000000) :
    callE PR C (k + 5) 191 [.h 1000000 0 0 [] 1 0 W.length, .fn 209 []] [tItemSS W] = some ⟨i64 (idxP markedB W), [], [none]⟩ := by
  (refine fnI [ResultVar.tmp 4] Tryz.func191 ?_; conv => whnf)
  refine loop_rule (ι := Nat) (fun i => [(0, .h 1000000 0 0 [] 1 0 W.length), (1, .fn 209 []), (7, i64 W.length), (8, i64 (i : Nat))]) (fun i => [(1000000, ⟨0, 0, false, tItemSS W⟩)])
    (fun i => W.length - i) (fun i => i ≤ W.length ∧ W.findIdx? markedB = ((W.drop i).findIdx? markedB).map (· + i)) 0 fitOk (by simp) (by simp [C]; omega) ?_
  rintro i sl ob ⟨hi, hall⟩
  (conv => whnf)
  by_cases hil : i < W.length
  · have hxi := hx i hil
    have q1 := fun k => ok_impl_marked1 k (rd W i) hxi
    cases e : markedB (rd W i)
    all_goals simp only [e] at q1
    · repeat' ((with_reducible (first | refine sCall.of (q1 _) ?_|refine st20 ?_|refine fG.split (fun _ => ?_) (fun _ => ?_)|refine fG.bool (fun _ => ?_) (fun _ => ?_))) <;> (try (conv => whnf)))
      all_goals first
        | (exfalso; simp_all; done)
        | (refine ⟨⟨i + 1, fitOk, ?_, ?_⟩⟩
           · exact ⟨by show i + 1 ≤ _; omega, findIdx_step (by omega) hall e⟩
           · show W.length - (i + 1) < W.length - i; omega)
    · rw [findIdx_here (by omega) hall e]
      repeat' ((with_reducible (first | refine sCall.of (q1 _) ?_|refine st20 ?_|refine fG.split (fun _ => ?_) (fun _ => ?_)|refine fG.bool (fun _ => ?_) (fun _ => ?_))) <;> (try (conv => whnf)))
  · rw [findIdx_none (by omega) hall]
    repeat' ((with_reducible (first | refine st20 ?_|refine fG.split (fun _ => ?_) (fun _ => ?_)|refine fG.bool (fun _ => ?_) (fun _ => ?_))) <;> (try (conv => whnf)))
theorem ok_ContainsFunc_Marks (k : Nat) (W : List (List Item)) (hW : W.length ≤ 100000000000) (hx : ∀ j : Nat, j < W.length → (rd W j).length ≤ 100000000000) :
    callE PR C (k + 6) 88 [.h 1000000 0 0 [] 1 0 W.length, .fn 209 []] [tItemSS W] = some ⟨bl (marksB W), [], [none]⟩ := by
  unfold marksB
  rw [← idxP_any]
  (refine fnI [ResultVar.tmp 4] Tryz.func88 ?_; conv => whnf)
  repeat' ((with_reducible (first | refine sCall.of (ok_IndexFunc_Marks _ _ hW hx) ?_|refine st20 ?_|refine fG.split (fun _ => ?_) (fun _ => ?_)|refine fG.bool (fun _ => ?_) (fun _ => ?_))) <;> (try (conv => whnf)))
theorem ok_impl_marked (k : Nat) (P : List (List Ins)) (S : List State) (W : List (List Item)) (H : List (List Event)) (hb : SysB 10000000000 P S W H) :
    callE PR C (k + 7) 110 [aSys 0 P S W H] [tInsSS P, tStateS S, tItemSS W, tEventSS H] = some ⟨bl (marksB W), [], [none, none, none, none]⟩ := by
  have hw := hb.w
  have hx := hb.ww
  (refine fnI [ResultVar.tmp 2] Tryz.func110 ?_; conv => whnf)
  have q1 := fun k => ok_ContainsFunc_Marks k W (by omega) (fun j hj => by have := hx j hj; omega)
  repeat' ((with_reducible (first | refine sCall.of (q1 _) ?_|refine st20 ?_|refine fG.split (fun _ => ?_) (fun _ => ?_)|refine fG.bool (fun _ => ?_) (fun _ => ?_))) <;> (try (conv => whnf)))
theorem any_no {α : Type} [Inhabited α] {f : α → Bool} {l : List α} (h : ∀ i, i < l.length → f (rd l i) = false) : l.any f = false := by
  rw [List.any_eq_false]
  intro x hx
  obtain ⟨i, hi, rfl⟩ := List.mem_iff_getElem.1 hx
  have := h i hi
  rw [rd_at hi] at this
  simp [this]
theorem any_yes {α : Type} [Inhabited α] {f : α → Bool} {l : List α} {i : Nat} (h : i < l.length) (e : f (rd l i) = true) : l.any f = true := by
  rw [List.any_eq_true]
  exact ⟨_, rd_mem h, e⟩
theorem ok_spec_l11Marks (k : Nat) (P : List (List Ins)) (S : List State) (W : List (List Item)) (H : List (List Event)) (hb : SysB 10000000000 P S W H) :
    callE PR C (k + 1) 122 [aSys 0 P S W H] [tInsSS P, tStateS S, tItemSS W, tEventSS H] = some ⟨bl (marksB W), [], [none, none, none, none]⟩ := by
  have hw := hb.w
  have hx := hb.ww
  (refine fnI [ResultVar.tmp 2] Tryz.func122 ?_; conv => whnf)
  repeat' ((with_reducible (first | refine st20 ?_|refine fG.split (fun _ => ?_) (fun _ => ?_)|refine fG.bool (fun _ => ?_) (fun _ => ?_))) <;> (try (conv => whnf)))
  refine loop_rule (ι := Nat) (fun j => [(1, .pt 1 1 0 [] 0 0), (3, i64 (j : Nat))])
    (fun _ => [(1000000, ⟨0, 0, false, tInsSS P⟩), (1000001, ⟨0, 0, false, tStateS S⟩), (1000002, ⟨0, 0, false, tItemSS W⟩), (1000003, ⟨0, 0, false, tEventSS H⟩), (1, ⟨1, 0, false, bSys P S W H⟩)])
    (fun j => W.length - j) (fun j => j ≤ W.length ∧ ∀ q, q < j → markedB (rd W q) = false) 0 fitOk ⟨Nat.zero_le _, fun q h => absurd h (Nat.not_lt_zero q)⟩ (by simp [C]; omega) ?_
  rintro j sl ob ⟨hj, hno⟩
  (try dsimp only [cond_true, cond_false])
  (conv => whnf)
  by_cases hjl : j < W.length
  · have hxj := hx j hjl
    have e4 : (List.map rItem (rd W j)).length = (rd W j).length := by simp
    repeat' ((with_reducible (first | refine st20 ?_|refine fG.split (fun _ => ?_) (fun _ => ?_)|refine fG.bool (fun _ => ?_) (fun _ => ?_))) <;> (try (conv => whnf)))
    refine loop_rule (ι := Nat) (fun i => [(1, .pt 1 1 0 [] 0 0), (3, i64 (j : Nat)), (4, i64 (i : Nat))])
      (fun _ => [(1000000, ⟨0, 0, false, tInsSS P⟩), (1000001, ⟨0, 0, false, tStateS S⟩), (1000002, ⟨0, 0, false, tItemSS W⟩), (1000003, ⟨0, 0, false, tEventSS H⟩), (1, ⟨1, 0, false, bSys P S W H⟩)])
      (fun i => (rd W j).length - i) (fun i => i ≤ (rd W j).length ∧ ∀ q, q < i → (rd (rd W j) q).mark = false) 0 fitOk ⟨Nat.zero_le _, fun q h => absurd h (Nat.not_lt_zero q)⟩ (by simp [C]; omega) ?_
    clear sl ob
    rintro i sl ob ⟨hi, hni⟩
    (try dsimp only [cond_true, cond_false])
    (conv => whnf)
    by_cases hil : i < (rd W j).length
    · cases e : (rd (rd W j) i).mark
      · repeat' ((with_reducible (first | refine st20 ?_|refine fG.split (fun _ => ?_) (fun _ => ?_)|refine fG.bool (fun _ => ?_) (fun _ => ?_))) <;> (try (conv => whnf)))
        all_goals first
          | (exfalso; simp_all; done)
          | (refine ⟨⟨i + 1, fitOk, ?_, ?_⟩⟩
             · exact ⟨by show i + 1 ≤ _; omega, fun q hq => by rcases Nat.lt_succ_iff_lt_or_eq.1 hq with h | h; exact hni q h; rw [h]; exact e⟩
             · show (rd W j).length - (i + 1) < (rd W j).length - i; omega)
      · rw [show marksB W = true from any_yes hjl (by unfold markedB; exact any_yes hil e)]
        repeat' ((with_reducible (first | refine st20 ?_|refine fG.split (fun _ => ?_) (fun _ => ?_)|refine fG.bool (fun _ => ?_) (fun _ => ?_))) <;> (try (conv => whnf)))
        all_goals (exfalso; simp_all; done)
    · repeat' ((with_reducible (first | refine st20 ?_|refine fG.split (fun _ => ?_) (fun _ => ?_)|refine fG.bool (fun _ => ?_) (fun _ => ?_))) <;> (try (conv => whnf)))
      refine ⟨⟨j + 1, fitOk, ?_, ?_⟩⟩
      · exact ⟨by show j + 1 ≤ _; omega, fun q hq => by rcases Nat.lt_succ_iff_lt_or_eq.1 hq with h | h; exact hno q h; rw [h]; exact any_no fun i hi => hni i (by omega)⟩
      · show W.length - (j + 1) < W.length - j; omega
  · rw [show marksB W = false from any_no fun q hq => hno q (by omega)]
    repeat' ((with_reducible (first | refine st20 ?_|refine fG.split (fun _ => ?_) (fun _ => ?_)|refine fG.bool (fun _ => ?_) (fun _ => ?_))) <;> (try (conv => whnf)))

end Go.Proofs.YtipfcgbhaalcdaaGreat.Abs
namespace Go.Proofs.YtipfcgbhaalcdaaGreat.Abs
open Go Go.Proofs
set_option linter.unusedVariables false
set_option linter.unusedSimpArgs false
attribute [local irreducible] callE
def cutOk (H : List (List Event)) (cut : List Int) (opn : List Bool) (kept : List (List Int)) (n p : Nat) : Bool :=
  inB (rd cut p) (-1) (rd H p).length && (decide (0 ≤ rd cut p) || allBelow n fun a => !(rd opn (a * n + p)) && decide ((rd kept (a * n + p)).length = 0))
def shotLens (n : Nat) (cut : List Int) (opn : List Bool) (kept : List (List Int)) : Bool := decide (cut.length = n) && (decide (opn.length = n * n) && decide (kept.length = n * n))
def drawnB (cut : List Int) : Bool := cut.any fun c => decide (0 ≤ c)
def liveOk (P : List (List Ins)) (S : List State) (W : List (List Item)) (H : List (List Event)) (on : Bool) (cut : List Int) (opn : List Bool) (kept : List (List Int)) : Bool :=
  sysOk P S W H && (shotLens P.length cut opn kept && (allBelow P.length (cutOk H cut opn kept P.length) && (decide (on = drawnB cut) && (on || !marksB W))))
abbrev bLive (P : List (List Ins)) (S : List State) (W : List (List Item)) (H : List (List Event)) (on : Bool) (cut : List Int) (opn : List Bool) (kept : List (List Int)) : Cont :=
  .box [.h 1000000 0 0 [] 1 0 P.length, .h 1000001 0 0 [] 4 0 S.length, .h 1000002 0 0 [] 1 0 W.length, .h 1000003 0 0 [] 1 0 H.length, bl on, .h 1000004 0 0 [] 1 0 cut.length, .h 1000005 0 0 [] 1 0 opn.length, .h 1000006 0 0 [] 1 0 kept.length]
structure LV where
  j : Nat
  s : Bool
end Go.Proofs.YtipfcgbhaalcdaaGreat.Abs
namespace Go.Proofs.YtipfcgbhaalcdaaGreat.Abs
open Go Go.Proofs
set_option linter.unusedVariables false
set_option linter.unusedSimpArgs false
attribute [local irreducible] callE
def vb (m : Nat) : List Int := if 127 < m then ((m % 128 + 128 : Nat) : Int) :: vb (m / 128) else [(m : Int)]
termination_by m
theorem vb_more {m : Nat} (h : 127 < m) : vb m = ((m % 128 + 128 : Nat) : Int) :: vb (m / 128) := by rw [vb, if_pos h]
theorem vb_last {m : Nat} (h : ¬ 127 < m) : vb m = [(m : Int)] := by rw [vb, if_neg h]
def zig (x : Int) : Nat := (if x < 0 then -2 * x - 1 else 2 * x).toNat
def putNum (x : Int) : List Int := if -2000000000 ≤ x ∧ x ≤ 2000000000 then vb (zig x) else []
theorem zig_le {x : Int} (h : -2000000000 ≤ x ∧ x ≤ 2000000000) : zig x ≤ 4000000000 := by unfold zig; split <;> omega
theorem and127 {m : Nat} (h : m < 4611686018427387904) : Go.bits .and .i64 (m : Int) 127 = ((m % 128 : Nat) : Int) := by
  have hw : ∀ n : Int, 0 ≤ n → n < 2 ^ 62 → IntKind.i64.wrap n = n := by intro n h0 h1; rw [IntKind.wrap_i64]; omega
  have := bits_mask .i64 62 (by decide) hw 7 (by decide) (m : Int) (by omega) (by omega)
  have e : ((2 : Int) ^ 7 - 1) = 127 := by decide
  rw [e] at this
  rw [this]; simp
theorem or128 {x : Nat} (h : x < 128) : Go.bits .or .i64 (x : Int) 128 = ((x + 128 : Nat) : Int) := by
  have hw : ∀ n : Int, 0 ≤ n → n < 2 ^ 62 → IntKind.i64.wrap n = n := by intro n h0 h1; rw [IntKind.wrap_i64]; omega
  have := (bits_nat .i64 62 (by decide) hw x 128 (by omega) (by omega)).2
  rw [show ((128 : Nat) : Int) = 128 from rfl] at this
  rw [this]
  congr 1
  have h2 := Nat.two_pow_add_eq_or_of_lt (i := 7) (b := x) (by omega) 1
  rw [Nat.or_comm]; simpa [Nat.add_comm] using h2.symm
structure PN where
  l : List Int
  n : Nat
  o : Nat
  bb : Nat
set_option maxRecDepth 20000 in
theorem ok_impl_PutNum (k : Nat) (x : Int) : callE PR C (k + 2) 225 [i64 x] [] = some ⟨.h 2000000 1 0 [] 1 0 (putNum x).length, [.tree 9 (.sl 1 ((putNum x).map rB))], []⟩ := by
  have hz : ((zig x : Nat) : Int) = if x < 0 then -2 * x - 1 else 2 * x := by unfold zig; split <;> omega
  have q1 := fun k => ok_impl_in k x (-2000000000) 2000000000
  by_cases hx : -2000000000 ≤ x ∧ x ≤ 2000000000
  · rw [decide_eq_true hx] at q1
    have hl := zig_le hx
    rw [putNum, if_pos hx]
    by_cases hn : x < 0
    all_goals (first | rw [if_pos hn] at hz | rw [if_neg hn] at hz)
    all_goals (refine fnI [ResultVar.tmp 2] Tryz.func225 ?_; conv => whnf)
    all_goals repeat' ((with_reducible (first | refine sCall.of (q1 _) ?_|refine st20 ?_|refine fG.split (fun _ => ?_) (fun _ => ?_)|refine fG.bool (fun _ => ?_) (fun _ => ?_))) <;> (try (conv => whnf)))
    all_goals
      refine loop_rule (ι := PN) (fun y => [(3, i64 (y.n : Nat)), (4, .h y.o y.bb 0 [] 1 0 y.l.length)])
        (fun y => [(y.o, ⟨y.bb, 0, false, .tree 9 (.sl 1 (y.l.map rB))⟩)]) (fun y => y.n) (fun y => y.l.length + y.n ≤ zig x ∧ (y.o = 15 ∨ y.o = 24) ∧ y.l ++ vb y.n = vb (zig x))
        ⟨[], zig x, 15, _⟩ ⟨⟨by rw [hz]; rfl, rfl, trivial⟩, ⟨rfl, trivial⟩⟩ ⟨by simp, .inl rfl, by simp⟩ (by simp [C]; omega) ?_
      rintro ⟨out, n, o, bb⟩ sl ob ⟨hle, ho, hv⟩
      dsimp only at hle ho hv
      have w1 := @and127 n (by omega)
      have w2 := @or128 (n % 128) (by omega)
      have w3 : (n : Int).fdiv (2 ^ min (7 : Int).toNat IntKind.i64.bits) = ((n / 128 : Nat) : Int) := by
        rw [Int.fdiv_eq_ediv_of_nonneg _ (by decide)]
        show (n : Int) / 128 = _
        omega
      rcases ho with rfl | rfl
      all_goals (try dsimp only [cond_true, cond_false])
      all_goals (conv => whnf)
      all_goals repeat' ((with_reducible (first | refine sZ.eq (w1) ?_|refine sZ.eq (w2) ?_|refine sZ.eq (w3) ?_|refine st20 ?_|refine fG.split (fun _ => ?_) (fun _ => ?_)|refine fG.bool (fun _ => ?_) (fun _ => ?_))) <;> (try (conv => whnf)))
      all_goals first
        | (refine ⟨⟨⟨out ++ [((n % 128 + 128 : Nat) : Int)], n / 128, 24, _⟩, fitOk, ?_, ?_⟩⟩
           · exact ⟨by show List.length _ + n / 128 ≤ _; simp; omega, .inr rfl, by show _ ++ vb (n / 128) = _; rw [vb_more (by omega : 127 < n)] at hv; simpa using hv⟩
           · show n / 128 < n; omega)
        | (rw [vb_last (m := n) (by omega)] at hv
           rw [← hv])
        | skip
  · rw [decide_eq_false hx] at q1
    rw [putNum, if_neg hx]
    (refine fnI [ResultVar.tmp 2] Tryz.func225 ?_; conv => whnf)
    repeat' ((with_reducible (first | refine sCall.of (q1 _) ?_|refine st20 ?_|refine fG.split (fun _ => ?_) (fun _ => ?_)|refine fG.bool (fun _ => ?_) (fun _ => ?_))) <;> (try (conv => whnf)))
    all_goals rfl
set_option maxRecDepth 20000 in
theorem ok_spec_PutNum (k : Nat) (x : Int) : callE PR C (k + 2) 123 [i64 x] [] = some ⟨.h 2000000 1 0 [] 1 0 (putNum x).length, [.tree 9 (.sl 1 ((putNum x).map rB))], []⟩ := by
  have hz : ((zig x : Nat) : Int) = if x < 0 then -2 * x - 1 else 2 * x := by unfold zig; split <;> omega
  have q1 := fun k => ok_spec_l1In k x (-2000000000) 2000000000
  by_cases hx : -2000000000 ≤ x ∧ x ≤ 2000000000
  · rw [decide_eq_true hx] at q1
    have hl := zig_le hx
    rw [putNum, if_pos hx]
    by_cases hn : x < 0
    all_goals (first | rw [if_pos hn] at hz | rw [if_neg hn] at hz)
    all_goals (refine fnI [ResultVar.tmp 2] Tryz.func123 ?_; conv => whnf)
    all_goals repeat' ((with_reducible (first | refine sCall.of (q1 _) ?_|refine st20 ?_|refine fG.split (fun _ => ?_) (fun _ => ?_)|refine fG.bool (fun _ => ?_) (fun _ => ?_))) <;> (try (conv => whnf)))
    all_goals
      refine loop_rule (ι := PN) (fun y => [(3, .h y.o y.bb 0 [] 1 0 y.l.length), (4, i64 (y.n : Nat))])
        (fun y => [(y.o, ⟨y.bb, 0, false, .tree 9 (.sl 1 (y.l.map rB))⟩)]) (fun y => y.n) (fun y => y.l.length + y.n ≤ zig x ∧ (y.o = 5 ∨ y.o = 25) ∧ y.l ++ vb y.n = vb (zig x))
        ⟨[], zig x, 5, _⟩ ⟨⟨rfl, by rw [hz]; rfl, trivial⟩, ⟨rfl, trivial⟩⟩ ⟨by simp, .inl rfl, by simp⟩ (by simp [C]; omega) ?_
      rintro ⟨out, n, o, bb⟩ sl ob ⟨hle, ho, hv⟩
      dsimp only at hle ho hv
      have w1 : (n : Int).tmod 128 = ((n % 128 : Nat) : Int) := by rw [Int.tmod_eq_emod_of_nonneg (by omega)]; omega
      have w2 : IntKind.i64.wrap (((n % 128 : Nat) : Int) + 128) = ((n % 128 + 128 : Nat) : Int) := by rw [wrap_i64 _ (by omega) (by omega)]; omega
      have w3 : (n : Int).tdiv 128 = ((n / 128 : Nat) : Int) := by rw [Int.tdiv_eq_ediv_of_nonneg (by omega)]; omega
      rcases ho with rfl | rfl
      all_goals (try dsimp only [cond_true, cond_false])
      all_goals (conv => whnf)
      all_goals repeat' ((with_reducible (first | refine sZ.eq (w1) ?_|refine sW.eq (w2) ?_|refine sZ.eq (w3) ?_|refine st20 ?_|refine fG.split (fun _ => ?_) (fun _ => ?_)|refine fG.bool (fun _ => ?_) (fun _ => ?_))) <;> (try (conv => whnf)))
      all_goals first
        | (refine ⟨⟨⟨out ++ [((n % 128 + 128 : Nat) : Int)], n / 128, 25, _⟩, fitOk, ?_, ?_⟩⟩
           · exact ⟨by show List.length _ + n / 128 ≤ _; simp; omega, .inr rfl, by show _ ++ vb (n / 128) = _; rw [vb_more (by omega : 127 < n)] at hv; simpa using hv⟩
           · show n / 128 < n; omega)
        | (rw [vb_last (m := n) (by omega)] at hv
           rw [← hv])
        | skip
  · rw [decide_eq_false hx] at q1
    rw [putNum, if_neg hx]
    (refine fnI [ResultVar.tmp 2] Tryz.func123 ?_; conv => whnf)
    repeat' ((with_reducible (first | refine sCall.of (q1 _) ?_|refine st20 ?_|refine fG.split (fun _ => ?_) (fun _ => ?_)|refine fG.bool (fun _ => ?_) (fun _ => ?_))) <;> (try (conv => whnf)))
    all_goals rfl

def unz (m : Nat) : Int := if m % 2 = 1 then -(((m + 1) / 2 : Nat) : Int) else ((m / 2 : Nat) : Int)
def gotNum (p k M : Nat) (v : Int) : Int × Int × Bool := if (v = 0 ∧ 0 < k) ∨ ¬ (-2000000000 ≤ unz M ∧ unz M ≤ 2000000000) then (0, 0, false) else (unz M, (p : Int) + k + 1, true)
def getGo (b : List Int) (p : Nat) : Nat → Nat → Nat → Int × Int × Bool
  | 0, _, _ => (0, 0, false)
  | f + 1, m, k => if p + k < b.length then
      (if 127 < rd b (p + k) then getGo b p f (m + (rd b (p + k)).toNat % 128 * 2 ^ (7 * k)) (k + 1) else gotNum p k (m + (rd b (p + k)).toNat % 128 * 2 ^ (7 * k)) (rd b (p + k)))
    else (0, 0, false)
def getNum (b : List Int) (p : Int) : Int × Int × Bool := if 0 ≤ p ∧ p ≤ b.length then getGo b p.toNat 5 0 0 else (0, 0, false)
structure GN (v : Int) (m kk M : Nat) : Prop where
  lt : M < 34359738368
  wA : Go.bits .and .i64 v 127 = ((v.toNat % 128 : Nat) : Int)
  wR : v.tmod 128 = ((v.toNat % 128 : Nat) : Int)
  wS : IntKind.i64.wrap (((v.toNat % 128 : Nat) : Int) * 2 ^ min (7 * (kk : Int)).toNat IntKind.i64.bits) = ((v.toNat % 128 * 2 ^ (7 * kk) : Nat) : Int)
  wO : Go.bits .or .i64 (m : Int) ((v.toNat % 128 * 2 ^ (7 * kk) : Nat) : Int) = (M : Int)
  nx : M < 2 ^ (7 * (kk + 1))
  half : (M : Int).tdiv 2 = ((M / 2 : Nat) : Int)
  odd : (M : Int).tmod 2 = ((M % 2 : Nat) : Int)
  neg : (0 - ((M : Int) + 1)).tdiv 2 = -(((M + 1) / 2 : Nat) : Int)
structure GS where
  k : Nat
  m : Nat
theorem vb_len (j : Nat) : ∀ m, m < 128 ^ (j + 1) → (vb m).length ≤ j + 1 := by
  induction j with
  | zero => intro m h; rw [vb_last (by omega)]; simp
  | succ j ih =>
    intro m h
    by_cases h1 : 127 < m
    · rw [vb_more h1, List.length_cons]
      have := ih (m / 128) (by rw [Nat.pow_succ] at h; omega)
      omega
    · rw [vb_last h1]; simp
theorem putNum_five (x : Int) : (putNum x).length ≤ 5 := by
  unfold putNum
  split
  · exact vb_len 4 _ (by have := zig_le (x := x) (by assumption); omega)
  · simp
end Go.Proofs.YtipfcgbhaalcdaaGreat.Abs
namespace Go.Proofs.YtipfcgbhaalcdaaGreat.Abs
open Go Go.Proofs
set_option linter.unusedVariables false
set_option linter.unusedSimpArgs false
attribute [local irreducible] callE
def numsB (l : List Int) : List Int := l.flatMap putNum
theorem numsB_app (a b : List Int) : numsB (a ++ b) = numsB a ++ numsB b := by simp [numsB]
theorem numsB_cons (x : Int) (b : List Int) : numsB (x :: b) = putNum x ++ numsB b := by simp [numsB]
theorem numsB_snoc (a : List Int) (x : Int) : numsB (a ++ [x]) = numsB a ++ putNum x := by simp [numsB]
theorem numsB_len : ∀ l : List Int, (numsB l).length ≤ 5 * l.length
  | [] => by simp [numsB]
  | x :: l => by
    have h1 := numsB_len l
    have h2 := putNum_five x
    rw [numsB_cons, List.length_append, List.length_cons]
    omega
def insNums (x : Ins) : List Int := [x.op, x.r, x.a, x.b, x.n]
def evNums (e : Event) : List Int := [e.kind, e.peer, e.v]
def progNums (l : List Ins) : List Int := (l.length : Int) :: l.flatMap insNums
def histNums (l : List Event) : List Int := (l.length : Int) :: l.flatMap evNums
def preNums (P : List (List Ins)) (H : List (List Event)) (p : Nat) : List Int := (P.length : Int) :: (List.range p).flatMap fun q => progNums (rd P q) ++ histNums (rd H q)
def sysNums (P : List (List Ins)) (H : List (List Event)) : List Int := preNums P H P.length
theorem preNums_succ (P : List (List Ins)) (H : List (List Event)) (p : Nat) : preNums P H (p + 1) = preNums P H p ++ (progNums (rd P p) ++ histNums (rd H p)) := by
  simp [preNums, List.range_succ]
theorem take_flat {α : Type} [Inhabited α] (g : α → List Int) {l : List α} {i : Nat} (h : i < l.length) : (l.take (i + 1)).flatMap g = (l.take i).flatMap g ++ g (rd l i) := by
  have e : l.take (i + 1) = l.take i ++ [rd l i] := by
    rw [List.take_add_one]
    simp [rd, h]
  rw [e, List.flatMap_append]
  simp
theorem flat_len {α : Type} (g : α → List Int) (k : Nat) (hg : ∀ x, (g x).length = k) : ∀ l : List α, (l.flatMap g).length = k * l.length
  | [] => by simp
  | x :: l => by rw [List.flatMap_cons, List.length_append, flat_len g k hg l, hg, List.length_cons, Nat.mul_succ]; omega
theorem progNums_len (l : List Ins) : (progNums l).length = 5 * l.length + 1 := by rw [progNums, List.length_cons, flat_len insNums 5 (fun _ => rfl)]
theorem histNums_len (l : List Event) : (histNums l).length = 3 * l.length + 1 := by rw [histNums, List.length_cons, flat_len evNums 3 (fun _ => rfl)]
theorem preNums_len (P : List (List Ins)) (H : List (List Event)) (hp : ∀ p, p < P.length → (rd P p).length ≤ 30) (hh : ∀ p, p < P.length → (rd H p).length ≤ 200) : ∀ p, p ≤ P.length → (preNums P H p).length ≤ 1 + 1000 * p
  | 0, _ => by simp [preNums]
  | p + 1, h => by
    have h1 := preNums_len P H hp hh p (by omega)
    have h2 := hp p (by omega)
    have h3 := hh p (by omega)
    rw [preNums_succ, List.length_append, List.length_append, progNums_len, histNums_len]
    omega
def packOk (P : List (List Ins)) (S : List State) (W : List (List Item)) (H : List (List Event)) : Bool := sysOk P S W H && !marksB W
def packB (P : List (List Ins)) (H : List (List Event)) : List Int := numsB (sysNums P H)

def numP (b : List Int) (p : Nat) : Option (Int × Nat) := if (getNum b p).2.2 = true then some ((getNum b p).1, (getNum b p).2.1.toNat) else none
def cntP (r : Bool) (b : List Int) (p : Nat) (most : Int) : Option (Int × Nat) := (numP b p).bind fun x => if r = true ∧ ¬ (0 ≤ x.1 ∧ x.1 ≤ most) then none else some x
def insP (b : List Int) (p : Nat) : Option (Ins × Nat) := (numP b p).bind fun x0 => (numP b x0.2).bind fun x1 => (numP b x1.2).bind fun x2 => (numP b x2.2).bind fun x3 => (numP b x3.2).bind fun x4 => some (⟨x0.1, x1.1, x2.1, x3.1, x4.1⟩, x4.2)
def evP (b : List Int) (p : Nat) : Option (Event × Nat) := (numP b p).bind fun x0 => (numP b x0.2).bind fun x1 => (numP b x1.2).bind fun x2 => some (⟨x0.1, x1.1, x2.1⟩, x2.2)
def listP {α : Type} (f : Nat → Option (α × Nat)) (p : Nat) : Nat → Option (List α × Nat)
  | 0 => some ([], p)
  | k + 1 => (listP f p k).bind fun x => (f x.2).bind fun y => some (x.1 ++ [y.1], y.2)
def procP (r : Bool) (b : List Int) (p : Nat) : Option ((List Ins × List Event) × Nat) :=
  (cntP r b p 30).bind fun m => (listP (insP b) m.2 m.1.toNat).bind fun l => (cntP r b l.2 200).bind fun m' => (listP (evP b) m'.2 m'.1.toNat).bind fun e => some ((l.1, e.1), e.2)
def sysP (r : Bool) (b : List Int) : Option (List (List Ins × List Event) × Nat) := (cntP r b 0 4).bind fun n => listP (procP r b) n.2 n.1.toNat
def Seg (b : List Int) (p q : Nat) (l : List Int) : Prop := p ≤ q ∧ q ≤ b.length ∧ (b.drop p).take (q - p) = numsB l
theorem Seg.trans {b : List Int} {p q s : Nat} {l m : List Int} (h : Seg b p q l) (h2 : Seg b q s m) : Seg b p s (l ++ m) := by
  obtain ⟨a1, a2, a3⟩ := h
  obtain ⟨b1, b2, b3⟩ := h2
  refine ⟨by omega, b2, ?_⟩
  rw [numsB_app, ← a3, ← b3, show s - p = (q - p) + (s - q) by omega, List.take_add, List.drop_drop, show p + (q - p) = q by omega]
theorem Seg.nil {b : List Int} {p : Nat} (h : p ≤ b.length) : Seg b p p [] := ⟨Nat.le_refl _, h, by simp [numsB]⟩
def procNums (x : List Ins × List Event) : List Int := progNums x.1 ++ histNums x.2
def SmallN (l : List Int) : Prop := ∀ x ∈ l, -2000000000 ≤ x ∧ x ≤ 2000000000
theorem comes_v {l : List Ins} {s : State} {e : Event} (hs : SOk l.length s) (hi : IOk l.length (rd l s.at_.toNat)) (hc : comes e (next l s) = true) : -1000000000 ≤ e.v ∧ e.v ≤ 1000000000 := by
  have ha := hi.a
  have hr := hs.nums (rd l s.at_.toNat).a.toNat (by omega)
  by_cases h6 : (rd l s.at_.toNat).op = 6
  · have hn : next l s = ⟨2, (rd l s.at_.toNat).n, rd s.regs (rd l s.at_.toNat).a.toNat⟩ := by simp [next, h6]
    rw [hn, comes_other (by simp)] at hc
    simp at hc
    rw [hc.2.2]; exact hr
  · by_cases h7 : (rd l s.at_.toNat).op = 7
    · have hn : next l s = ⟨3, (rd l s.at_.toNat).n, 0⟩ := by simp [next, h7]
      rw [hn, comes_take] at hc
      exact hc.2.1
    · by_cases h8 : (rd l s.at_.toNat).op = 8
      · have hn : next l s = ⟨4, 0, rd s.regs (rd l s.at_.toNat).a.toNat⟩ := by simp [next, h8]
        rw [hn, comes_other (by simp)] at hc
        simp at hc
        rw [hc.2.2]; exact hr
      · have hn : next l s = ⟨1, 0, 0⟩ := by simp [next, h6, h7, h8]
        rw [hn, comes_other (by simp)] at hc
        simp at hc
        omega
theorem replay_v {l : List Ins} (hi : ∀ i, i < l.length → IOk l.length (rd l i)) : ∀ (es : List Event) {s s' : State}, SOk l.length s → replay l s es = some s' → ∀ e ∈ es, -1000000000 ≤ e.v ∧ e.v ≤ 1000000000
  | [], _, _, _, _ => by simp
  | e :: es, s, s', hs, h => by
    rw [replay] at h
    split at h
    · rename_i hc
      have h0 := hs.at0
      have h1 := hs.at1
      have hx := hi s.at_.toNat (by omega)
      intro x hx'
      rcases List.mem_cons.1 hx' with rfl | hm
      · exact comes_v hs hx hc.2
      · exact replay_v hi es (did_ok hs hx hc.2) h x hm
    · cases h
def pairsOf (P : List (List Ins)) (H : List (List Event)) : List (List Ins × List Event) := P.zip H
theorem sys_numbers {P : List (List Ins)} {S : List State} {W : List (List Item)} {H : List (List Event)} (h : sysOk P S W H = true) : ∀ p, p < P.length → (rd P p).length ≤ 30 ∧ (rd H p).length ≤ 200 ∧ SmallN (progNums (rd P p)) ∧ SmallN (histNums (rd H p)) := by
  simp only [sysOk, Bool.and_eq_true, allBelow_eq] at h
  intro p hp
  have h1 := h.2.2.1 p hp
  simp only [procOk, Bool.and_eq_true] at h1
  obtain ⟨e1, e2, e3, e4, e5⟩ := stood_evOk h1.2.2
  have hl := progOk_len e3
  have hv := replay_v (fun i hi => progOk_iok e3 hi) _ (newState_ok hl.1) e5
  refine ⟨hl.2, e4, fun x hx => ?_, fun x hx => ?_⟩
  · rcases List.mem_cons.1 hx with rfl | hx
    · omega
    · rw [List.mem_flatMap] at hx
      obtain ⟨i, hi, hx⟩ := hx
      obtain ⟨j, hj, rfl⟩ := mem_rd hi
      have hio := progOk_iok e3 hj
      have k1 := hio.r
      have k2 := hio.a
      have k3 := hio.b
      have k4 := hio.op
      have k5 := hio.num
      simp only [insNums, List.mem_cons, List.not_mem_nil, or_false] at hx
      omega
  · rcases List.mem_cons.1 hx with rfl | hx
    · omega
    · rw [List.mem_flatMap] at hx
      obtain ⟨i, hi, hx⟩ := hx
      have k1 := (e1 i hi).kind
      have k2 := (e1 i hi).peer
      have k3 := hv i hi
      simp only [evNums, List.mem_cons, List.not_mem_nil, or_false] at hx
      omega
def unzP (l : List (List Ins × List Event)) : List (List Ins) := l.map Prod.fst
def unzH (l : List (List Ins × List Event)) : List (List Event) := l.map Prod.snd
def goodP (b : List Int) (l : List (List Ins × List Event)) (q : Nat) : Bool := decide (q = b.length) && (decide (packB (unzP l) (unzH l) = b) && sysOk (unzP l) (stsOf (unzP l) (unzH l)) (waysOf (unzH l) (unzP l).length) (unzH l))
def unpackIs (b : List Int) : Sys × Bool := match sysP false b with
  | some x => if goodP b x.1 x.2 = true then (atSys (unzP x.1) (unzH x.1), true) else (⟨[], [], [], []⟩, false)
  | none => (⟨[], [], [], []⟩, false)
abbrev tB9 (b : List Int) : Cont := .tree 9 (.sl 1 (b.map rB))
structure PA where
  j : Nat
  l : List Int
  v : AV
  b : Nat
  g0 : Nat
  d0 : Bool
  c0 : Cont
  g : Nat
  d : Bool
  c : Cont
set_option maxRecDepth 20000 in
set_option maxHeartbeats 8000000 in
theorem ok_impl_putAll (k : Nat) (b l : List Int) (hb : b.length ≤ 1000000) (hl : l.length ≤ 1000) (h0 : 0 < l.length) :
    callE PR C (k + 3) 129 [.h 1000000 0 0 [] 1 0 b.length, .h 1000001 0 0 [] 1 0 l.length] [tB9 b, tI l] = some ⟨.h 2000000 1 0 [] 1 0 (b ++ numsB l).length, [tB9 (b ++ numsB l)], [some .dead, none]⟩ := by
  (refine fnI [ResultVar.tmp 4] Tryz.func129 ?_; conv => whnf)
  refine loop_rule (ι := PA) (fun z => [(0, z.v), (7, .h 1000001 0 0 [] 1 0 l.length), (8, i64 l.length), (9, i64 (z.j : Nat))])
    (fun z => [(1000000, ⟨0, z.g0, z.d0, z.c0⟩), (1000001, ⟨0, 0, false, tI l⟩), (16, ⟨z.b, z.g, z.d, z.c⟩)])
    (fun z => l.length - z.j) (fun z => z.j ≤ l.length ∧ z.l = b ++ numsB (l.take z.j) ∧ ((z.j = 0 ∧ (z.v = .h 1000000 0 0 [] 1 0 b.length ∧ z.c0 = tB9 b) ∧ z.g0 = 0 ∧ z.d0 = false) ∨ (0 < z.j ∧ z.v = .h 16 z.b 0 [] 1 0 z.l.length ∧ z.c0 = .dead ∧ z.c = tB9 z.l ∧ z.g = 0 ∧ z.d = false)))
    ⟨0, b, _, _, _, _, _, _, _, _⟩ fitOk ⟨Nat.zero_le _, by simp [numsB], .inl ⟨rfl, ⟨rfl, rfl⟩, rfl, rfl⟩⟩ (by simp [C]; omega) ?_
  rintro ⟨j, x, v, bb, g0, d0, c0, g, d, c⟩ sl ob ⟨hj, hx, hv⟩
  dsimp only at hj hx hv
  have hxl : x.length ≤ 1006000 := by
    rw [hx, List.length_append]
    have h1 := numsB_len (l.take j)
    rw [List.length_take] at h1
    omega
  by_cases hjl : j < l.length
  · have q1 := fun k => ok_impl_PutNum k (rd l j)
    have h5 := putNum_five (rd l j)
    have hn : x ++ putNum (rd l j) = b ++ numsB (l.take (j + 1)) := by rw [hx, take_rd hjl, numsB_snoc, List.append_assoc]
    rcases hv with ⟨e0, ⟨e1, e2⟩, e3, e4⟩ | ⟨e0, e1, e2, e3, e4, e5⟩
    · subst e0 e1 e2 e3 e4
      have hxb : x = b := by rw [hx]; simp [numsB]
      rw [hxb] at hn
      (try dsimp only [cond_true, cond_false])
      (conv => whnf)
      repeat' ((with_reducible (first | refine sCall.of (q1 _) ?_|refine st20 ?_|refine fG.split (fun _ => ?_) (fun _ => ?_)|refine fG.bool (fun _ => ?_) (fun _ => ?_))) <;> (try (conv => whnf)))
      refine ⟨⟨⟨0 + 1, b ++ putNum (rd l 0), _, _, _, _, _, _, _, _⟩, fitOk, ?_, ?_⟩⟩
      · exact ⟨by show 0 + 1 ≤ _; omega, hn, .inr ⟨by show 0 < 0 + 1; omega, rfl, rfl, rfl, rfl, rfl⟩⟩
      · show l.length - (0 + 1) < l.length - 0; omega
    · subst e1 e2 e3 e4 e5
      (try dsimp only [cond_true, cond_false])
      (conv => whnf)
      repeat' ((with_reducible (first | refine sCall.of (q1 _) ?_|refine st20 ?_|refine fG.split (fun _ => ?_) (fun _ => ?_)|refine fG.bool (fun _ => ?_) (fun _ => ?_))) <;> (try (conv => whnf)))
      refine ⟨⟨⟨j + 1, x ++ putNum (rd l j), _, _, _, _, _, _, _, _⟩, fitOk, ?_, ?_⟩⟩
      · exact ⟨by show j + 1 ≤ _; omega, hn, .inr ⟨by show 0 < j + 1; omega, rfl, rfl, rfl, rfl, rfl⟩⟩
      · show l.length - (j + 1) < l.length - j; omega
  · rcases hv with ⟨e0, _⟩ | ⟨e0, e1, e2, e3, e4, e5⟩
    · omega
    · subst e1 e2 e3 e4 e5
      rw [List.take_of_length_le (by omega)] at hx
      rw [← hx]
      (try dsimp only [cond_true, cond_false])
      (conv => whnf)
      repeat' ((with_reducible (first | refine st20 ?_|refine fG.split (fun _ => ?_) (fun _ => ?_)|refine fG.bool (fun _ => ?_) (fun _ => ?_))) <;> (try (conv => whnf)))
structure L14 where
  j : Nat
  l : List Int
  o : Nat
  b : Nat
set_option maxRecDepth 20000 in
theorem ok_spec_l14Nums (k : Nat) (l : List Int) (hl : l.length ≤ 1000) :
    callE PR C (k + 3) 124 [.h 1000000 0 0 [] 1 0 l.length] [tI l] = some ⟨.h 2000000 1 0 [] 1 0 (numsB l).length, [tB9 (numsB l)], [none]⟩ := by
  (refine fnI [ResultVar.tmp 2] Tryz.func124 ?_; conv => whnf)
  repeat' ((with_reducible (first | refine st20 ?_|refine fG.split (fun _ => ?_) (fun _ => ?_)|refine fG.bool (fun _ => ?_) (fun _ => ?_))) <;> (try (conv => whnf)))
  refine loop_rule (ι := L14) (fun z => [(0, .h 1000000 0 0 [] 1 0 l.length), (3, .h z.o z.b 0 [] 1 0 z.l.length), (4, i64 (z.j : Nat))])
    (fun z => [(1000000, ⟨0, 0, false, tI l⟩), (z.o, ⟨z.b, 0, false, tB9 z.l⟩)])
    (fun z => l.length - z.j) (fun z => z.j ≤ l.length ∧ z.l = numsB (l.take z.j) ∧ (z.o = 5 ∨ z.o = 18)) ⟨0, [], 5, _⟩ fitOk ⟨Nat.zero_le _, by simp [numsB], .inl rfl⟩ (by simp [C]; omega) ?_
  rintro ⟨j, x, o, bb⟩ sl ob ⟨hj, hx, ho⟩
  dsimp only at hj hx ho
  have hxl : x.length ≤ 1006000 := by
    rw [hx]
    have h1 := numsB_len (l.take j)
    rw [List.length_take] at h1
    omega
  by_cases hjl : j < l.length
  · have q1 := fun k => ok_spec_PutNum k (rd l j)
    have h5 := putNum_five (rd l j)
    have hn : x ++ putNum (rd l j) = numsB (l.take (j + 1)) := by rw [hx, take_rd hjl, numsB_snoc]
    rcases ho with rfl | rfl
    all_goals (try dsimp only [cond_true, cond_false])
    all_goals (conv => whnf)
    all_goals repeat' ((with_reducible (first | refine sCall.of (q1 _) ?_|refine st20 ?_|refine fG.split (fun _ => ?_) (fun _ => ?_)|refine fG.bool (fun _ => ?_) (fun _ => ?_))) <;> (try (conv => whnf)))
    all_goals
      refine ⟨⟨⟨j + 1, x ++ putNum (rd l j), 18, _⟩, fitOk, ?_, ?_⟩⟩
      · exact ⟨by show j + 1 ≤ _; omega, hn, .inr rfl⟩
      · show l.length - (j + 1) < l.length - j; omega
  · rw [List.take_of_length_le (by omega)] at hx
    rw [← hx]
    rcases ho with rfl | rfl
    all_goals (try dsimp only [cond_true, cond_false])
    all_goals (conv => whnf)
    all_goals repeat' ((with_reducible (first | refine st20 ?_|refine fG.split (fun _ => ?_) (fun _ => ?_)|refine fG.bool (fun _ => ?_) (fun _ => ?_))) <;> (try (conv => whnf)))

end Go.Proofs.YtipfcgbhaalcdaaGreat.Abs
namespace Go.Proofs.YtipfcgbhaalcdaaGreat.Abs
open Go Go.Proofs
set_option linter.unusedVariables false
set_option linter.unusedSimpArgs false
attribute [local irreducible] callE
structure PI where
  i : Nat
  l : List Int
  o : Nat
  b : Nat
noncomputable def packIs (P : List (List Ins)) (S : List State) (W : List (List Item)) (H : List (List Event)) : List Int := if packOk P S W H = true then packB P H else []
def packRes (L : List Int) (t : Bool) (b : List (Option Cont)) : Res := ⟨.tu [.h 2000000 1 0 [] 1 0 L.length, bl t], [tB9 L], b⟩
theorem small5 {l : List Int} {n : Nat} (h : l.length ≤ n) : (numsB l).length ≤ 5 * n := by have := numsB_len l; omega
theorem flat_take {α : Type} (g : α → List Int) (k : Nat) (hg : ∀ x, (g x).length = k) (l : List α) (i : Nat) : ((l.take i).flatMap g).length ≤ k * l.length := by
  rw [flat_len g k hg]
  exact Nat.mul_le_mul_left _ (by rw [List.length_take]; exact Nat.min_le_right _ _)
theorem packB_len {P : List (List Ins)} {S : List State} {W : List (List Item)} {H : List (List Event)} (hs : sysOk P S W H = true) : ∀ p, p ≤ P.length → (preNums P H p).length ≤ 4001 := fun p hp => by
  have hn := sys_numbers hs
  have := preNums_len P H (fun p hp => (hn p hp).1) (fun p hp => (hn p hp).2.1) p hp
  have := (sysOk_facts hs).1.n
  have h4 : 1000 * p ≤ 1000 * 4 := Nat.mul_le_mul_left _ (by omega)
  omega
set_option maxRecDepth 20000 in
set_option maxHeartbeats 16000000 in
theorem ok_impl_Pack (k : Nat) (P : List (List Ins)) (S : List State) (W : List (List Item)) (H : List (List Event)) (hb : SysB 10000000000 P S W H) :
    callE PR C (k + 12) 37 [aSys 0 P S W H] [tInsSS P, tStateS S, tItemSS W, tEventSS H] = some (packRes (packIs P S W H) (packOk P S W H) [none, none, none, none]) := by
  have q1 := fun k => ok_impl_SysOk k P S W H hb
  have q2 := fun k => ok_impl_marked k P S W H hb
  unfold packIs packOk packRes
  cases e : sysOk P S W H with
  | false =>
    simp only [e] at q1
    (refine fnI [ResultVar.tmp 2, ResultVar.tmp 3] Tryz.func37 ?_; conv => whnf)
    repeat' ((with_reducible (first | refine sCall.of (q1 _) ?_|refine st20 ?_|refine fG.split (fun _ => ?_) (fun _ => ?_)|refine fG.bool (fun _ => ?_) (fun _ => ?_))) <;> (try (conv => whnf)))
    all_goals rfl
  | true =>
  cases e2 : marksB W with
  | true =>
    simp only [e] at q1
    simp only [e2] at q2
    (refine fnI [ResultVar.tmp 2, ResultVar.tmp 3] Tryz.func37 ?_; conv => whnf)
    repeat' ((with_reducible (first | refine sCall.of (q1 _) ?_|refine sCall.of (q2 _) ?_|refine st20 ?_|refine fG.split (fun _ => ?_) (fun _ => ?_)|refine fG.bool (fun _ => ?_) (fun _ => ?_))) <;> (try (conv => whnf)))
    all_goals rfl
  | false =>
    simp only [e] at q1
    simp only [e2] at q2
    rw [show (if (true && !false) = true then packB P H else []) = packB P H from rfl, show (true && !false) = true from rfl]
    have hI := (sysOk_facts e).1
    have hN := hI.n
    have hHl := hI.h
    have hnum := sys_numbers e
    have hpre := packB_len e
    have q3 := fun k => ok_impl_putAll k [] [(P.length : Int)] (by simp) (by simp) (by simp)
    simp only [List.nil_append] at q3
    have hp5 := putNum_five (P.length : Int)
    (refine fnI [ResultVar.tmp 2, ResultVar.tmp 3] Tryz.func37 ?_; conv => whnf)
    repeat' ((with_reducible (first | refine sCall.of (q1 _) ?_|refine sCall.of (q2 _) ?_|refine sCall.of (q3 _) ?_|refine st20 ?_|refine fG.split (fun _ => ?_) (fun _ => ?_)|refine fG.bool (fun _ => ?_) (fun _ => ?_))) <;> (try (conv => whnf)))
    refine loop_rule (ι := PI) (fun z => [(1, .pt 1 1 0 [] 0 0), (4, .h z.o z.b 0 [] 1 0 z.l.length), (24, .h 1000000 0 0 [] 1 0 P.length), (25, i64 P.length), (26, i64 (z.i : Nat))]) (fun z => [(1000000, ⟨0, 0, false, tInsSS P⟩), (1000001, ⟨0, 0, false, tStateS S⟩), (1000002, ⟨0, 0, false, tItemSS W⟩), (1000003, ⟨0, 0, false, tEventSS H⟩), (1, ⟨1, 0, false, bSys P S W H⟩), (z.o, ⟨z.b, 0, false, tB9 z.l⟩)])
      (fun z => P.length - z.i) (fun z => z.i ≤ P.length ∧ z.l = numsB (preNums P H z.i) ∧ (z.o = 10022 ∨ z.o = 10064 ∨ z.o = 10083)) ⟨0, numsB [(P.length : Int)], 10022, _⟩ fitOk ⟨Nat.zero_le _, by simp [preNums, numsB], .inl rfl⟩ (by simp [C]; omega) ?_
    clear q1 q2 q3 hp5
    rintro ⟨j, x, o, bb⟩ sl ob ⟨hj, hx, ho⟩
    dsimp only at hj hx ho
    have hxl := small5 (hpre j hj)
    rw [← hx] at hxl
    by_cases hjl : j < P.length
    · obtain ⟨n1, n2, _, _⟩ := hnum j hjl
      have e4 : (List.map rIns (rd P j)).length = (rd P j).length := by simp
      have e5 : (List.map rEvent (rd H j)).length = (rd H j).length := by simp
      have qn := fun k => ok_impl_putAll k x [((rd P j).length : Int)] (by omega) (by simp) (by simp)
      have hs1 : x ++ numsB [((rd P j).length : Int)] = numsB (preNums P H j ++ ((rd P j).length : Int) :: ((rd P j).take 0).flatMap insNums) := by rw [numsB_app, ← hx]; simp [numsB]
      rcases ho with rfl | rfl | rfl
      all_goals (try dsimp only [cond_true, cond_false])
      all_goals (conv => whnf)
      all_goals repeat' ((with_reducible (first | refine sCall.of (qn _) ?_|refine st20 ?_|refine fG.split (fun _ => ?_) (fun _ => ?_)|refine fG.bool (fun _ => ?_) (fun _ => ?_))) <;> (try (conv => whnf)))
      all_goals
        refine loop_rule (ι := PI) (fun z => [(1, .pt 1 1 0 [] 0 0), (4, .h z.o z.b 0 [] 1 0 z.l.length), (5, i64 (j : Nat)), (24, .h 1000000 0 0 [] 1 0 P.length), (25, i64 P.length), (26, i64 (j : Nat)), (36, .h 1000000 0 0 [(j, 0)] 5 0 (List.map rIns (rd P j)).length), (37, i64 (List.map rIns (rd P j)).length), (38, i64 (z.i : Nat))]) (fun z => [(1000000, ⟨0, 0, false, tInsSS P⟩), (1000001, ⟨0, 0, false, tStateS S⟩), (1000002, ⟨0, 0, false, tItemSS W⟩), (1000003, ⟨0, 0, false, tEventSS H⟩), (1, ⟨1, 0, false, bSys P S W H⟩), (z.o, ⟨z.b, 0, false, tB9 z.l⟩)])
          (fun z => (rd P j).length - z.i) (fun z => z.i ≤ (rd P j).length ∧ z.l = numsB (preNums P H j ++ ((rd P j).length : Int) :: ((rd P j).take z.i).flatMap insNums) ∧ (z.o = 10035 ∨ z.o = 10054)) ⟨0, x ++ numsB [((rd P j).length : Int)], 10035, _⟩ fitOk ⟨Nat.zero_le _, hs1, .inl rfl⟩ (by simp [C]; omega) ?_
        clear qn sl ob
        rintro ⟨i, x1, o, bb⟩ sl ob ⟨hi, hx1, ho⟩
        dsimp only at hi hx1 ho
        have hx1l : x1.length ≤ 30000 := by
          have h1 := flat_take insNums 5 (fun _ => rfl) (rd P j) i
          have h2 := hpre j hj
          have h3 := small5 (l := preNums P H j ++ ((rd P j).length : Int) :: ((rd P j).take i).flatMap insNums) (n := 4200) (by rw [List.length_append, List.length_cons]; omega)
          rw [← hx1] at h3
          omega
        by_cases hil : i < (rd P j).length
        · have qn := fun k => ok_impl_putAll k x1 (insNums (rd (rd P j) i)) (by omega) (by simp [insNums]) (by simp [insNums])
          simp only [insNums] at qn
          have hs2 : x1 ++ numsB [(rd (rd P j) i).op, (rd (rd P j) i).r, (rd (rd P j) i).a, (rd (rd P j) i).b, (rd (rd P j) i).n] = numsB (preNums P H j ++ ((rd P j).length : Int) :: ((rd P j).take (i + 1)).flatMap insNums) := by
            rw [take_flat insNums hil, hx1, ← numsB_app, List.append_assoc, List.cons_append]; rfl
          rcases ho with rfl | rfl
          all_goals (try dsimp only [cond_true, cond_false])
          all_goals (conv => whnf)
          all_goals repeat' ((with_reducible (first | refine sCall.of (qn _) ?_|refine st20 ?_|refine fG.split (fun _ => ?_) (fun _ => ?_)|refine fG.bool (fun _ => ?_) (fun _ => ?_))) <;> (try (conv => whnf)))
          all_goals
            refine ⟨⟨⟨i + 1, x1 ++ numsB [(rd (rd P j) i).op, (rd (rd P j) i).r, (rd (rd P j) i).a, (rd (rd P j) i).b, (rd (rd P j) i).n], 10054, _⟩, fitOk, ?_, ?_⟩⟩
            · exact ⟨by show i + 1 ≤ _; omega, hs2, .inr rfl⟩
            · show (rd P j).length - (i + 1) < (rd P j).length - i; omega
        · rw [List.take_of_length_le (by omega)] at hx1
          have qn := fun k => ok_impl_putAll k x1 [((rd H j).length : Int)] (by omega) (by simp) (by simp)
          have hs3 : x1 ++ numsB [((rd H j).length : Int)] = numsB (preNums P H j ++ progNums (rd P j) ++ ((rd H j).length : Int) :: ((rd H j).take 0).flatMap evNums) := by rw [numsB_app, progNums, ← hx1]; simp [numsB]
          rcases ho with rfl | rfl
          all_goals (try dsimp only [cond_true, cond_false])
          all_goals (conv => whnf)
          all_goals repeat' ((with_reducible (first | refine sCall.of (qn _) ?_|refine st20 ?_|refine fG.split (fun _ => ?_) (fun _ => ?_)|refine fG.bool (fun _ => ?_) (fun _ => ?_))) <;> (try (conv => whnf)))
          all_goals
            refine loop_rule (ι := PI) (fun z => [(1, .pt 1 1 0 [] 0 0), (4, .h z.o z.b 0 [] 1 0 z.l.length), (24, .h 1000000 0 0 [] 1 0 P.length), (25, i64 P.length), (26, i64 (j : Nat)), (69, .h 1000003 0 0 [(j, 0)] 3 0 (List.map rEvent (rd H j)).length), (70, i64 (List.map rEvent (rd H j)).length), (71, i64 (z.i : Nat))]) (fun z => [(1000000, ⟨0, 0, false, tInsSS P⟩), (1000001, ⟨0, 0, false, tStateS S⟩), (1000002, ⟨0, 0, false, tItemSS W⟩), (1000003, ⟨0, 0, false, tEventSS H⟩), (1, ⟨1, 0, false, bSys P S W H⟩), (z.o, ⟨z.b, 0, false, tB9 z.l⟩)])
              (fun z => (rd H j).length - z.i) (fun z => z.i ≤ (rd H j).length ∧ z.l = numsB (preNums P H j ++ progNums (rd P j) ++ ((rd H j).length : Int) :: ((rd H j).take z.i).flatMap evNums) ∧ (z.o = 10064 ∨ z.o = 10083)) ⟨0, x1 ++ numsB [((rd H j).length : Int)], 10064, _⟩ fitOk ⟨Nat.zero_le _, hs3, .inl rfl⟩ (by simp [C]; omega) ?_
            clear qn sl ob
            rintro ⟨i, x2, o, bb⟩ sl ob ⟨hi, hx2, ho⟩
            dsimp only at hi hx2 ho
            have hx2l : x2.length ≤ 30000 := by
              have h1 := flat_take evNums 3 (fun _ => rfl) (rd H j) i
              have h2 := hpre j hj
              have h0 := progNums_len (rd P j)
              have h3 := small5 (l := preNums P H j ++ progNums (rd P j) ++ ((rd H j).length : Int) :: ((rd H j).take i).flatMap evNums) (n := 5000) (by rw [List.length_append, List.length_append, List.length_cons]; omega)
              rw [← hx2] at h3
              omega
            by_cases hil : i < (rd H j).length
            · have qn := fun k => ok_impl_putAll k x2 (evNums (rd (rd H j) i)) (by omega) (by simp [evNums]) (by simp [evNums])
              simp only [evNums] at qn
              have hs4 : x2 ++ numsB [(rd (rd H j) i).kind, (rd (rd H j) i).peer, (rd (rd H j) i).v] = numsB (preNums P H j ++ progNums (rd P j) ++ ((rd H j).length : Int) :: ((rd H j).take (i + 1)).flatMap evNums) := by
                rw [take_flat evNums hil, hx2, ← numsB_app, List.append_assoc, List.append_assoc, List.append_assoc, List.cons_append]; rfl
              rcases ho with rfl | rfl
              all_goals (try dsimp only [cond_true, cond_false])
              all_goals (conv => whnf)
              all_goals repeat' ((with_reducible (first | refine sCall.of (qn _) ?_|refine st20 ?_|refine fG.split (fun _ => ?_) (fun _ => ?_)|refine fG.bool (fun _ => ?_) (fun _ => ?_))) <;> (try (conv => whnf)))
              all_goals
                refine ⟨⟨⟨i + 1, x2 ++ numsB [(rd (rd H j) i).kind, (rd (rd H j) i).peer, (rd (rd H j) i).v], 10083, _⟩, fitOk, ?_, ?_⟩⟩
                · exact ⟨by show i + 1 ≤ _; omega, hs4, .inr rfl⟩
                · show (rd H j).length - (i + 1) < (rd H j).length - i; omega
            · rw [List.take_of_length_le (by omega)] at hx2
              have hs5 : x2 = numsB (preNums P H (j + 1)) := by rw [preNums_succ, hx2, histNums, List.append_assoc]
              rcases ho with rfl | rfl
              all_goals (try dsimp only [cond_true, cond_false])
              all_goals (conv => whnf)
              all_goals repeat' ((with_reducible (first | refine st20 ?_|refine fG.split (fun _ => ?_) (fun _ => ?_)|refine fG.bool (fun _ => ?_) (fun _ => ?_))) <;> (try (conv => whnf)))
              case' inl =>
                refine ⟨⟨⟨j + 1, x2, 10064, _⟩, fitOk, ?_, ?_⟩⟩
              case' inr =>
                refine ⟨⟨⟨j + 1, x2, 10083, _⟩, fitOk, ?_, ?_⟩⟩
              all_goals first
                | (show P.length - (j + 1) < P.length - j; omega)
                | exact ⟨by show j + 1 ≤ _; omega, hs5, .inr (.inl rfl)⟩
                | exact ⟨by show j + 1 ≤ _; omega, hs5, .inr (.inr rfl)⟩
    · have hjP : j = P.length := by omega
      subst hjP
      rw [show packB P H = x from hx.symm]
      rcases ho with rfl | rfl | rfl
      all_goals (try dsimp only [cond_true, cond_false])
      all_goals (conv => whnf)
      all_goals repeat' ((with_reducible (first | refine st20 ?_|refine fG.split (fun _ => ?_) (fun _ => ?_)|refine fG.bool (fun _ => ?_) (fun _ => ?_))) <;> (try (conv => whnf)))
set_option maxRecDepth 20000 in
set_option maxHeartbeats 16000000 in
theorem ok_spec_Pack (k : Nat) (P : List (List Ins)) (S : List State) (W : List (List Item)) (H : List (List Event)) (hb : SysB 10000000000 P S W H) :
    callE PR C (k + 8) 35 [aSys 0 P S W H] [tInsSS P, tStateS S, tItemSS W, tEventSS H] = some (packRes (packIs P S W H) (packOk P S W H) [none, none, none, none]) := by
  have q1 := fun k => ok_spec_SysOk k P S W H hb
  have q2 := fun k => ok_spec_l11Marks k P S W H hb
  unfold packIs packOk packRes
  cases e : sysOk P S W H with
  | false =>
    simp only [e] at q1
    (refine fnI [ResultVar.tmp 2, ResultVar.tmp 3] Tryz.func35 ?_; conv => whnf)
    repeat' ((with_reducible (first | refine sCall.of (q1 _) ?_|refine st20 ?_|refine fG.split (fun _ => ?_) (fun _ => ?_)|refine fG.bool (fun _ => ?_) (fun _ => ?_))) <;> (try (conv => whnf)))
    all_goals rfl
  | true =>
  cases e2 : marksB W with
  | true =>
    simp only [e] at q1
    simp only [e2] at q2
    (refine fnI [ResultVar.tmp 2, ResultVar.tmp 3] Tryz.func35 ?_; conv => whnf)
    repeat' ((with_reducible (first | refine sCall.of (q1 _) ?_|refine sCall.of (q2 _) ?_|refine st20 ?_|refine fG.split (fun _ => ?_) (fun _ => ?_)|refine fG.bool (fun _ => ?_) (fun _ => ?_))) <;> (try (conv => whnf)))
    all_goals rfl
  | false =>
    simp only [e] at q1
    simp only [e2] at q2
    rw [show (if (true && !false) = true then packB P H else []) = packB P H from rfl, show (true && !false) = true from rfl]
    have hI := (sysOk_facts e).1
    have hN := hI.n
    have hHl := hI.h
    have hnum := sys_numbers e
    have hpre := packB_len e
    have q3 := fun k => ok_spec_PutNum k (P.length : Int)
    have hp5 := putNum_five (P.length : Int)
    (refine fnI [ResultVar.tmp 2, ResultVar.tmp 3] Tryz.func35 ?_; conv => whnf)
    repeat' ((with_reducible (first | refine sCall.of (q1 _) ?_|refine sCall.of (q2 _) ?_|refine sCall.of (q3 _) ?_|refine st20 ?_|refine fG.split (fun _ => ?_) (fun _ => ?_)|refine fG.bool (fun _ => ?_) (fun _ => ?_))) <;> (try (conv => whnf)))
    refine loop_rule (ι := PI) (fun z => [(1, .pt 1 1 0 [] 0 0), (4, .h z.o z.b 0 [] 1 0 z.l.length), (5, i64 (z.i : Nat))]) (fun z => [(1000000, ⟨0, 0, false, tInsSS P⟩), (1000001, ⟨0, 0, false, tStateS S⟩), (1000002, ⟨0, 0, false, tItemSS W⟩), (1000003, ⟨0, 0, false, tEventSS H⟩), (1, ⟨1, 0, false, bSys P S W H⟩), (z.o, ⟨z.b, 0, false, tB9 z.l⟩)])
      (fun z => P.length - z.i) (fun z => z.i ≤ P.length ∧ z.l = numsB (preNums P H z.i) ∧ (z.o = 10021 ∨ z.o = 78 ∨ z.o = 106)) ⟨0, putNum (P.length : Int), 10021, _⟩ fitOk ⟨Nat.zero_le _, by simp [preNums, numsB], .inl rfl⟩ (by simp [C]; omega) ?_
    clear q1 q2 q3 hp5
    rintro ⟨j, x, o, bb⟩ sl ob ⟨hj, hx, ho⟩
    dsimp only at hj hx ho
    have hxl := small5 (hpre j hj)
    rw [← hx] at hxl
    by_cases hjl : j < P.length
    · obtain ⟨n1, n2, _, _⟩ := hnum j hjl
      have e4 : (List.map rIns (rd P j)).length = (rd P j).length := by simp
      have e5 : (List.map rEvent (rd H j)).length = (rd H j).length := by simp
      have qn := fun k => ok_spec_PutNum k ((List.map rIns (rd P j)).length : Int)
      have hn5 := putNum_five ((rd P j).length : Int)
      have hs1 : x ++ putNum ((rd P j).length : Int) = numsB (preNums P H j ++ ((rd P j).length : Int) :: ((rd P j).take 0).flatMap insNums) := by rw [numsB_app, ← hx]; simp [numsB]
      rcases ho with rfl | rfl | rfl
      all_goals (try dsimp only [cond_true, cond_false])
      all_goals (conv => whnf)
      all_goals repeat' ((with_reducible (first | refine sCall.of (qn _) ?_|refine st20 ?_|refine fG.split (fun _ => ?_) (fun _ => ?_)|refine fG.bool (fun _ => ?_) (fun _ => ?_))) <;> (try (conv => whnf)))
      all_goals
        refine loop_rule (ι := PI) (fun z => [(1, .pt 1 1 0 [] 0 0), (4, .h z.o z.b 0 [] 1 0 z.l.length), (5, i64 (j : Nat)), (6, i64 (z.i : Nat))]) (fun z => [(1000000, ⟨0, 0, false, tInsSS P⟩), (1000001, ⟨0, 0, false, tStateS S⟩), (1000002, ⟨0, 0, false, tItemSS W⟩), (1000003, ⟨0, 0, false, tEventSS H⟩), (1, ⟨1, 0, false, bSys P S W H⟩), (z.o, ⟨z.b, 0, false, tB9 z.l⟩)])
          (fun z => (rd P j).length - z.i) (fun z => z.i ≤ (rd P j).length ∧ z.l = numsB (preNums P H j ++ ((rd P j).length : Int) :: ((rd P j).take z.i).flatMap insNums) ∧ (z.o = 37 ∨ z.o = 69)) ⟨0, x ++ putNum ((rd P j).length : Int), 37, _⟩ fitOk ⟨Nat.zero_le _, hs1, .inl rfl⟩ (by simp [C]; omega) ?_
        clear qn sl ob
        rintro ⟨i, x1, o, bb⟩ sl ob ⟨hi, hx1, ho⟩
        dsimp only at hi hx1 ho
        have hx1l : x1.length ≤ 30000 := by
          have h1 := flat_take insNums 5 (fun _ => rfl) (rd P j) i
          have h2 := hpre j hj
          have h3 := small5 (l := preNums P H j ++ ((rd P j).length : Int) :: ((rd P j).take i).flatMap insNums) (n := 4200) (by rw [List.length_append, List.length_cons]; omega)
          rw [← hx1] at h3
          omega
        by_cases hil : i < (rd P j).length
        · have qn := fun k => ok_spec_l14Nums k (insNums (rd (rd P j) i)) (by simp [insNums])
          have hn5 := small5 (show (insNums (rd (rd P j) i)).length ≤ 5 from Nat.le_refl _)
          simp only [insNums, List.length_cons, List.length_nil, Nat.zero_add, Nat.reduceAdd] at qn hn5
          have hs2 : x1 ++ numsB [(rd (rd P j) i).op, (rd (rd P j) i).r, (rd (rd P j) i).a, (rd (rd P j) i).b, (rd (rd P j) i).n] = numsB (preNums P H j ++ ((rd P j).length : Int) :: ((rd P j).take (i + 1)).flatMap insNums) := by
            rw [take_flat insNums hil, hx1, ← numsB_app, List.append_assoc, List.cons_append]; rfl
          rcases ho with rfl | rfl
          all_goals (try dsimp only [cond_true, cond_false])
          all_goals (conv => whnf)
          all_goals repeat' ((with_reducible (first | refine sCall.of (qn _) ?_|refine st20 ?_|refine fG.split (fun _ => ?_) (fun _ => ?_)|refine fG.bool (fun _ => ?_) (fun _ => ?_))) <;> (try (conv => whnf)))
          all_goals
            refine ⟨⟨⟨i + 1, x1 ++ numsB [(rd (rd P j) i).op, (rd (rd P j) i).r, (rd (rd P j) i).a, (rd (rd P j) i).b, (rd (rd P j) i).n], 69, _⟩, fitOk, ?_, ?_⟩⟩
            · exact ⟨by show i + 1 ≤ _; omega, hs2, .inr rfl⟩
            · show (rd P j).length - (i + 1) < (rd P j).length - i; omega
        · rw [List.take_of_length_le (by omega)] at hx1
          have qn := fun k => ok_spec_PutNum k ((List.map rEvent (rd H j)).length : Int)
          have hn5 := putNum_five ((rd H j).length : Int)
          have hs3 : x1 ++ putNum ((rd H j).length : Int) = numsB (preNums P H j ++ progNums (rd P j) ++ ((rd H j).length : Int) :: ((rd H j).take 0).flatMap evNums) := by rw [numsB_app, progNums, ← hx1]; simp [numsB]
          rcases ho with rfl | rfl
          all_goals (try dsimp only [cond_true, cond_false])
          all_goals (conv => whnf)
          all_goals repeat' ((with_reducible (first | refine sCall.of (qn _) ?_|refine st20 ?_|refine fG.split (fun _ => ?_) (fun _ => ?_)|refine fG.bool (fun _ => ?_) (fun _ => ?_))) <;> (try (conv => whnf)))
          all_goals
            refine loop_rule (ι := PI) (fun z => [(1, .pt 1 1 0 [] 0 0), (4, .h z.o z.b 0 [] 1 0 z.l.length), (5, i64 (j : Nat)), (8, i64 (z.i : Nat))]) (fun z => [(1000000, ⟨0, 0, false, tInsSS P⟩), (1000001, ⟨0, 0, false, tStateS S⟩), (1000002, ⟨0, 0, false, tItemSS W⟩), (1000003, ⟨0, 0, false, tEventSS H⟩), (1, ⟨1, 0, false, bSys P S W H⟩), (z.o, ⟨z.b, 0, false, tB9 z.l⟩)])
              (fun z => (rd H j).length - z.i) (fun z => z.i ≤ (rd H j).length ∧ z.l = numsB (preNums P H j ++ progNums (rd P j) ++ ((rd H j).length : Int) :: ((rd H j).take z.i).flatMap evNums) ∧ (z.o = 78 ∨ z.o = 106)) ⟨0, x1 ++ putNum ((rd H j).length : Int), 78, _⟩ fitOk ⟨Nat.zero_le _, hs3, .inl rfl⟩ (by simp [C]; omega) ?_
            clear qn sl ob
            rintro ⟨i, x2, o, bb⟩ sl ob ⟨hi, hx2, ho⟩
            dsimp only at hi hx2 ho
            have hx2l : x2.length ≤ 30000 := by
              have h1 := flat_take evNums 3 (fun _ => rfl) (rd H j) i
              have h2 := hpre j hj
              have h0 := progNums_len (rd P j)
              have h3 := small5 (l := preNums P H j ++ progNums (rd P j) ++ ((rd H j).length : Int) :: ((rd H j).take i).flatMap evNums) (n := 5000) (by rw [List.length_append, List.length_append, List.length_cons]; omega)
              rw [← hx2] at h3
              omega
            by_cases hil : i < (rd H j).length
            · have qn := fun k => ok_spec_l14Nums k (evNums (rd (rd H j) i)) (by simp [evNums])
              have hn5 := small5 (show (evNums (rd (rd H j) i)).length ≤ 3 from Nat.le_refl _)
              simp only [evNums, List.length_cons, List.length_nil, Nat.zero_add, Nat.reduceAdd] at qn hn5
              have hs4 : x2 ++ numsB [(rd (rd H j) i).kind, (rd (rd H j) i).peer, (rd (rd H j) i).v] = numsB (preNums P H j ++ progNums (rd P j) ++ ((rd H j).length : Int) :: ((rd H j).take (i + 1)).flatMap evNums) := by
                rw [take_flat evNums hil, hx2, ← numsB_app, List.append_assoc, List.append_assoc, List.append_assoc, List.cons_append]; rfl
              rcases ho with rfl | rfl
              all_goals (try dsimp only [cond_true, cond_false])
              all_goals (conv => whnf)
              all_goals repeat' ((with_reducible (first | refine sCall.of (qn _) ?_|refine st20 ?_|refine fG.split (fun _ => ?_) (fun _ => ?_)|refine fG.bool (fun _ => ?_) (fun _ => ?_))) <;> (try (conv => whnf)))
              all_goals
                refine ⟨⟨⟨i + 1, x2 ++ numsB [(rd (rd H j) i).kind, (rd (rd H j) i).peer, (rd (rd H j) i).v], 106, _⟩, fitOk, ?_, ?_⟩⟩
                · exact ⟨by show i + 1 ≤ _; omega, hs4, .inr rfl⟩
                · show (rd H j).length - (i + 1) < (rd H j).length - i; omega
            · rw [List.take_of_length_le (by omega)] at hx2
              have hs5 : x2 = numsB (preNums P H (j + 1)) := by rw [preNums_succ, hx2, histNums, List.append_assoc]
              rcases ho with rfl | rfl
              all_goals (try dsimp only [cond_true, cond_false])
              all_goals (conv => whnf)
              all_goals repeat' ((with_reducible (first | refine st20 ?_|refine fG.split (fun _ => ?_) (fun _ => ?_)|refine fG.bool (fun _ => ?_) (fun _ => ?_))) <;> (try (conv => whnf)))
              case' inl =>
                refine ⟨⟨⟨j + 1, x2, 78, _⟩, fitOk, ?_, ?_⟩⟩
              case' inr =>
                refine ⟨⟨⟨j + 1, x2, 106, _⟩, fitOk, ?_, ?_⟩⟩
              all_goals first
                | (show P.length - (j + 1) < P.length - j; omega)
                | exact ⟨by show j + 1 ≤ _; omega, hs5, .inr (.inl rfl)⟩
                | exact ⟨by show j + 1 ≤ _; omega, hs5, .inr (.inr rfl)⟩
    · have hjP : j = P.length := by omega
      subst hjP
      rw [show packB P H = x from hx.symm]
      rcases ho with rfl | rfl | rfl
      all_goals (try dsimp only [cond_true, cond_false])
      all_goals (conv => whnf)
      all_goals repeat' ((with_reducible (first | refine st20 ?_|refine fG.split (fun _ => ?_) (fun _ => ?_)|refine fG.bool (fun _ => ?_) (fun _ => ?_))) <;> (try (conv => whnf)))

end Go.Proofs.YtipfcgbhaalcdaaGreat.Abs
namespace Go.Proofs.YtipfcgbhaalcdaaGreat.Abs
open Go Go.Proofs
set_option linter.unusedVariables false
set_option linter.unusedSimpArgs false
attribute [local irreducible] callE
theorem set_rB (l : List Int) (n : Nat) (x : Int) : (l.map rB).set n [.v (.int .u8 x)] = (l.set n x).map rB := by simp [rB, List.map_set]
theorem rep_rB (n : Nat) (x : Int) : List.replicate n [T.v (.int .u8 x)] = (List.replicate n x).map rB := by simp [rB]
theorem gI21 {p A : Prop} (h : A) (e : p := by first | with_reducible assumption | omega | (simp only [Nat.zero_add, Nat.add_zero, Nat.sub_zero, Int.toNat_natCast, Int.toNat_zero, Int.toNat_one, List.length_map, List.length_nil, Int.reduceToNat, Nat.reduceAdd, Nat.reduceSub, Int.sub_zero, Int.reduceAdd, Int.reduceSub, Nat.sub_self, Int.toNat_natCast_add_one, marks_len, bs_len, List.length_append, List.length_cons, List.length_set, List.length_replicate, List.length_range]; first | done | omega)) : sI p A := sI.mk e h
theorem gNum21 {r r' : Nat} {F : Nat → Prop} (h : F r') (e : r = r' := by first | (simp only [Nat.zero_add, Nat.add_zero, Nat.sub_zero, Int.toNat_natCast, Int.toNat_zero, Int.toNat_one, List.length_map, List.length_nil, Int.reduceToNat, Nat.reduceAdd, Nat.reduceSub, Int.sub_zero, Int.reduceAdd, Int.reduceSub, Nat.sub_self, Int.toNat_natCast_add_one, marks_len, bs_len]; rfl) | rfl) : sN r F := sN.eq e h
theorem gRow21 {r r' : List (List T)} {F : List (List T) → Prop} (h : F r') (e : r = r' := by first | (simp only [Nat.add_zero, Nat.zero_add, Nat.reduceAdd, List.drop_zero, List.take_succ_cons, List.take_nil, List.drop_succ_cons, List.drop_nil, List.take_zero, List.nil_append, List.append_nil, List.map_nil, drop_suf, take_pre, drop_map, List.take_length, take_len_set, take_len_app, List.set_set, List.length_map, set_rB, rep_rB, set_rIntL, rep_rIntL, cons_rItem, one_rIns, cons_rIns, one_rI, cons_rI, snoc_new, snoc_rItem, snoc_rInsL, snoc_rItemL, snoc_rEventL, snoc_rState, set_rWho, rep_rWho, snoc_rWho, set_rState, rep_rState, set_rInsL, rep_rInsL, set_rItemL, rep_rItemL, set_rEventL, rep_rEventL, set_rItem, rep_rItem, rep_rKept, marks_take, set_rKept, set_rIns, rep_rIns, set_rEvent, rep_rEvent, snoc_rKept, snoc_rEvent, snoc_rIns, bytesT_bs, snoc_rI, snoc_rB, snoc_rBool, set_rI, set_rBool, rep_rI, rep_rBool, map_app]; rfl) | rfl) : sR r F := sR.eq e h
theorem st21 {P Q : Prop} (h : Q) (e : Q → P := by with_reducible first | exact fun h => gP h | exact fun h => gN h | exact fun h => fG.not h | exact fun h => gY h | exact fun h => gF h | exact fun h => fG.yes (flat_map (fun _ => rfl) _) h | exact fun h => gS64 h | exact fun h => gU8 h | exact fun h => gI21 h | exact fun h => fE.of rfl h | exact fun h => gNum21 h | exact fun h => gSet h | exact fun h => gRd h | exact fun h => gLk h | exact fun h => gRow21 h | exact fun h => gRf5 h) : P := e h
theorem ok_laws_eqByteS (k : Nat) (l : List Int) (hl : l.length ≤ 100000000000) : callE PR C (k + 1) 38 [.h 1000000 0 0 [] 1 0 l.length, .h 1000001 0 0 [] 1 0 l.length] [tB l, tB l] = some ⟨bl true, [], [none, none]⟩ := by
  (refine fnI [ResultVar.tmp 4] Tryz.func38 ?_; conv => whnf)
  repeat' ((with_reducible (first | refine st21 ?_|refine fG.split (fun _ => ?_) (fun _ => ?_)|refine fG.bool (fun _ => ?_) (fun _ => ?_)|refine gDn 6 ?_)) <;> (try (conv => whnf)))
  refine loop_rule (ι := Nat) (fun j => [(0, .h 1000000 0 0 [] 1 0 l.length), (1, .h 1000001 0 0 [] 1 0 l.length), (5, i64 (j : Nat))])
    (fun x => [(1000000, ⟨0, 0, false, tB l⟩), (1000001, ⟨0, 0, false, tB l⟩)])
    (fun j => l.length - j) (fun j => j ≤ l.length) 0 fitOk (Nat.zero_le _) (by simp [C]; omega) ?_
  rintro j sl ob hj
  (try dsimp only [cond_true, cond_false])
  (conv => whnf)
  repeat' ((with_reducible (first | refine st21 ?_|refine fG.split (fun _ => ?_) (fun _ => ?_)|refine fG.bool (fun _ => ?_) (fun _ => ?_)|refine gDn 6 ?_)) <;> (try (conv => whnf)))
  case' refine_1 h =>
    refine ⟨⟨j + 1, fitOk, ?_, ?_⟩⟩
    · show j + 1 ≤ _; omega
    · show l.length - (j + 1) < l.length - j; omega
structure TB where
  j : Nat
  l : List Int
  g : Nat
  d : Bool
def markB (m : Int) (n : Nat) : List Int := (List.range n).map fun j => IntKind.u8.wrap (m + (j : Nat))
theorem markB_len (m : Int) (n : Nat) : (markB m n).length = n := by simp [markB]
structure MB where
  j : Nat
  m : Int
  l : List Int
  g : Nat
  d : Bool
theorem ok_laws_markByteS (k : Nat) (l : List Int) (m : Int) (hl : l.length ≤ 1000000000) (h0 : 0 ≤ m) (h1 : m ≤ 1000000000) : callE PR C (k + 1) 41 [.h 1000000 0 0 [] 1 0 l.length, i64 m] [tB9 l] = some ⟨i64 (m + l.length), [], [some (tB9 (markB m l.length))]⟩ := by
  (refine fnI [ResultVar.tmp 4] Tryz.func41 ?_; conv => whnf)
  repeat' ((with_reducible (first | refine st21 ?_|refine fG.split (fun _ => ?_) (fun _ => ?_)|refine fG.bool (fun _ => ?_) (fun _ => ?_))) <;> (try (conv => whnf)))
  refine loop_rule (ι := MB) (fun x => [(0, .h 1000000 0 0 [] 1 0 l.length), (1, i64 x.m), (5, i64 (x.j : Nat))])
    (fun x => [(1000000, ⟨0, x.g, x.d, tB9 x.l⟩)])
    (fun x => l.length - x.j) (fun x => x.j ≤ l.length ∧ x.m = m + (x.j : Nat) ∧ x.l.length = l.length ∧ ∀ q, q < x.j → rd x.l q = IntKind.u8.wrap (m + (q : Nat))) ⟨0, m, l, _, _⟩ fitOk ⟨Nat.zero_le _, by simp, rfl, fun q h => absurd h (Nat.not_lt_zero q)⟩ (by simp [C]; omega) ?_
  rintro ⟨j, n, out, g, d⟩ sl ob ⟨hj, hn, hlen, hq⟩
  dsimp only at hj hn hlen hq
  subst hn
  have hml := markB_len m l.length
  have hw : IntKind.u8.wrap (m + (j : Nat)) = IntKind.u8.wrap (m + (j : Nat)) := rfl
  have ha : IntKind.i64.wrap (m + (j : Nat) + 1) = m + ((j + 1 : Nat) : Int) := by rw [wrap_i64 _ (by omega) (by omega)]; omega
  (try dsimp only [cond_true, cond_false])
  (conv => whnf)
  by_cases hjl : j < l.length
  · repeat' ((with_reducible (first | refine sW.eq (hw) ?_|refine sW.eq (ha) ?_|refine st21 ?_|refine fG.split (fun _ => ?_) (fun _ => ?_)|refine fG.bool (fun _ => ?_) (fun _ => ?_))) <;> (try (conv => whnf)))
    refine ⟨⟨⟨j + 1, m + ((j + 1 : Nat) : Int), out.set j (IntKind.u8.wrap (m + (j : Nat))), _, _⟩, fitOk, ?_, ?_⟩⟩
    · refine ⟨by show j + 1 ≤ _; omega, rfl, by show (out.set j _).length = _; rw [List.length_set]; exact hlen, fun q hq2 => ?_⟩
      show rd (out.set j _) q = _
      rw [rd_set _ (by omega)]
      split
      · rename_i e; rw [e]
      · rename_i e
        have hq2 : q < j + 1 := hq2
        exact hq q (by omega)
    · show l.length - (j + 1) < l.length - j; omega
  · have he : out = markB m l.length := rd_ext (by rw [hlen, markB_len]) fun q hq3 => by
      rw [hlen] at hq3
      rw [hq q (by omega), markB, rd_range _ hq3]
    have hjn : j = l.length := by omega
    subst hjn
    rw [he]
    repeat' ((with_reducible (first | refine st21 ?_|refine fG.split (fun _ => ?_) (fun _ => ?_)|refine fG.bool (fun _ => ?_) (fun _ => ?_))) <;> (try (conv => whnf)))
theorem ok_laws_heldByteS (k : Nat) (n : Nat) (m : Int) (hl : n ≤ 1000000000) (h0 : 0 ≤ m) (h1 : m ≤ 1000000000) : callE PR C (k + 1) 42 [.h 1000000 0 0 [] 1 0 n, i64 m] [tB (markB m n)] = some ⟨i64 (m + n), [], [none]⟩ := by
  have hmn := markB_len m n
  (refine fnI [ResultVar.tmp 4] Tryz.func42 ?_; conv => whnf)
  repeat' ((with_reducible (first | refine st21 ?_|refine fG.split (fun _ => ?_) (fun _ => ?_)|refine fG.bool (fun _ => ?_) (fun _ => ?_))) <;> (try (conv => whnf)))
  refine loop_rule (ι := Nat × Int) (fun z => [(0, .h 1000000 0 0 [] 1 0 n), (1, i64 z.2), (5, i64 (z.1 : Nat))])
    (fun x => [(1000000, ⟨0, 0, false, tB (markB m n)⟩)])
    (fun z => n - z.1) (fun z => z.1 ≤ n ∧ z.2 = m + (z.1 : Nat)) (0, m) fitOk ⟨Nat.zero_le _, by simp⟩ (by simp [C]; omega) ?_
  rintro ⟨j, mm⟩ sl ob ⟨hj, hm2⟩
  dsimp only at hj hm2
  subst hm2
  have hw : IntKind.u8.wrap (m + (j : Nat)) = IntKind.u8.wrap (m + (j : Nat)) := rfl
  have ha : IntKind.i64.wrap (m + (j : Nat) + 1) = m + ((j + 1 : Nat) : Int) := by rw [wrap_i64 _ (by omega) (by omega)]; omega
  (try dsimp only [cond_true, cond_false])
  (conv => whnf)
  by_cases hjl : j < n
  · have he : rd (markB m n) j = IntKind.u8.wrap (m + (j : Nat)) := by rw [markB, rd_range _ hjl]
    repeat' ((with_reducible (first | refine sW.eq (hw) ?_|refine sW.eq (ha) ?_|refine st21 ?_|refine fG.split (fun _ => ?_) (fun _ => ?_)|refine fG.bool (fun _ => ?_) (fun _ => ?_))) <;> (try (conv => whnf)))
    refine ⟨⟨(j + 1, m + ((j + 1 : Nat) : Int)), fitOk, ?_, ?_⟩⟩
    · exact ⟨by show j + 1 ≤ _; omega, rfl⟩
    · show n - (j + 1) < n - j; omega
  · have hjn : j = n := by omega
    subst hjn
    repeat' ((with_reducible (first | refine st21 ?_|refine fG.split (fun _ => ?_) (fun _ => ?_)|refine fG.bool (fun _ => ?_) (fun _ => ?_))) <;> (try (conv => whnf)))

theorem packIs_len {P : List (List Ins)} {S : List State} {W : List (List Item)} {H : List (List Event)} : (packIs P S W H).length ≤ 30000 := by
  unfold packIs
  split
  · rename_i h
    simp only [packOk, Bool.and_eq_true] at h
    have h1 := packB_len h.1 P.length (Nat.le_refl _)
    have := small5 h1
    unfold packB sysNums
    omega
  · exact Nat.zero_le _
set_option maxRecDepth 20000 in
set_option maxHeartbeats 8000000 in
theorem ok_laws_FnExactPack (k : Nat) (P : List (List Ins)) (S : List State) (W : List (List Item)) (H : List (List Event)) (hb : SysB 140737488355328 P S W H) :
    callE PR C (k + 13) 6 [aSys 0 P S W H] [tInsSS P, tStateS S, tItemSS W, tEventSS H] = some ⟨bl true, [], [none, none, none, none]⟩ := by
  have q0 := fun k => ok_laws_szSys k P S W H 1048576 (by omega) (by omega) hb
  by_cases c : left 1048576 (sysSz P S W H) < 0
  · rw [left_m1 c] at q0
    (refine fnI [ResultVar.tmp 2] Tryz.func6 ?_; conv => whnf)
    repeat' ((with_reducible (first | refine sCall.of (q0 _) ?_|refine st21 ?_|refine fG.split (fun _ => ?_) (fun _ => ?_)|refine fG.bool (fun _ => ?_) (fun _ => ?_)|refine gD 10 [(0, 2)] ?_)) <;> (try (conv => whnf)))
  · obtain ⟨c1, c2⟩ := left_pos c
    have hB : SysB 1048576 P S W H := sysB_of (by omega)
    have hw := sysW_le P S W H
    have q1 := fun k => ok_laws_toSys k P S W H (hB.mono (by decide))
    have q2 := fun k => ok_laws_eqSys k P S W H (hB.mono (by decide))
    have q3 := fun k => ok_impl_Pack k P S W H (hB.mono (by decide))
    have q4 := fun k => ok_spec_Pack k P S W H (hB.mono (by decide))
    have q6 := fun k => ok_laws_markSys k P S W H 1 hB (by omega) (by omega)
    have e1 : (mkP 1 P).length = P.length := marks_len _ _ _ _
    have e2 : (mkS 1 P S).length = S.length := marks_len _ _ _ _
    have e3 : (mkW 1 P S W).length = W.length := marks_len _ _ _ _
    have e4 : (mkH 1 P S W H).length = H.length := marks_len _ _ _ _
    have hR := @packIs_len P S W H
    generalize packIs P S W H = R at q3 q4 hR
    generalize packOk P S W H = t at q3 q4
    simp only [packRes] at q3 q4
    have q5 := fun k => ok_laws_eqByteS k R (by omega)
    have q7 := fun k => ok_laws_markByteS k R 1 (by omega) (by omega) (by omega)
    have hml := markB_len 1 R.length
    have q8 : ∀ k, callE PR C (k + 1) 42 [.h 1000000 0 0 [] 1 0 (List.take R.length (markB 1 R.length)).length, i64 1] [tB (List.take R.length (markB 1 R.length))] = some ⟨i64 (1 + R.length), [], [none]⟩ := fun k => by
      rw [show List.take R.length (markB 1 R.length) = markB 1 R.length from List.take_of_length_le (by omega), hml]
      exact ok_laws_heldByteS k R.length 1 (by omega) (by omega) (by omega)
    clear hb hB c
    cases t
    all_goals
      (refine fnI [ResultVar.tmp 2] Tryz.func6 ?_; conv => whnf)
      repeat' ((with_reducible (first | refine sCall.of (q0 _) ?_|refine sCall.of (q1 _) ?_|refine sCall.of (q2 _) ?_|refine sCall.of (q3 _) ?_|refine sCall.of (q4 _) ?_|refine sCall.of (q5 _) ?_|refine sCall.of (q6 _) ?_|refine sCall.of (q7 _) ?_|refine sCall.of (q8 _) ?_|refine st21 ?_|refine fG.split (fun _ => ?_) (fun _ => ?_)|refine fG.bool (fun _ => ?_) (fun _ => ?_)|refine gD 10 [(0, 2)] ?_)) <;> (try (conv => whnf)))

end Go.Proofs.YtipfcgbhaalcdaaGreat.Abs
namespace Go.Proofs.YtipfcgbhaalcdaaGreat.Abs
open Go
set_option linter.unusedVariables false

def Opens (P : Program) (t : TypeId) (n : Nat) (M : List T → Prop) : Prop :=
  ∀ (H : Type) (enc : TypeId × Value → H) (w : World) (base : Nat) (sp : Nat → Bool) (held : Bool) (fuel : Nat) (cs : List Value) (x : DataW H × List MemPlace),
    DataW.trod enc P w base sp held fuel t cs = some x → (∀ m ∈ x.1.weights P t, m ≤ reachBytes) →
      cs.length = n ∧ ∃ ts : List T, ts.length = n ∧ M ts ∧ ∀ (i : Nat) v t', cs[i]? = some v → ts[i]? = some t' → Ow (fun k => k < w.heap.size) w 0 v t' none_
theorem Opens.mono {P : Program} {t : TypeId} {n : Nat} {M M' : List T → Prop} (h : Opens P t n M) (hm : ∀ ts, M ts → M' ts) : Opens P t n M' := by
  intro H enc w base sp held fuel cs x hx hw
  obtain ⟨h1, ts, h2, h3, h4⟩ := h H enc w base sp held fuel cs x hx hw
  exact ⟨h1, ts, h2, hm _ h3, h4⟩
theorem one_ow {w : World} {v0 : Value} {t0 : T} (h : Ow (fun k => k < w.heap.size) w 0 v0 t0 none_) : ∀ (i : Nat) v t', [v0][i]? = some v → [t0][i]? = some t' → Ow (fun k => k < w.heap.size) w 0 v t' none_ := by
  rintro (_ | i) v t' h1 h2
  · simp at h1 h2; subst h1; subst h2; exact h
  · simp at h1
theorem Opens.int {P : Program} {t : TypeId} {k : IntKind} (ht : P.underlying t = some (.int k)) : Opens P t 1 (fun ts => ∃ n, (Lit.int k n).wf = true ∧ ts = [.v (.int k n)]) := by
  intro H enc w base sp held fuel cs x hx hw
  obtain ⟨n, rfl, rfl, h⟩ := DataW.trod_int ht hx
  exact ⟨rfl, _, rfl, ⟨n, h, rfl⟩, one_ow (.v rfl)⟩
theorem Opens.bool {P : Program} {t : TypeId} (ht : P.underlying t = some .bool) : Opens P t 1 (fun ts => ∃ b, ts = [.v (.bool b)]) := by
  intro H enc w base sp held fuel cs x hx hw
  obtain ⟨b, rfl, rfl⟩ := DataW.trod_bool ht hx
  exact ⟨rfl, _, rfl, ⟨b, rfl⟩, one_ow (.v rfl)⟩
theorem Opens.str {P : Program} {t : TypeId} (ht : P.underlying t = some .string) : Opens P t 1 (fun ts => ∃ s : ByteArray, s.size ≤ reachBytes ∧ ts = [.v (.string s)]) := by
  intro H enc w base sp held fuel cs x hx hw
  obtain ⟨s, rfl, rfl, h⟩ := DataW.trod_string ht hx
  refine ⟨rfl, _, rfl, ⟨s, ?_, rfl⟩, one_ow (.v rfl)⟩
  have := hw s.data.toList.length (by simp [DataW.weights])
  simpa using this
def Parts (P : Program) : List Field → Nat → Nat → (List T → Prop) → Prop
  | [], _, n, M => n = 0 ∧ M []
  | f :: r, off, n, M => f.offset = off ∧ ∃ n1 n2 M1 M2, P.cellsOf f.type = n1 ∧ Opens P f.type n1 M1 ∧ Parts P r (off + n1) n2 M2 ∧ n = n1 + n2 ∧ ∀ a b, M1 a → M2 b → M (a ++ b)
theorem weights_part {P : Program} {H : Type} {ts : List TypeId} : ∀ {ds : List (DataW H)} {R : Nat}, (∀ m ∈ DataW.weightsEach P ts ds, m ≤ R) → ∀ (j : Nat) t d, ts[j]? = some t → ds[j]? = some d → ∀ m ∈ d.weights P t, m ≤ R :=
  fun h j t d ht hd m hm => h m (DataW.weights_mem_each ht hd m hm)
theorem Parts.opens {P : Program} {H : Type} {enc : TypeId × Value → H} {w : World} {base : Nat} {sp : Nat → Bool} {held : Bool} {fuel : Nat} {cs : List Value} : ∀ {fs : List Field} {off n : Nat} {M : List T → Prop}, Parts P fs off n M → off + n = cs.length →
    (∀ f ∈ fs, ∃ x, DataW.trod enc P w base sp held fuel f.type ((cs.drop f.offset).take (P.cellsOf f.type)) = some x ∧ (∀ m ∈ x.1.weights P f.type, m ≤ reachBytes)) →
    ∃ ts : List T, ts.length = n ∧ M ts ∧ ∀ (i : Nat) v t', cs[off + i]? = some v → ts[i]? = some t' → Ow (fun k => k < w.heap.size) w 0 v t' none_ := by
  intro fs
  induction fs with
  | nil =>
    intro off n M h hl _
    exact ⟨[], h.1.symm, h.2, fun i v t' _ h2 => by simp at h2⟩
  | cons f r ih =>
    intro off n M h hl hx
    obtain ⟨rfl, n1, n2, M1, M2, h1, h2, h3, rfl, h4⟩ := h
    obtain ⟨x, hx1, hx2⟩ := hx f (by simp)
    rw [h1] at hx1
    obtain ⟨k1, t1, k2, k3, k4⟩ := h2 H enc w base sp held fuel _ x hx1 hx2
    obtain ⟨t2, q1, q2, q3⟩ := ih h3 (by omega) fun g hg => hx g (by simp [hg])
    refine ⟨t1 ++ t2, by simp [k2, q1], h4 _ _ k3 q2, fun i v t' hv ht' => ?_⟩
    by_cases hi : i < n1
    · rw [List.getElem?_append_left (by omega)] at ht'
      exact k4 i v t' (by rw [List.getElem?_take, if_pos hi, List.getElem?_drop]; exact hv) ht'
    · rw [List.getElem?_append_right (by omega), k2] at ht'
      exact q3 (i - n1) v t' (by rw [show f.offset + n1 + (i - n1) = f.offset + i by omega]; exact hv) ht'
theorem Opens.struct {P : Program} {t : TypeId} {fs : Array Field} {n : Nat} {M : List T → Prop} (ht : P.underlying t = some (.struct fs)) (hc : P.cellsOf t = n) (hp : Parts P fs.toList 0 n M) : Opens P t n M := by
  intro H enc w base sp held fuel cs x hx hw
  obtain ⟨xs, m, _, rfl, hl, hlen, hf⟩ := DataW.trod_struct ht hx
  have hl' : cs.length = n := hl.trans hc
  obtain ⟨ts, h1, h2, h3⟩ := hp.opens (enc := enc) (w := w) (base := base) (sp := sp) (held := held) (fuel := m) (cs := cs) (by omega) (by
    intro f hfm
    obtain ⟨i, hi⟩ := List.getElem?_of_mem hfm
    have hi' : fs[i]? = some f := by simpa using hi
    have hlt : i < xs.length := by rw [hlen]; exact (Array.getElem?_eq_some_iff.1 hi').1
    have hy : xs[i]? = some xs[i] := List.getElem?_eq_getElem hlt
    refine ⟨xs[i], (hf i f hi').trans hy, ?_⟩
    refine weights_part (ts := fs.toList.map (·.type)) (ds := xs.map (·.1)) ?_ i f.type xs[i].1 (by simp [hi']) (by rw [List.getElem?_map, hy]; rfl)
    intro q hq
    refine hw q ?_
    simpa [DataW.weights, ht] using hq)
  exact ⟨hl', ts, h1, h2, fun i v t' hv ht' => h3 i v t' (by simpa using hv) ht'⟩
def IntsM (n : Nat) (ts : List T) : Prop := ∃ zs : List Int, zs.length = n ∧ ts = zs.map fun z => T.v (.int .i64 z)
theorem Parts.nil {P : Program} {off : Nat} : Parts P [] off 0 (IntsM 0) := ⟨rfl, [], rfl, rfl⟩
theorem Parts.int {P : Program} {f : Field} {r : List Field} {off n : Nat} (ho : f.offset = off) (hc : P.cellsOf f.type = 1) (ht : P.underlying f.type = some (.int .i64)) (h : Parts P r (off + 1) n (IntsM n)) :
    Parts P (f :: r) off (1 + n) (IntsM (1 + n)) := by
  refine ⟨ho, 1, n, _, _, hc, Opens.int ht, h, rfl, ?_⟩
  rintro a b ⟨z, _, rfl⟩ ⟨zs, hz, rfl⟩
  exact ⟨z :: zs, by simp [hz]; omega, rfl⟩
def Ms : List (List T → Prop) → List T → Prop
  | [], ts => ts = []
  | M :: r, ts => ∃ a b, ts = a ++ b ∧ M a ∧ Ms r b
theorem Parts.mnil {P : Program} {off : Nat} : Parts P [] off 0 (Ms []) := ⟨rfl, rfl⟩
theorem Parts.mcons {P : Program} {f : Field} {r : List Field} {off n1 n : Nat} {M : List T → Prop} {l : List (List T → Prop)} (ho : f.offset = off) (hc : P.cellsOf f.type = n1) (ht : Opens P f.type n1 M) (h : Parts P r (off + n1) n (Ms l)) :
    Parts P (f :: r) off (n1 + n) (Ms (M :: l)) :=
  ⟨ho, n1, n, _, _, hc, ht, h, rfl, fun a b ha hb => ⟨a, b, rfl, ha, hb⟩⟩

theorem rows_map {α : Type} {f : α → List T} {p : α → Prop} {rows : List (List T)} (h : ∀ r ∈ rows, ∃ x, p x ∧ r = f x) : ∃ l : List α, rows = l.map f ∧ ∀ x ∈ l, p x := by
  induction rows with
  | nil => exact ⟨[], rfl, by simp⟩
  | cons r rows ih =>
    obtain ⟨x, hx, rfl⟩ := h r (by simp)
    obtain ⟨l, rfl, hl⟩ := ih fun q hq => h q (by simp [hq])
    exact ⟨x :: l, rfl, by simpa using ⟨hx, hl⟩⟩
theorem weights_all {P : Program} {H : Type} {e : TypeId} {d : DataW H} : ∀ {l : List (DataW H)}, d ∈ l → ∀ m ∈ d.weights P e, m ∈ DataW.weightsAll P e l
  | a :: r, hd, m, hm => by
    simp only [DataW.weightsAll, List.mem_append]
    rcases List.mem_cons.1 hd with rfl | hd
    · exact .inl hm
    · exact .inr (weights_all hd m hm)
theorem Opens.slice {P : Program} {t e : TypeId} {sz B : Nat} {M : List T → Prop} (ht : P.underlying t = some (.slice e)) (hc : P.cellsOf e = sz) (hB : P.bytesOf e = B) (hsz : 0 < sz) (hE : Opens P e sz M) :
    Opens P t 1 (fun ts => ∃ rows, ts = [.sl sz rows] ∧ (∀ x ∈ rows, M x) ∧ rows.length * B ≤ reachBytes) := by
  intro H enc w base sp held fuel cs0 x hx hw
  rcases DataW.trod_slice ht hx with ⟨rfl, _⟩ | ⟨a, len, cap, elems, rest, n, _, rfl, rfl, _, hl, _, hlen, hel, _⟩
  · exact ⟨rfl, _, rfl, ⟨[], rfl, by simp, by simp⟩, one_ow .nil⟩
  · have hw1 : (elems.length + rest.length) * B ≤ reachBytes := by
      have := hw ((elems.length + rest.length) * P.bytesOf e) (by simp [DataW.weights, ht])
      rwa [hB] at this
    have hcell : ∀ i : Nat, ∃ q : List Value × List T, i < len → q.1.length = sz ∧ q.2.length = sz ∧ M q.2 ∧ (∀ j, j < sz → w.cell? ((a.add (i * sz)).add j) = q.1[j]?) ∧
        ∀ (j : Nat) v t', q.1[j]? = some v → q.2[j]? = some t' → Ow (fun k => k < w.heap.size) w 0 v t' none_ := by
      intro i
      by_cases hi : i < len
      · have hy : elems[i]? = some (elems[i]'(by omega)) := List.getElem?_eq_getElem (by omega)
        have h1 := hel i hi
        rw [hy, hc, Option.bind_eq_some_iff] at h1
        obtain ⟨cs, hcs, htr⟩ := h1
        obtain ⟨k1, ts, k2, k3, k4⟩ := hE H enc w base sp held n cs _ htr (by
          intro m hm
          refine hw m ?_
          have := weights_all (P := P) (e := e) (l := elems.map (·.1)) (List.mem_map_of_mem (List.getElem_mem (by omega : i < elems.length))) m hm
          simp [DataW.weights, ht, this])
        obtain ⟨_, g1, g2⟩ := World.cells?_some hcs
        exact ⟨(cs, ts), fun _ => ⟨k1, k2, k3, g2, k4⟩⟩
      · exact ⟨([], []), fun h => absurd h hi⟩
    obtain ⟨c, hc2⟩ := Classical.axiomOfChoice hcell
    have hblk : 0 < len → a.block < w.heap.size := by
      intro h0
      obtain ⟨k1, k2, k3, k4, k5⟩ := hc2 0 h0
      have h1 := k4 0 hsz
      have h2 : (c 0).1[0]? = some ((c 0).1[0]'(by omega)) := List.getElem?_eq_getElem (by omega)
      rw [h2] at h1
      by_cases hlt : a.block < w.heap.size
      · exact hlt
      · unfold World.cell? at h1
        rw [add_block, add_block, Array.getElem?_eq_none (by omega)] at h1
        simp at h1
    have hat : ∀ i j t', cellT ((List.range len).map fun i => (c i).2) i j = some t' → i < len ∧ (c i).2[j]? = some t' := by
      intro i j t' h'
      unfold cellT at h'
      rw [List.getElem?_map] at h'
      by_cases hi : i < len
      · have hr : (List.range len)[i]? = some i := by simp [hi]
        rw [hr] at h'
        exact ⟨hi, by simpa using h'⟩
      · have hr : (List.range len)[i]? = none := by simp; omega
        rw [hr] at h'
        simp at h'
    refine ⟨rfl, [.sl sz ((List.range len).map fun i => (c i).2)], rfl, ⟨_, rfl, ?_, ?_⟩, one_ow ?_⟩
    · intro x hx
      obtain ⟨i, hi, rfl⟩ := List.mem_map.1 hx
      exact (hc2 i (List.mem_range.1 hi)).2.2.1
    · rw [List.length_map, List.length_range]
      exact Nat.le_trans (Nat.mul_le_mul_right _ (by omega)) hw1
    · have hro := Ow.ro (Z := fun k => k < w.heap.size) (w := w) (a := a) (c := cap) (rows := (List.range len).map fun i => (c i).2) (sz := sz) (fun i j => (c i).1.getD j undef) (by simpa using hl)
        (by
          intro r hr
          obtain ⟨i, hi, rfl⟩ := List.mem_map.1 hr
          exact (hc2 i (List.mem_range.1 hi)).2.1) (fun hne => hblk (by
            rcases Nat.eq_zero_or_pos len with h0 | h0
            · subst h0; exact absurd rfl hne
            · exact h0))
        (by
          intro i j t' h'
          obtain ⟨hi, hj⟩ := hat i j t' h'
          obtain ⟨k1, k2, k3, k4, k5⟩ := hc2 i hi
          have hj' : j < sz := by rw [← k2]; exact (List.getElem?_eq_some_iff.1 hj).1
          rw [← Addr.add_add, k4 j hj', List.getElem?_eq_getElem (by omega)]
          simp [List.getD, show j < (c i).1.length by omega])
        (by
          intro i j t' h'
          obtain ⟨hi, hj⟩ := hat i j t' h'
          obtain ⟨k1, k2, k3, k4, k5⟩ := hc2 i hi
          have hj' : j < sz := by rw [← k2]; exact (List.getElem?_eq_some_iff.1 hj).1
          refine k5 j _ t' ?_ hj
          rw [List.getElem?_eq_getElem (by omega)]
          simp [List.getD, show j < (c i).1.length by omega])
      simpa using hro
theorem Opens.one {P : Program} {t : TypeId} {M : List T → Prop} (h : Opens P t 1 M) {H : Type} {enc : TypeId × Value → H} {w : World} {base : Nat} {sp : Nat → Bool} {held : Bool} {v : Value} {d : DataW H} {ps : List MemPlace}
    (hv : v.cells.toList = [v]) (hd : DataW.Trod enc P w base sp held t v d ps) (hw : ∀ m ∈ d.weights P t, m ≤ reachBytes) : ∃ t', M [t'] ∧ Ow (fun k => k < w.heap.size) w 0 v t' none_ := by
  obtain ⟨fuel, hf⟩ := hd
  rw [hv] at hf
  obtain ⟨_, ts, h1, h2, h3⟩ := h H enc w base sp held fuel _ _ hf hw
  obtain ⟨t', rfl⟩ := List.length_eq_one_iff.1 h1
  exact ⟨t', h2, h3 0 v t' rfl rfl⟩
end Go.Proofs.YtipfcgbhaalcdaaGreat.Abs
namespace Go.Proofs.YtipfcgbhaalcdaaGreat.Abs
open Go Go.RowKit
set_option linter.unusedVariables false

theorem Ow.slice_inv {Z : Fp} {w : World} {v : Value} {sz : Nat} {rows : List (List T)} {F : Fp} {l : Nat} (h : Ow Z w l v (.sl sz rows) F) :
    (v = .slice none 0 0 ∧ rows = []) ∨ ∃ a c, v = .slice (some a) rows.length c ∧ rows.length ≤ c := by
  cases h with
  | nil => exact .inl ⟨rfl, rfl⟩
  | ro xs hc hs hz hx ht => exact .inr ⟨_, _, rfl, hc⟩
  | own xs F hb hfr hc hoff hmax hs hx ht hF hnb hd => exact .inr ⟨_, _, rfl, hc⟩
theorem arg_slice {Z : Fp} {w : World} {ob : Objs} {ρ : Nat → Value} {o sz : Nat} {rows : List (List T)} {v : Value} (h1 : ob o = ⟨0, 0, false, .tree 0 (.sl sz rows)⟩) (h2 : ρ o = v) (h3 : Ow Z w 0 v (.sl sz rows) none_) :
    AVR w ob ρ (.h o 0 0 [] sz 0 rows.length) v := by
  have hin := h3.slice_inv
  refine .h ?_ ?_ fun _ => ?_
  · rw [h1]; exact ⟨Nat.le_refl _, fun _ h => absurd rfl h⟩
  · rcases hin with ⟨rfl, rfl⟩ | ⟨a, c, rfl, hc⟩
    · exact ⟨none, 0, rfl, Nat.le_refl _, fun _ => rfl⟩
    · exact ⟨some a, c, rfl, hc, fun h => by cases h⟩
  · rw [h1, h2]
    refine ⟨fun cells h => by (dsimp only at h; cases h), fun lvl t hc => ?_⟩
    dsimp only at hc
    cases hc
    refine ⟨v, rows, .here, by omega, ?_⟩
    rcases hin with ⟨rfl, rfl⟩ | ⟨a, c, rfl, hc⟩
    · exact .inl ⟨rfl, rfl, rfl, rfl⟩
    · refine .inr ⟨a, rows.length, c, 0, c, rfl, ?_, hc, by omega, Nat.le_refl _, fun _ => rfl⟩
      rw [Nat.zero_mul]
      cases a with
      | mk b off s => cases s <;> simp [Addr.add]
theorem FnOk.outside {P : Program} {W : World} {f : FuncId} {args : List AV} {conts : List Cont} {r : Res} (h : FnOk P f args conts r) (vals : List Value)
    (ho : ∀ (i : Nat) c, conts[i]? = some c → ∃ t v, c = .tree 0 t ∧ vals[i]? = some v ∧ Ow (fun k => k < W.heap.size) W 0 v t none_) (vs : Array Value) (hs : vs.size = args.length)
    (hA : ∀ (i : Nat) x, args[i]? = some x → AVR W (obIn conts) (fun o => vals.getD (o - 1000000) undef) x (vs.getD i undef)) :
    Calls P f vs W (fun e w' => ∃ v, e = .returned v ∧ Below W.heap.size W w' ∧ ∃ ob' ρ', AVR w' ob' ρ' r.v v) := by
  have hI : OInv W none_ (obIn conts) W (fun o => vals.getD (o - 1000000) undef) (fun _ => none_) (fun k => k < W.heap.size) := by
    refine ⟨Keep.refl _ _, fun k hk _ => hk, fun k hk => hk, fun o k hk => hk.elim, fun o o' k hk => hk.elim, fun o k hk => hk.elim, fun o => ?_⟩
    unfold ObOk
    by_cases h1 : 1000000 ≤ o
    · simp only [obIn, h1, if_true]
      cases hc : conts[o - 1000000]? with
      | none =>
        have e : conts.getD (o - 1000000) .dead = .dead := by simp [List.getD, hc]
        rw [e]
        exact fun k hk => hk
      | some c =>
        obtain ⟨t, v, rfl, hv, how⟩ := ho _ _ hc
        have e : conts.getD (o - 1000000) .dead = .tree 0 t := by simp [List.getD, hc]
        have e2 : vals.getD (o - 1000000) undef = v := by simp [List.getD, hv]
        rw [e, e2]
        exact how
    · simp only [obIn, h1, if_false]
      exact fun k hk => hk
  have hr := h.run W none_ _ _ _ vs hI (fun k _ hk => hk) hs hA
  intro cs
  obtain ⟨e, w', fr, hR, hC, hfn, hl⟩ := hr cs
  refine ⟨e, w', fr, ?_, hC, hfn, hl⟩
  cases e with
  | returned v =>
    obtain ⟨ρ', φ', Z', hst, hav⟩ := hR
    exact ⟨v, rfl, ⟨hst.inv.keep.os, hst.inv.keep.tape, hst.inv.keep.output, hst.inv.keep.size, fun k hk => hst.inv.keep.block k hk id⟩, _, _, hav⟩
  | _ => exact hR.elim
theorem AVR.bool_inv {w : World} {ob : Objs} {ρ : Nat → Value} {b : Bool} {v : Value} (h : AVR w ob ρ (.s (.bool b)) v) : v = .bool b := by
  cases h; rfl
end Go.Proofs.YtipfcgbhaalcdaaGreat.Abs
namespace Go.Proofs.YtipfcgbhaalcdaaGreat.Abs
open Go Go.Proofs Go.RowKit
set_option linter.unusedVariables false
set_option linter.unusedSimpArgs false
attribute [local irreducible] callE
theorem ints_Ins {ts : List T} (h : IntsM 5 ts) : ∃ x : Ins, True ∧ ts = rIns x := by
  obtain ⟨zs, hz, rfl⟩ := h
  match zs, hz with
  | [a, b, c, d, e], _ => exact ⟨⟨a, b, c, d, e⟩, trivial, rfl⟩
theorem ints_Event {ts : List T} (h : IntsM 3 ts) : ∃ x : Event, True ∧ ts = rEvent x := by
  obtain ⟨zs, hz, rfl⟩ := h
  match zs, hz with
  | [a, b, c], _ => exact ⟨⟨a, b, c⟩, trivial, rfl⟩
set_option maxRecDepth 20000 in
theorem opens_Ins : Opens Tryz.prog 267 5 (fun ts => ∃ x : Ins, True ∧ ts = rIns x) :=
  (Opens.struct Tryz.underlying267 (by kernel_rfl) (.int rfl (by kernel_rfl) Tryz.underlying3 (.int rfl (by kernel_rfl) Tryz.underlying3 (.int rfl (by kernel_rfl) Tryz.underlying3 (.int rfl (by kernel_rfl) Tryz.underlying3 (.int rfl (by kernel_rfl) Tryz.underlying3 .nil)))))).mono fun _ => ints_Ins
set_option maxRecDepth 20000 in
theorem opens_Event : Opens Tryz.prog 271 3 (fun ts => ∃ x : Event, True ∧ ts = rEvent x) :=
  (Opens.struct Tryz.underlying271 (by kernel_rfl) (.int rfl (by kernel_rfl) Tryz.underlying3 (.int rfl (by kernel_rfl) Tryz.underlying3 (.int rfl (by kernel_rfl) Tryz.underlying3 .nil)))).mono fun _ => ints_Event
set_option maxRecDepth 20000 in
theorem opens_InsS : Opens Tryz.prog 219 1 (fun ts => ∃ l : List Ins, l.length ≤ 140737488355328 ∧ ts = [.sl 5 (l.map rIns)]) :=
  (Opens.slice (sz := 5) (B := 40) Tryz.underlying219 (by kernel_rfl) (by kernel_rfl) (by decide) opens_Ins).mono fun ts h => by
    obtain ⟨rows, rfl, h1, h2⟩ := h
    obtain ⟨l, rfl, hl⟩ := rows_map h1
    rw [List.length_map] at h2
    have := reachBytes_lt
    exact ⟨l, by omega, rfl⟩
set_option maxRecDepth 20000 in
theorem opens_EventS : Opens Tryz.prog 225 1 (fun ts => ∃ l : List Event, l.length ≤ 140737488355328 ∧ ts = [.sl 3 (l.map rEvent)]) :=
  (Opens.slice (sz := 3) (B := 24) Tryz.underlying225 (by kernel_rfl) (by kernel_rfl) (by decide) opens_Event).mono fun ts h => by
    obtain ⟨rows, rfl, h1, h2⟩ := h
    obtain ⟨l, rfl, hl⟩ := rows_map h1
    rw [List.length_map] at h2
    have := reachBytes_lt
    exact ⟨l, by omega, rfl⟩
set_option maxRecDepth 20000 in
theorem opens_ints : Opens Tryz.prog 38 1 (fun ts => ∃ l : List Int, l.length ≤ 140737488355328 ∧ ts = [.sl 1 (l.map rI)]) :=
  (Opens.slice (sz := 1) (B := 8) Tryz.underlying38 (by kernel_rfl) (by kernel_rfl) (by decide) (Opens.int Tryz.underlying3)).mono fun ts h => by
    obtain ⟨rows, rfl, h1, h2⟩ := h
    obtain ⟨l, rfl, _⟩ := rows_map (f := rI) (p := fun _ => True) (fun r hr => by obtain ⟨n, _, rfl⟩ := h1 r hr; exact ⟨n, trivial, rfl⟩)
    rw [List.length_map] at h2
    have := reachBytes_lt
    exact ⟨l, by omega, rfl⟩
set_option maxRecDepth 20000 in
theorem opens_State : Opens Tryz.prog 221 4 (fun ts => ∃ x : State, (x.regs.length ≤ 140737488355328 ∧ x.out.length ≤ 140737488355328) ∧ ts = rState x) :=
  (Opens.struct Tryz.underlying221 (by kernel_rfl) (.mcons rfl (by kernel_rfl) (Opens.int Tryz.underlying3) (.mcons rfl (by kernel_rfl) opens_ints (.mcons rfl (by kernel_rfl) opens_ints (.mcons rfl (by kernel_rfl) (Opens.int Tryz.underlying3) .mnil))))).mono fun ts h => by
    obtain ⟨_, _, rfl, ⟨a, _, rfl⟩, _, _, rfl, ⟨r, hr, rfl⟩, _, _, rfl, ⟨o, ho, rfl⟩, _, _, rfl, ⟨c, _, rfl⟩, rfl⟩ := h
    exact ⟨⟨a, r, o, c⟩, ⟨hr, ho⟩, rfl⟩
set_option maxRecDepth 20000 in
theorem opens_StateS : Opens Tryz.prog 62 1 (fun ts => ∃ l : List State, (l.length ≤ 140737488355328 ∧ ∀ j : Nat, j < l.length → (rd l j).regs.length ≤ 140737488355328 ∧ (rd l j).out.length ≤ 140737488355328) ∧ ts = [.sl 4 (l.map rState)]) :=
  (Opens.slice (sz := 4) (B := 64) Tryz.underlying62 (by kernel_rfl) (by kernel_rfl) (by decide) opens_State).mono fun ts h => by
    obtain ⟨rows, rfl, h1, h2⟩ := h
    obtain ⟨l, rfl, hl⟩ := rows_map h1
    rw [List.length_map] at h2
    have := reachBytes_lt
    exact ⟨l, ⟨by omega, fun j hj => hl _ (rd_mem hj)⟩, rfl⟩
set_option maxRecDepth 20000 in
theorem opens_Item : Opens Tryz.prog 269 2 (fun ts => ∃ x : Item, True ∧ ts = rItem x) :=
  (Opens.struct Tryz.underlying269 (by kernel_rfl) (.mcons rfl (by kernel_rfl) (Opens.bool Tryz.underlying4) (.mcons rfl (by kernel_rfl) (Opens.int Tryz.underlying3) .mnil))).mono fun ts h => by
    obtain ⟨_, _, rfl, ⟨a, rfl⟩, _, _, rfl, ⟨r, _, rfl⟩, rfl⟩ := h
    exact ⟨⟨a, r⟩, trivial, rfl⟩
set_option maxRecDepth 20000 in
theorem opens_ItemS : Opens Tryz.prog 223 1 (fun ts => ∃ l : List Item, l.length ≤ 140737488355328 ∧ ts = [.sl 2 (l.map rItem)]) :=
  (Opens.slice (sz := 2) (B := 16) Tryz.underlying223 (by kernel_rfl) (by kernel_rfl) (by decide) opens_Item).mono fun ts h => by
    obtain ⟨rows, rfl, h1, h2⟩ := h
    obtain ⟨l, rfl, hl⟩ := rows_map h1
    rw [List.length_map] at h2
    have := reachBytes_lt
    exact ⟨l, by omega, rfl⟩
theorem opens_SS {α : Type} {t e : TypeId} {f : α → List T} {sz : Nat} (ht : (Tryz.prog).underlying t = some (.slice e)) (hc : (Tryz.prog).cellsOf e = 1) (hB : (Tryz.prog).bytesOf e = 24)
    (h : Opens Tryz.prog e 1 (fun ts => ∃ l : List α, l.length ≤ 140737488355328 ∧ ts = [.sl sz (l.map f)])) :
    Opens Tryz.prog t 1 (fun ts => ∃ l : List (List α), (l.length ≤ 140737488355328 ∧ ∀ j : Nat, j < l.length → (rd l j).length ≤ 140737488355328) ∧ ts = [.sl 1 (l.map fun x => [T.sl sz (x.map f)])]) :=
  (Opens.slice (sz := 1) (B := 24) ht hc hB (by decide) h).mono fun ts h => by
    obtain ⟨rows, rfl, h1, h2⟩ := h
    obtain ⟨l, rfl, hl⟩ := rows_map h1
    rw [List.length_map] at h2
    have := reachBytes_lt
    exact ⟨l, ⟨by omega, fun j hj => hl _ (rd_mem hj)⟩, rfl⟩
set_option maxRecDepth 20000 in
theorem opens_Sys : Opens Tryz.prog 66 4 (fun ts => ∃ X : Sys, SysB 140737488355328 X.progs X.states X.ways X.hist ∧ ts = [.sl 1 (X.progs.map rInsL), .sl 4 (X.states.map rState), .sl 1 (X.ways.map rItemL), .sl 1 (X.hist.map rEventL)]) :=
  (Opens.struct Tryz.underlying66 (by kernel_rfl) (.mcons rfl (by kernel_rfl) (opens_SS Tryz.underlying61 (by kernel_rfl) (by kernel_rfl) opens_InsS) (.mcons rfl (by kernel_rfl) opens_StateS (.mcons rfl (by kernel_rfl) (opens_SS Tryz.underlying63 (by kernel_rfl) (by kernel_rfl) opens_ItemS) (.mcons rfl (by kernel_rfl) (opens_SS Tryz.underlying64 (by kernel_rfl) (by kernel_rfl) opens_EventS) .mnil))))).mono fun ts h => by
    obtain ⟨_, _, rfl, ⟨P, hP, rfl⟩, _, _, rfl, ⟨S, hS, rfl⟩, _, _, rfl, ⟨W, hW, rfl⟩, _, _, rfl, ⟨X, hX, rfl⟩, rfl⟩ := h
    exact ⟨⟨P, S, W, X⟩, ⟨hP.1, hP.2, hS.1, hS.2, hW.1, hW.2, hX.1, hX.2⟩, rfl⟩
def SysAt (w : World) (v : Value) (X : Sys) : Prop := ∃ a0 a1 a2 a3, v = .agg #[a0, a1, a2, a3] ∧ Ow (fun k => k < w.heap.size) w 0 a0 (.sl 1 (X.progs.map rInsL)) none_ ∧ Ow (fun k => k < w.heap.size) w 0 a1 (.sl 4 (X.states.map rState)) none_ ∧
  Ow (fun k => k < w.heap.size) w 0 a2 (.sl 1 (X.ways.map rItemL)) none_ ∧ Ow (fun k => k < w.heap.size) w 0 a3 (.sl 1 (X.hist.map rEventL)) none_
theorem four {α : Type} {l : Array α} (h : l.size = 4) : ∃ a b c d, l = #[a, b, c, d] := by
  obtain ⟨l⟩ := l
  match l, h with
  | [a, b, c, d], _ => exact ⟨a, b, c, d, rfl⟩
set_option maxRecDepth 20000 in
theorem open_Sys {H : Type} {enc : TypeId × Value → H} {w : World} {base : Nat} {sp : Nat → Bool} {held : Bool} {v : Value} {d : DataW H} {ps : List MemPlace} {r : Go.Reach} {b0 : Nat}
    (hval : Value.okWide Tryz.prog w r b0 66 v) (h : DataW.Trod enc Tryz.prog w base sp held 66 v d ps) (hw : ∀ m ∈ d.weights Tryz.prog 66, m ≤ reachBytes) :
    ∃ X : Sys, SysB 140737488355328 X.progs X.states X.ways X.hist ∧ SysAt w v X := by
  obtain ⟨cs, rfl, hsz⟩ := Go.WideShapes.okWide_struct Tryz.underlying66 hval
  have hsz4 : cs.size = 4 := hsz.trans (by kernel_rfl)
  obtain ⟨a0, a1, a2, a3, rfl⟩ := four hsz4
  obtain ⟨fuel, hf⟩ := h
  obtain ⟨_, ts, h1, ⟨X, hX, rfl⟩, h3⟩ := opens_Sys H enc w base sp held fuel _ _ hf hw
  exact ⟨X, hX, a0, a1, a2, a3, rfl, h3 0 _ _ rfl rfl, h3 1 _ _ rfl rfl, h3 2 _ _ rfl rfl, h3 3 _ _ rfl rfl⟩
structure Stop where
  p : Int
  kind : Int
  v : Int
theorem arg_Sys {Z : Fp} {w : World} {ob : Objs} {ρ : Nat → Value} {j : Nat} {P : List (List Ins)} {S : List State} {W : List (List Item)} {H : List (List Event)} {a0 a1 a2 a3 : Value}
    (g0 : Ow Z w 0 a0 (.sl 1 (P.map rInsL)) none_) (g1 : Ow Z w 0 a1 (.sl 4 (S.map rState)) none_) (g2 : Ow Z w 0 a2 (.sl 1 (W.map rItemL)) none_) (g3 : Ow Z w 0 a3 (.sl 1 (H.map rEventL)) none_)
    (e0 : ob (1000000 + j) = ⟨0, 0, false, tInsSS P⟩) (e1 : ob (1000001 + j) = ⟨0, 0, false, tStateS S⟩) (e2 : ob (1000002 + j) = ⟨0, 0, false, tItemSS W⟩) (e3 : ob (1000003 + j) = ⟨0, 0, false, tEventSS H⟩)
    (r0 : ρ (1000000 + j) = a0) (r1 : ρ (1000001 + j) = a1) (r2 : ρ (1000002 + j) = a2) (r3 : ρ (1000003 + j) = a3) : AVR w ob ρ (aSys j P S W H) (.agg #[a0, a1, a2, a3]) := by
  have h0 := arg_slice e0 r0 g0
  have h1 := arg_slice e1 r1 g1
  have h2 := arg_slice e2 r2 g2
  have h3 := arg_slice e3 r3 g3
  rw [List.length_map] at h0 h1 h2 h3
  refine .ag rfl ?_
  rintro (_ | _ | _ | _ | i) y hy
  · cases hy; exact h0
  · cases hy; exact h1
  · cases hy; exact h2
  · cases hy; exact h3
  · simp at hy

theorem walk_FnExactPack {W : World} {v0 : Value} {X0 : Sys} (h0 : SysB 140737488355328 X0.progs X0.states X0.ways X0.hist)
    (o0 : SysAt W v0 X0) :
    Calls PR 6 #[v0] W (fun e w' => e = .returned (.bool true) ∧ Below W.heap.size W w') := by
  have hF := callE_sound (C := C) tys_ok prims_ok _ _ _ _ _ (ok_laws_FnExactPack 0 X0.progs X0.states X0.ways X0.hist h0)
  obtain ⟨a0_0, a0_1, a0_2, a0_3, rfl, g0_0, g0_1, g0_2, g0_3⟩ := o0
  refine (hF.outside [a0_0, a0_1, a0_2, a0_3] ?_ #[_] rfl ?_).mono ?_
  · rintro (_ | _ | _ | _ | i) c hc
    · cases hc; exact ⟨_, _, rfl, rfl, g0_0⟩
    · cases hc; exact ⟨_, _, rfl, rfl, g0_1⟩
    · cases hc; exact ⟨_, _, rfl, rfl, g0_2⟩
    · cases hc; exact ⟨_, _, rfl, rfl, g0_3⟩
    · simp at hc
  · rintro (_ | i) x hx
    · cases hx
      exact arg_Sys g0_0 g0_1 g0_2 g0_3 rfl rfl rfl rfl rfl rfl rfl rfl
    · simp at hx
  · rintro e w' ⟨v, rfl, hb, ob', ρ', hv⟩
    exact ⟨by rw [hv.bool_inv], hb⟩

end Go.Proofs.YtipfcgbhaalcdaaGreat.Abs
namespace Go.Proofs.YtipfcgbhaalcdaaGreat.fnExactPack
open Go Go.Proofs Go.ChangeShapes Go.WideShapes Go.RowKit Go.Proofs.YtipfcgbhaalcdaaGreat.Abs
set_option linter.unusedVariables false
theorem own : ownKnob Tryz.prog.godebug = none := by kernel_rfl
theorem laidOut : laidOutB Tryz.prog = true := by kernel_rfl
set_option maxRecDepth 100000 in
theorem lifted (os : Os) (started : os.Started) (H : Type) (enc : TypeId × Value → H) :
    ReturnsInHanded {} Tryz.checked os 6 .any (Rows.fnExactPackSpec.pre6 enc Tryz.prog Tryz.f6 Rows.fnExactPackRow.domain false) (Rows.fnExactPackSpec.post enc Tryz.prog Tryz.f6 false true false false) := by
  refine returnsInHanded_of_change_sized (C := Tryz.checked) own started (by kernel_rfl) Tryz.func6
    (ChangeSpec.witness6 (enc := enc) (C := Tryz.checked) false ⟨#[], #[.agg #[.slice none 0 0, .slice none 0 0, .slice none 0 0, .slice none 0 0]], []⟩ 8 (by kernel_rfl) (by kernel_rfl) (by kernel_rfl) (by kernel_rfl)) ?_
  intro W base args ds gs before hval0 hW hcnd hsz0 _
  have hsz : (DataW.weightsEach Tryz.prog (Tryz.f6.params.toList ++ Rows.fnExactPackSpec.plain.varTypes Tryz.prog) (ds ++ gs)).all (· ≤ reachBytes) = true := hsz0
  have hval : ∀ (j : Nat) t v, Tryz.f6.params[j]? = some t → args[j]? = some v → Value.okWide Tryz.prog W .any base t v := hval0
  have hW' := hW
  obtain ⟨p, q, hA0, hV, rfl, hfz, hnd⟩ := hW
  have hA : DataW.TrodAll enc Tryz.prog W 0 (fun _ => true) true Tryz.f6.params.toList args.toList ds p := hA0
  rw [Tryz.params6] at hA hval hsz
  obtain ⟨v0, vs0, d0, ds0, p0, q0, hargs, rfl, rfl, h0, r0⟩ := trodAll_cons hA
  obtain ⟨rfl, rfl, rfl⟩ := trodAll_nil r0
  obtain rfl : args = #[v0] := by cases args; simp_all
  obtain ⟨rfl, rfl⟩ := trodVars_none hV
  have hwt : ∀ (j : Nat) t d, [66][j]? = some t → [d0][j]? = some d → ∀ m ∈ d.weights Tryz.prog t, m ≤ reachBytes := by
    intro j t d ht hd m hm
    have := List.all_eq_true.1 hsz m (DataW.weights_mem_each (j := j) (t := t) (d := d) ht hd m hm)
    simpa using this
  have k0 := h0
  have lt0 : ∀ x ∈ p0, x.block < W.heap.size := by obtain ⟨m, hm⟩ := k0; exact DataW.trod_lt m _ _ _ hm
  obtain ⟨l0, s0, o0⟩ := open_Sys (hval 0 66 v0 rfl rfl) h0 (hwt 0 _ _ rfl rfl)
  clear hA0 hval0 hsz0 hsz hwt
  refine (walk_FnExactPack s0 o0).mono fun e W' ⟨he, bel⟩ => ?_
  subst he
  exact ⟨_, rfl, _, _, _, [], _, [], hW', trodAll_mk1 (shut_bool Tryz.underlying4 _), (trodAll_cons_mk (Below.trod laidOut (by kernel_rfl) (of_decide_eq_true (by kernel_rfl)) k0 bel lt0) trodAll_mk0), rfl, bel.frame _, fun h => by cases h⟩
theorem andT {a b : Bool} (h1 : a = true) (h2 : b = true) : (a && b) = true := by rw [h1, h2]; rfl
theorem j0 : Rows.fnExactPackRow.wf (OpenSpec.ofChange Rows.fnExactPackSpec) = true := by kernel_rfl
theorem j1 : laidOutB Tryz.prog = true := by kernel_rfl
theorem j2 : mapsRowed Tryz.prog = true := by kernel_rfl
theorem j3 : Tryz.f6.params.all (Tryz.prog.readableRec ·) = true := by kernel_rfl
theorem j4 : namedTie Tryz.prog Rows.fnExactPackRow.named Rows.fnExactPackSpec.vars = true := by kernel_rfl
theorem j5 : (Rows.fnExactPackRow.stops == []) = true := by kernel_rfl
theorem j6 : (Tryz.prog.stops == []) = true := by kernel_rfl
theorem j7 : (Rows.fnExactPackRow.knobs == []) = true := by kernel_rfl
theorem j8 : (Tryz.prog.stopKnobs == []) = true := by kernel_rfl
theorem j9 : (Rows.fnExactPackRow.inPlace == Tryz.prog.inPlace 6) = true := by kernel_rfl
theorem j10 : (Rows.fnExactPackRow.unfollowed == Tryz.prog.unfollowed 6) = true := by kernel_rfl
theorem j11 : (Rows.fnExactPackRow.recurses == Tryz.prog.recurses 6) = true := by kernel_rfl
theorem j12 : (Rows.fnExactPackRow.named == Tryz.prog.varsNamed 6) = true := by kernel_rfl
theorem j13 : (Rows.fnExactPackRow.maps == (Tryz.f6.params.toList ++ Rows.fnExactPackSpec.plain.varTypes Tryz.prog).any (Tryz.prog.mapsRec ·)) = true := by kernel_rfl
theorem j14 : (Rows.fnExactPackRow.ifaces == (Tryz.f6.params.toList ++ Rows.fnExactPackSpec.plain.varTypes Tryz.prog).any (Tryz.prog.ifacesRec ·)) = true := by kernel_rfl
theorem j15 : (Rows.fnExactPackRow.mapsOut == Tryz.prog.mapsAmong Tryz.f6.resultTypes.toList) = true := by kernel_rfl
theorem j16 : (Rows.fnExactPackRow.loops == (Tryz.f6.params.toList ++ Rows.fnExactPackSpec.plain.varTypes Tryz.prog).any (Tryz.prog.loopsFrom ·)) = true := by kernel_rfl
theorem j17 : (Rows.fnExactPackRow.wideKeys == (Tryz.f6.params.toList ++ Rows.fnExactPackSpec.plain.varTypes Tryz.prog ++ Tryz.f6.resultTypes.toList).any (Tryz.prog.wideKeysFrom ·)) = true := by kernel_rfl
theorem j18 : Rows.fnExactPackSpec.vars.all (Tryz.prog.varReadable ·) = true := by kernel_rfl
theorem j19 : Tryz.f6.resultTypes.all (fun t => Tryz.prog.readableRec t && decide (t < Tryz.prog.types.size)) = true := by kernel_rfl
theorem j20 : (Rows.fnExactPackRow.ifacesOut == Tryz.f6.resultTypes.toList.any (Tryz.prog.ifacesRec ·)) = true := by kernel_rfl
theorem j21 : (Rows.fnExactPackRow.loopsOut == Tryz.f6.resultTypes.toList.any (Tryz.prog.loopsFrom ·)) = true := by kernel_rfl
theorem j22 : (Rows.fnExactPackRow.plainKeys == Tryz.prog.plainKeys) = true := by kernel_rfl
theorem j23 : Rows.fnExactPackRow.shortTexts.isNone = true := by kernel_rfl
theorem j24 : Tryz.prog.stopsHeard = true := by kernel_rfl
theorem j25 : Tryz.prog.mayEnter = true := by kernel_rfl
theorem j26 : (Rows.fnExactPackRow.lifted == Tryz.prog.liftsFinal) = true := by kernel_rfl
theorem j27 : (Tryz.prog.make == some Rows.fnExactPackRow.make) = true := by kernel_rfl
theorem j28 : (Rows.fnExactPackRow.kinds == (if Rows.fnExactPackRow.domain.isEmpty then [] else Tryz.f6.params.toList.map fun t => match Tryz.prog.underlying t with | some (.int k) => some k | _ => none)) = true := by kernel_rfl
theorem j29 : (Rows.fnExactPackRow.pinned == Rows.fnExactPackRow.pinnedBy) = true := by kernel_rfl
theorem j30 : (Rows.fnExactPackRow.veiled == (Tryz.f6.params.toList ++ Rows.fnExactPackSpec.plain.varTypes Tryz.prog ++ Tryz.f6.resultTypes.toList).any (Tryz.prog.veiledRec ·)) = true := by kernel_rfl
theorem j31 : Rows.fnExactPackRow.veiledFits Tryz.prog Tryz.f6.params.toList (Tryz.f6.params.toList ++ Rows.fnExactPackSpec.plain.varTypes Tryz.prog ++ Tryz.f6.resultTypes.toList) = true := by kernel_rfl
set_option maxRecDepth 100000 in
theorem joined : joinedFacts Tryz.prog 6 Tryz.f6 Rows.fnExactPackSpec Rows.fnExactPackRow = true := by
  unfold joinedFacts
  exact andT (andT (andT (andT (andT (andT (andT (andT (andT (andT (andT (andT (andT (andT (andT (andT (andT (andT (andT (andT (andT (andT (andT (andT (andT (andT (andT (andT (andT (andT (andT j0 j1) j2) j3) j4) j5) j6) j7) j8) j9) j10) j11) j12) j13) j14) j15) j16) j17) j18) j19) j20) j21) j22) j23) j24) j25) j26) j27) j28) j29) j30) j31
theorem over : Rows.fnExactPackRow.holds Tryz.pinned (OpenSpec.ofChange Rows.fnExactPackSpec) :=
  OpenClaim.holds_of_wide 6 Tryz.f6 rfl rfl rfl rfl rfl rfl rfl ⟨rfl, rfl, rfl, rfl, rfl⟩ rfl rfl rfl rfl rfl (by kernel_rfl) Tryz.func6 joined
    (of_decide_eq_true (by kernel_rfl)) (by unfold Func.isWrapper; first | (rw [if_pos (by decide +kernel)]; kernel_rfl) | (rw [if_neg (by decide +kernel)]; exact ⟨rfl, rfl⟩))
    (fun os started H enc _ => lifted os started H enc)
theorem proved : Rows.FnExactPackSaid := over
#print axioms proved
end Go.Proofs.YtipfcgbhaalcdaaGreat.fnExactPack
namespace Go.Proofs.YtipfcgbhaalcdaaGreat
theorem fnExactPack_holds : Rows.FnExactPackSaid := fnExactPack.proved
end Go.Proofs.YtipfcgbhaalcdaaGreat

