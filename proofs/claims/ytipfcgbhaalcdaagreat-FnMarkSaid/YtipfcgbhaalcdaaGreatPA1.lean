/- Part 1 of the words by which the law is followed: an interpreter over data trees, proved of the machine, and what functions of this program come to by it. No condition. -/
import Derived.Calls
import Derived.Below
import Derived.Laws.BytesArg
import Derived.Laws.Cells
import Derived.ArgAppend
import Derived.Laws.Append
import Derived.Laws.AppendOwn
import Derived.Laws.Slices
namespace Go.Proofs.YtipfcgbhaalcdaaGreat.Abs
open Go
set_option linter.unusedVariables false

inductive T where
  | v (x : Value)
  | sl (sz : Nat) (rows : List (List T))
  | hole

inductive AV where
  | s (x : Value)
  | h (o b g : Nat) (p : List (Nat × Nat)) (sz lo len : Nat)
  | pt (o b g : Nat) (p : List (Nat × Nat)) (i j : Nat)
  | ag (l : List AV)
  | tu (l : List AV)
  | fn (f : FuncId) (caps : List AV)
  | nl (sz : Nat)
  | u

inductive Cont where
  | dead
  | tree (lvl : Nat) (t : T)
  | box (cells : List AV)

structure Ob where
  birth : Nat
  sver : Nat
  dirty : Bool
  c : Cont

abbrev Objs := Nat → Ob
abbrev Slots := Nat → AV

structure St where
  sl : Slots
  ob : Objs

def upd {α : Type} (f : Nat → α) (n : Nat) (a : α) : Nat → α := fun m => if m = n then a else f m
def upds {α : Type} (f : Nat → α) : List (Nat × α) → (Nat → α)
  | [] => f
  | (n, a) :: r => upds (upd f n a) r

def T.at? : T → List (Nat × Nat) → Option T
  | t, [] => some t
  | .sl _ rows, (i, j) :: p => match rows[i]? with
    | some r => match r[j]? with
      | some t => t.at? p
      | none => none
    | none => none
  | _, _ :: _ => none
def T.put : T → List (Nat × Nat) → T → T
  | _, [], x => x
  | .sl sz rows, (i, j) :: p, x => .sl sz (rows.modify i fun r => r.modify j fun t => t.put p x)
  | t, _ :: _, _ => t

inductive Rd (α : Type) where
  | ret (a : α)
  | get (o : Nat) (k : Ob → Rd α)
  | fail
def Rd.run {α : Type} : Rd α → Objs → Option α
  | .ret a, _ => some a
  | .get o k, ob => (k (ob o)).run ob
  | .fail, _ => none
def Rd.ids {α : Type} : Rd α → Objs → List Nat
  | .ret _, _ => []
  | .get o k, ob => o :: (k (ob o)).ids ob
  | .fail, _ => []

structure TyI where
  cells : List AV
  agg : Bool
  bytes : Nat
  offs : List (Nat × Nat)
  elem : Option TypeId
  esz : Nat
  eqs : Bool

def scalar : Value → Bool
  | .bool _ | .int .. | .float .. | .complex .. | .string _ | .pointer none | .nilFunc | .nilIface => true
  | _ => false
def isV : T → Bool | .v _ => true | _ => false
def flat (rows : List (List T)) : Bool := rows.all fun r => r.all isV
def wide (n : Nat) (rows : List (List T)) : Bool := rows.all fun r => r.length == n

def avOf (o b g : Nat) (p : List (Nat × Nat)) (i j : Nat) : T → AV
  | .v x => .s x
  | .sl sz rows => .h o b g (p ++ [(i, j)]) sz 0 rows.length
  | .hole => .u

def look {α : Type} (o b g : Nat) (p : List (Nat × Nat)) (k : Ob → Nat → T → Nat → List (List T) → Rd α) : Rd α :=
  .get o fun ob => match ob.c with
    | .tree lvl t => if ob.birth = b ∧ (p = [] ∨ ob.sver = g) then
        match t.at? p with
        | some (.sl sz rows) => k ob lvl t sz rows
        | _ => .fail
      else .fail
    | _ => .fail
def lookBox {α : Type} (o b : Nat) (k : Ob → List AV → Rd α) : Rd α :=
  .get o fun ob => match ob.c with
    | .box cells => if ob.birth = b then k ob cells else .fail
    | _ => .fail

def grab {α : Type} : List AV → List Nat → (List T → Nat → List (Nat × Ob) → Rd α) → Rd α
  | [], _, k => k [] 8 []
  | .s x :: r, mv, k => grab r mv fun ts l ss => k (.v x :: ts) l ss
  | .nl sz :: r, mv, k => grab r mv fun ts l ss => k (.sl sz [] :: ts) l ss
  | .h o b g p sz lo len :: r, mv, k => look o b g p fun ob lvl t sz rows =>
      if o ∈ mv then .fail
      else if lvl - p.length = 0 then grab r mv fun ts l ss => k (.sl sz ((rows.drop lo).take len) :: ts) 0 ss
      else if p = [] then grab r (o :: mv) fun ts l ss => k (.sl sz ((rows.drop lo).take len) :: ts) (min lvl l) ((o, { ob with dirty := true, c := .dead }) :: ss)
      else .fail
  | _ :: _, _, _ => .fail

def AV.cells : AV → List AV
  | .ag l => l
  | x => [x]

def putList {α : Type} (l : List α) (j : Nat) (r : List α) : List α := l.take j ++ r ++ l.drop (j + r.length)

def binInt (op : BinOp) (k : IntKind) (a b : Int) : Option Value :=
  match op with
  | .add => some (.int k (k.wrap (a + b)))
  | .sub => some (.int k (k.wrap (a - b)))
  | .mul => some (.int k (k.wrap (a * b)))
  | .quo => if b = 0 then none else some (.int k (k.wrap (a.tdiv b)))
  | .rem => if b = 0 then none else some (.int k (a.tmod b))
  | .and => some (.int k (Go.bits .and k a b))
  | .or => some (.int k (Go.bits .or k a b))
  | .xor => some (.int k (Go.bits .xor k a b))
  | .eql => some (.bool (decide (a = b)))
  | .neq => some (.bool (decide (a ≠ b)))
  | .lss => some (.bool (decide (a < b)))
  | .leq => some (.bool (decide (a ≤ b)))
  | .gtr => some (.bool (decide (a > b)))
  | .geq => some (.bool (decide (a ≥ b)))
  | _ => none
def eqCells : List AV → List AV → Option Bool
  | [], [] => some true
  | .s (.int k a) :: r, .s (.int k' b) :: r' => if k = k' then (eqCells r r').map fun t => decide (a = b) && t else none
  | _, _ => none
def binStr (op : BinOp) (a b : ByteArray) : Option Value :=
  match op with
  | .add => if a.size + b.size ≤ 4611686018427387904 then some (.string (a ++ b)) else none
  | .eql => some (.bool (a.toList == b.toList))
  | .neq => some (.bool (!(a.toList == b.toList)))
  | _ => none
def bin (op : BinOp) : AV → AV → Option AV
  | .s (.int k a), .s (.int k' b) => if k = k' then (binInt op k a b).map .s else none
  | .s (.string a), .s (.string b) => (binStr op a b).map .s
  | .s (.bool a), .s (.bool b) => match op with
    | .eql => some (.s (.bool (a == b)))
    | .neq => some (.s (.bool (!(a == b))))
    | _ => none
  | .ag l, .ag l' => match op with
    | .eql => (eqCells l l').map fun t => .s (.bool t)
    | .neq => (eqCells l l').map fun t => .s (.bool (!t))
    | _ => none
  | _, _ => none

structure Res where
  v : AV
  news : List Cont
  back : List (Option Cont)

inductive Src where
  | root (o b : Nat)
  | nest (o b g : Nat) (p : List (Nat × Nat)) (lvl : Nat)
  | ro (x : AV)
  | box (o b : Nat)
def Src.id? : Src → Option Nat
  | .root o _ | .nest o _ _ _ _ | .box o _ | .ro (.h o _ _ _ _ _ _) => some o
  | _ => none
def Src.writes : Src → Bool
  | .root .. | .nest .. | .box .. => true
  | _ => false
def clash (a b : Src) : Bool := match a.id?, b.id? with
  | some o, some o' => o == o' && (a.writes || b.writes)
  | _, _ => false
def srcsOk : List Src → Bool
  | [] => true
  | a :: r => r.all (fun b => !clash a b) && srcsOk r

def imp {α : Type} (md : List Bool) : Nat → List AV → List (Cont × Src) → (List AV → List (Cont × Src) → Rd α) → Rd α
  | _, [], es, k => k [] es
  | n + 1, .s x :: r, es, k => imp md n r es fun l es => k (.s x :: l) es
  | n + 1, .nl sz :: r, es, k => if md.getD 90 false = true then imp md n r es fun l es => k (.nl sz :: l) es
      else imp md n r (es ++ [(.tree (if md.getD es.length false then 9 else 0) (.sl sz []), .ro (.nl sz))]) fun l es' => k (.h (1000000 + es.length) 0 0 [] sz 0 0 :: l) es'
  | n + 1, .u :: r, es, k => imp md n r es fun l es => k (.u :: l) es
  | n + 1, .ag c :: r, es, k => imp md n c es fun c es => imp md n r es fun l es => k (.ag c :: l) es
  | n + 1, .fn f c :: r, es, k => imp md n c es fun c es => imp md n r es fun l es => k (.fn f c :: l) es
  | n + 1, .h o b g p sz lo len :: r, es, k => look o b g p fun _ lvl _ sz' rows =>
      if md.getD es.length false then
        (if lo = 0 ∧ len = rows.length ∧ p.length < lvl then
          imp md n r (es ++ [(.tree (lvl - p.length) (.sl sz' rows), if p = [] then .root o b else .nest o b g p lvl)]) fun l es' => k (.h (1000000 + es.length) 0 0 [] sz' 0 len :: l) es'
         else .fail)
      else imp md n r (es ++ [(.tree 0 (.sl sz' ((rows.drop lo).take len)), .ro (.h o b g p sz lo len))]) fun l es' => k (.h (1000000 + es.length) 0 0 [] sz' 0 ((rows.drop lo).take len).length :: l) es'
  | n + 1, .pt o b _ [] 0 0 :: r, es, k => lookBox o b fun _ cells =>
      imp md n cells es fun cells es' => imp md n r (es' ++ [(.box cells, .box o b)]) fun l es'' => k (.pt (1000000 + es'.length) 0 0 [] 0 0 :: l) es''
  | _, _ :: _, _, _ => .fail

def T.full : Nat → T → Bool
  | _, .v _ => true
  | l + 1, .sl _ rows => rows.all fun r => r.all fun t => T.full l t
  | _, _ => false

def T.like : T → T → Bool
  | .sl sz rows, .sl sz' rows' => sz == sz' && rows.length == rows'.length
  | _, _ => false
def isBox : Option Cont → Bool | some (.box _) => true | _ => false
def expo (ob : Nat → Ob) (conts : List Cont) : Nat → List AV → List (Nat × Nat × Nat × Nat) → List Cont → Option (List AV × List (Nat × Nat × Nat × Nat) × List Cont)
  | _, [], mv, ns => some ([], mv, ns)
  | k + 1, .s x :: r, mv, ns => match expo ob conts k r mv ns with
    | some (l, mv, ns) => some (.s x :: l, mv, ns)
    | none => none
  | k + 1, .u :: r, mv, ns => match expo ob conts k r mv ns with
    | some (l, mv, ns) => some (.u :: l, mv, ns)
    | none => none
  | k + 1, .nl sz :: r, mv, ns => match expo ob conts k r mv (ns ++ [.tree 9 (.sl sz [])]) with
    | some (l, mv, ns') => some (.h (2000000 + ns.length) 1 0 [] sz 0 0 :: l, mv, ns')
    | none => none
  | k + 1, .ag c :: r, mv, ns => match expo ob conts k c mv ns with
    | some (c, mv, ns) => match expo ob conts k r mv ns with
      | some (l, mv, ns) => some (.ag c :: l, mv, ns)
      | none => none
    | none => none
  | k + 1, .tu c :: r, mv, ns => match expo ob conts k c mv ns with
    | some (c, mv, ns) => match expo ob conts k r mv ns with
      | some (l, mv, ns) => some (.tu c :: l, mv, ns)
      | none => none
    | none => none
  | k + 1, .h o b _ p sz lo len :: r, mv, ns =>
    if p = [] ∧ (ob o).birth = b then match (ob o).c with
      | .tree 0 _ => match conts[o - 1000000]? with
        | some (.tree 0 (.sl sz' rows)) => if b = 0 ∧ 1000000 ≤ o ∧ sz' = sz ∧ lo + len ≤ rows.length then
          match expo ob conts k r mv ns with
          | some (l, mv, ns) => some (.h o 0 0 [] sz lo len :: l, mv, ns)
          | none => none
          else none
        | _ => none
      | .tree (lv + 1) (.sl _ rows) => match mv.find? (·.1 == o) with
        | some (_, j, lo', len') => if lo' = lo ∧ len' = len ∧ (lo = 0 ∨ 0 < len) then
            match expo ob conts k r mv ns with
            | some (l, mv, ns) => some (.h (2000000 + j) 1 0 [] sz 0 len :: l, mv, ns)
            | none => none
          else none
        | none => if T.full (lv + 1) (.sl sz ((rows.drop lo).take len)) = true then
            match expo ob conts k r ((o, ns.length, lo, len) :: mv) (ns ++ [.tree (lv + 1) (.sl sz ((rows.drop lo).take len))]) with
            | some (l, mv, ns') => some (.h (2000000 + ns.length) 1 0 [] sz 0 len :: l, mv, ns')
            | none => none
          else none
      | _ => none
    else none
  | k + 1, .pt o b _ p i j :: r, mv, ns =>
    if p = [] ∧ i = 0 ∧ j = 0 ∧ (ob o).birth = b then match (ob o).c with
      | .box cells => if 1000000 ≤ o ∧ o < 1000000 + conts.length then
          if b = 0 ∧ isBox conts[o - 1000000]? = true then
          match expo ob conts k r mv ns with
          | some (l, mv, ns) => some (.pt o 0 0 [] 0 0 :: l, mv, ns)
          | none => none
          else none
        else match mv.find? (·.1 == o) with
        | some _ => none
        | none => match expo ob conts k cells ((o, 0, 0, 0) :: mv) ns with
          | some (c, mv, ns1) => match expo ob conts k r mv (ns1 ++ [.box c]) with
            | some (l, mv, ns2) => some (.pt (2000000 + ns1.length) 1 0 [] 0 0 :: l, mv, ns2)
            | none => none
          | none => none
      | _ => none
    else none
  | _, _ :: _, _, _ => none
def boxArgs (ob : Nat → Ob) : Nat → List Cont → List AV
  | _, [] => []
  | i, .box _ :: r => (match (ob (1000000 + i)).c with | .box l => if (ob (1000000 + i)).birth = 0 then .ag l else .tu [.fn 0 [.u]] | _ => .tu [.fn 0 [.u]]) :: boxArgs ob (i + 1) r
  | i, _ :: r => boxArgs ob (i + 1) r
def backE (ob : Nat → Ob) (mv : List (Nat × Nat × Nat × Nat)) : Nat → List Cont → List AV → Option (List (Option Cont))
  | _, [], _ => some []
  | i, .box _ :: r, .ag l :: bs => (backE ob mv (i + 1) r bs).map (some (.box l) :: ·)
  | i, .tree 0 _ :: r, bs => (backE ob mv (i + 1) r bs).map (none :: ·)
  | i, .tree (_ + 1) t0 :: r, bs =>
    if mv.any (·.1 == 1000000 + i) then (backE ob mv (i + 1) r bs).map (some .dead :: ·)
    else match (ob (1000000 + i)).c with
      | .tree l t => if T.full l t = true ∧ t.like t0 = true ∧ (ob (1000000 + i)).birth = 0 then (backE ob mv (i + 1) r bs).map (some (.tree l t) :: ·) else none
      | .dead => (backE ob mv (i + 1) r bs).map (some .dead :: ·)
      | .box _ => none
  | _, _, _ => none

end Go.Proofs.YtipfcgbhaalcdaaGreat.Abs
namespace Go.Proofs.YtipfcgbhaalcdaaGreat.Abs
open Go
set_option linter.unusedVariables false

structure Env where
  ty : TypeId → Option TyI
  call : FuncId → List AV → List Cont → Option Res
  md : FuncId → List Bool
  nt : Nat

def ev (sl : Slots) : Operand → AV
  | .tmp t => sl t
  | .const (.slice none 0 0) => .nl 0
  | .const x => if scalar x then .s x else .u
  | .func f => .fn f []
  | .global _ => .u
def evT (E : Env) (sl : Slots) (t : TypeId) (x : Operand) : AV :=
  match ev sl x with
  | .nl n => match E.ty t with
    | some i => .nl i.esz
    | none => .nl n
  | a => a
def AV.cells? : AV → Option (List AV)
  | .ag l => some l
  | .tu _ => none
  | .u => none
  | x => some [x]

def fillAt (place : Nat → Option (Nat × Nat)) (cells : List AV) : List (Nat × AV) → Option (List AV)
  | [] => some cells
  | (i, a) :: r => match place i, a.cells? with
    | some (o, n), some l => if l.length = n ∧ o + n ≤ cells.length then fillAt place (putList cells o l) r else none
    | _, _ => none

def expV (nid : Nat → AV) (src : List (Cont × Src)) : Nat → AV → AV
  | 0, _ => .u
  | n + 1, .h o b _ p sz lo len => if 2000000 ≤ o then (if p = [] ∧ b = 1 then
        (match nid (o - 2000000) with
        | .h o' b' _ _ _ _ _ => .h o' b' 0 [] sz lo len
        | _ => .u) else .u)
      else if p = [] ∧ b = 0 ∧ 1000000 ≤ o then (match src[o - 1000000]? with
        | some (.tree 0 _, .ro (.h o' b' g' p' _ lo' _)) => .h o' b' g' p' sz (lo' + lo) len
        | some (.tree 0 _, .ro (.nl sz)) => .nl sz
        | _ => .u) else .u
  | n + 1, .pt o b _ p i j => if p = [] ∧ i = 0 ∧ j = 0 then (if 2000000 ≤ o then (if b = 1 then
        (match nid (o - 2000000) with
        | .pt o' b' _ _ _ _ => .pt o' b' 0 [] 0 0
        | _ => .u) else .u)
      else if b = 0 ∧ 1000000 ≤ o then (match src[o - 1000000]? with
        | some (_, .box o b) => .pt o b 0 [] 0 0
        | _ => .u) else .u) else .u
  | n + 1, .ag l => .ag (l.map (expV nid src n))
  | n + 1, .tu l => .tu (l.map (expV nid src n))
  | _ + 1, .fn _ _ => .u
  | _ + 1, .s x => .s x
  | _ + 1, .nl n => .nl n
  | _ + 1, .u => .u

def backs {α : Type} : List (Option Cont) → List (Cont × Src) → (List (Nat × Ob) → Rd α) → Rd α
  | [], [], k => k []
  | none :: r, _ :: es, k => backs r es k
  | some _ :: r, (_, .ro (.nl _)) :: es, k => backs r es k
  | some .dead :: r, (_, .root o _) :: es, k => .get o fun ob => backs r es fun ss => k ((o, ⟨ob.birth, ob.sver + 1, true, .dead⟩) :: ss)
  | some (.tree l t) :: r, (_, .root o _) :: es, k => .get o fun ob => backs r es fun ss => k ((o, ⟨ob.birth, ob.sver + 1, true, .tree l t⟩) :: ss)
  | some (.box cells) :: r, (_, .box o _) :: es, k => .get o fun ob => backs r es fun ss => k ((o, ⟨ob.birth, ob.sver, true, .box (cells.map fun _ => .u)⟩) :: ss)
  | some (.tree l' t') :: r, (_, .nest o _ _ p _) :: es, k => .get o fun ob => match ob.c with
    | .tree l t => if l' + p.length = l then backs r es fun ss => k ((o, ⟨ob.birth, ob.sver + 1, true, .tree l (t.put p t')⟩) :: ss) else .fail
    | _ => .fail
  | _, _, _ => .fail
def boxBacks {α : Type} (nid : Nat → AV) (src : List (Cont × Src)) : List (Option Cont) → List (Cont × Src) → (List (Nat × Ob) → Rd α) → Rd α
  | some (.box cells) :: r, (_, .box o _) :: es, k => .get o fun ob => boxBacks nid src r es fun ss => k ((o, ⟨ob.birth, ob.sver, true, .box (cells.map (expV nid src 9))⟩) :: ss)
  | _ :: r, _ :: es, k => boxBacks nid src r es k
  | _, _, k => k []
def freeOk (vs : List AV) (es : List (Cont × Src)) : Bool := es.all fun e => match e.2 with
  | .box o _ => vs.all fun | .h o' _ _ _ _ _ _ => o' != o | .pt o' _ _ _ _ _ => o' != o | _ => false
  | _ => true

structure Out where
  v : AV
  sets : List (Nat × Ob)

def newIds {α : Type} (d : Nat) : Nat → List Cont → (List AV → Rd α) → Rd α
  | _, [], k => k []
  | n, .tree _ _ :: r, k => .get (d + 10000 * (n + 1)) fun ob => newIds d (n + 1) r fun vs => k (.h (d + 10000 * (n + 1)) (ob.birth + 1) 0 [] 0 0 0 :: vs)
  | n, .box _ :: r, k => .get (d + 10000 * (n + 1)) fun ob => newIds d (n + 1) r fun vs => k (.pt (d + 10000 * (n + 1)) (ob.birth + 1) 0 [] 0 0 :: vs)
  | _, .dead :: _, _ => .fail
def newObs : List AV → List Cont → List (Nat × Ob)
  | .h o b _ _ _ _ _ :: vs, .tree l t :: r => (o, ⟨b, 0, false, .tree l t⟩) :: newObs vs r
  | .pt o b _ _ _ _ :: vs, .box l :: r => (o, ⟨b, 0, false, .box (l.map fun _ => .u)⟩) :: newObs vs r
  | _, _ => []
def newBoxes (nid : Nat → AV) (src : List (Cont × Src)) : List AV → List Cont → List (Nat × Ob)
  | .pt o b _ _ _ _ :: vs, .box l :: r => (o, ⟨b, 0, false, .box (l.map (expV nid src 9))⟩) :: newBoxes nid src vs r
  | _ :: vs, _ :: r => newBoxes nid src vs r
  | _, _ => []

def mk (d : Nat) (c : Cont) (k : Nat → AV) (ss : List (Nat × Ob)) : Rd Out := .get d fun ob => .ret ⟨k (ob.birth + 1), ss ++ [(d, ⟨ob.birth + 1, 0, false, c⟩)]⟩
def val (x : AV) : Rd Out := .ret ⟨x, []⟩
def opt (x : Option AV) : Rd Out := match x with | some x => .ret ⟨x, []⟩ | none => .fail

def okCell : AV → Bool | .u => false | .ag _ => false | .tu _ => false | _ => true

def exStore (n : Nat) (a x : AV) : Rd Out := match a with
  | .pt o b g p i j => .get o fun ob => match ob.c with
    | .box cells => match x.cells? with
      | some l => if ob.birth = b ∧ p = [] ∧ j + l.length ≤ cells.length ∧ l.length = n ∧ l.all okCell = true then .ret ⟨.u, [(o, { ob with dirty := true, c := .box (putList cells j l) })]⟩ else .fail
      | none => .fail
    | .tree lvl t => if ob.birth = b ∧ (p = [] ∨ ob.sver = g) ∧ p.length < lvl then
        match t.at? p with
        | some (.sl sz rows) => match rows[i]? with
          | some r => match x.cells? with
            | some l => grab l [o] fun ts lv ss => if j + ts.length ≤ r.length ∧ l.length = n ∧ lvl ≤ p.length + 1 + lv then
                .ret ⟨.u, ss ++ [(o, { ob with sver := ob.sver + 1, dirty := true, c := .tree lvl (t.put p (.sl sz (rows.set i (putList r j ts)))) })]⟩ else .fail
            | none => .fail
          | none => .fail
        | _ => .fail
      else .fail
    | .dead => .fail
  | _ => .fail
def recutK (o i j : Nat) (p : List (Nat × Nat)) (g' lo len : Nat) (ob : Ob) (lvl : Nat) (t : T) (sz : Nat) (rows : List (List T)) : Rd Out :=
  if p.length + 1 < lvl ∧ ob.sver = g' then
        match rows[i]? with
        | some r => match r[j]? with
          | some (.sl sz2 rows2) => .ret ⟨.u, [(o, { ob with sver := ob.sver + 1, dirty := true, c := .tree lvl (t.put p (.sl sz (rows.set i (putList r j [.sl sz2 ((rows2.drop lo).take len)])))) })]⟩
          | _ => .fail
        | none => .fail
        else .fail
def exRecut (a x : AV) : Rd Out := match a, x with
  | .pt o b g p i j, .h o' b' g' p' _ lo len => if o' = o ∧ b' = b ∧ p' = p ++ [(i, j)] then look o b g p (recutK o i j p g' lo len) else .fail
  | _, _ => .fail
def isRecut (a x : AV) : Bool := match a, x with
  | .pt o b g p i j, .h o' b' g' p' _ lo len => decide (o' = o ∧ p' = p ++ [(i, j)])
  | _, _ => false

def exLoad (E : Env) (ti : TyI) (a : AV) : Rd Out := match a with
  | .pt o b g p i j => .get o fun ob => match ob.c with
    | .box cells => if ob.birth = b ∧ p = [] then
        (if ti.agg then (if j + ti.cells.length ≤ cells.length then val (.ag ((cells.drop j).take ti.cells.length)) else .fail)
         else match cells[j]? with | some x => val x | none => .fail)
      else .fail
    | .tree lvl t => if ob.birth = b ∧ (p = [] ∨ ob.sver = g) then
        match t.at? p with
        | some (.sl sz rows) => match rows[i]? with
          | some r => if ti.agg then (if j + ti.cells.length ≤ r.length then val (.ag (((r.drop j).take ti.cells.length).zipIdx.map fun (t, k) => avOf o b ob.sver p i (j + k) t)) else .fail)
              else match r[j]? with | some t => val (avOf o b ob.sver p i j t) | none => .fail
          | none => .fail
        | _ => .fail
      else .fail
    | .dead => .fail
  | _ => .fail

def solid (rows : List (List T)) : Bool := rows.all fun r => r.all fun | .hole => false | _ => true
def exTail {α : Type} (x : AV) (k : List (List T) → Nat → List (Nat × Ob) → Rd α) : Rd α := match x with
  | .nl _ => k [] 8 []
  | .h o b g p _ lo len => look o b g p fun ob lvl t sz rows =>
      if flat ((rows.drop lo).take len) then k ((rows.drop lo).take len) 8 []
      else if p = [] ∧ 0 < lvl ∧ solid ((rows.drop lo).take len) = true then k ((rows.drop lo).take len) (lvl - 1) [(o, { ob with dirty := true, c := .dead })]
      else .fail
  | _ => .fail
def lim (n bytes : Nat) : Bool := decide (n * bytes ≤ 140737488355328 ∧ n ≤ 140737488355328)
def notOb (o : Nat) : AV → Bool
  | .h o' _ _ _ _ _ _ => o' != o
  | _ => true
def exAppend (E : Env) (d : Nat) (ti : TyI) (sz : Nat) (s x : AV) : Rd Out := exTail x fun tail lv ss =>
  if wide sz tail = true ∧ 0 < sz then match s with
  | .nl _ => if lim tail.length ti.bytes then mk d (.tree (lv + 1) (.sl sz tail)) (fun b => .h d b 0 [] sz 0 tail.length) ss else .fail
  | .h o b g p _ lo len => look o b g p fun ob lvl t sz' rows =>
      if p.length < lvl ∧ lim (len + tail.length) ti.bytes ∧ sz' = sz ∧ (notOb o x = true ∨ ss.isEmpty = true) then
        mk d (.tree (min (lvl - p.length) (lv + 1)) (.sl sz ((rows.drop lo).take len ++ tail))) (fun b => .h d b 0 [] sz 0 (len + tail.length))
          (ss ++ [(o, { ob with sver := ob.sver + 1, dirty := true, c := if p = [] then .dead else .tree lvl (t.put p .hole) })])
      else .fail
  | _ => .fail
  else .fail

def Rd.ofOpt {α β : Type} (x : Option β) (k : β → Rd α) : Rd α := match x with | some r => k r | none => .fail
def namedC (o : Nat) : List AV → Bool
  | [] => false
  | .h o' _ _ _ _ _ _ :: r => Nat.beq o o' || namedC o r
  | _ :: r => namedC o r
def named (o : Nat) : List AV → Bool
  | [] => false
  | .h o' _ _ _ _ _ _ :: r => Nat.beq o o' || named o r
  | .ag c :: r => namedC o c || named o r
  | _ :: r => named o r
def otherName (d : Nat) (md : List Bool) (args : List AV) : Bool := md.getD 91 false && named (d + 10000) args
def exCall0 (E : Env) (d : Nat) (f : FuncId) (args : List AV) : Rd Out :=
  imp (E.md f) 99 args [] fun l es => if srcsOk (es.map (·.2)) = true then Rd.ofOpt (E.call f l (es.map (·.1))) fun r =>
    newIds d 0 r.news fun vs => backs r.back es fun bs => boxBacks (fun i => vs.getD i .u) es r.back es fun xs =>
      if freeOk vs es = true then .ret ⟨expV (fun i => vs.getD i .u) es 9 r.v, bs ++ (newObs vs r.news ++ (newBoxes (fun i => vs.getD i .u) es vs r.news ++ xs))⟩ else .fail
    else .fail
def exCall (E : Env) (d : Nat) (f : FuncId) (args : List AV) : Rd Out := cond (otherName d (E.md f) args) (exCall0 E (d + 5000) f args) (exCall0 E d f args)

def isStr (ti : TyI) : Bool := match ti.cells with | [.s (.string _)] => true | _ => false
def isBool (ti : TyI) : Bool := match ti.cells with | [.s (.bool _)] => true | _ => false
def exBin (E : Env) (op : BinOp) (t : TypeId) (x y : AV) : Rd Out := match x, y with
  | .s (.int k a), .s (.int k' n) => match op with
    | .shl => if 0 ≤ n then val (.s (.int k (k.wrap (a * 2 ^ min n.toNat k.bits)))) else .fail
    | .shr => if 0 ≤ n then val (.s (.int k (a.fdiv (2 ^ min n.toNat k.bits)))) else .fail
    | op => opt (bin op (.s (.int k a)) (.s (.int k' n)))
  | .ag l, .ag l' => if (E.ty t).any (fun i => i.eqs && (Nat.beq l.length i.cells.length && Nat.beq l'.length i.cells.length)) then opt (bin op (.ag l) (.ag l')) else .fail
  | .s (.bool a), .s (.bool b) => if (E.ty t).any isBool then opt (bin op (.s (.bool a)) (.s (.bool b))) else .fail
  | .s (.string a), .s (.string b) => opt (bin op (.s (.string a)) (.s (.string b)))
  | _, _ => .fail
def byteAt (s : ByteArray) (i : Nat) : Int := match s[i]? with | some b => (b.toNat : Int) | none => 0
def kindOf (l : List AV) : Option IntKind := match l with | [.s (.int k _)] => some k | _ => none
def exZeros (d : Nat) (tn : Option TyI) (ti : TyI) (s x : AV) : Rd Out := match tn, ti.cells, s, x with
  | some tn, [.s z], .nl _, .s (.int .i64 n) => if kindOf tn.cells = some .i64 ∧ 0 < n ∧ lim n.toNat ti.bytes = true then mk d (.tree 9 (.sl 1 (List.replicate n.toNat [.v z]))) (fun b => .h d b 0 [] 1 0 n.toNat) [] else .fail
  | _, _, _, _ => .fail
def nums : List (List T) → Option (List Int)
  | [] => some []
  | [.v (.int .u8 n)] :: r => match nums r with | some l => some (n :: l) | none => none
  | _ :: _ => none
def bytesT (s : ByteArray) : List (List T) := s.data.toList.map fun b => [.v (.int .u8 b.toNat)]
def isU8 (l : List AV) : Bool := match l with | [.s (.int .u8 _)] => true | _ => false
def byteTy (ty : TypeId → Option TyI) (ti : TyI) : Bool := match ti.elem.bind ty with | some i => isU8 i.cells | none => false
def exConv (d : Nat) (ti ts : TyI) (bt bs : Bool) : AV → Rd Out
  | .s (.int _ n) => match kindOf ti.cells with
    | some k => if (kindOf ts.cells).isSome = true then val (.s (.int k (k.wrap n))) else .fail
    | none => .fail
  | .s (.string s) => if bt = true ∧ isStr ts = true ∧ s.size ≤ 140737488355328 then mk d (.tree 9 (.sl 1 (bytesT s))) (fun b => .h d b 0 [] 1 0 s.size) [] else .fail
  | .nl _ => if bs = true ∧ isStr ti = true then val (.s (.string .empty)) else .fail
  | .h o b g p _ lo len => if bs = true ∧ isStr ti = true then look o b g p fun _ _ _ sz' rows => match nums ((rows.drop lo).take len) with
      | some l => if sz' = 1 then val (.s (.string (strOfNums l))) else .fail
      | none => .fail
    else .fail
  | _ => .fail
def ex (E : Env) (sl : Slots) (o : Oper) : Rd Out :=
  match o.op with
  | .move x => val (evT E sl o.type x)
  | .assign x => val (evT E sl o.type x)
  | .pick c a b => match ev sl c with
    | .s (.bool t) => val (if t then ev sl a else ev sl b)
    | _ => .fail
  | .alloc t => match E.ty t with
    | some i => mk (o.dst.getD 0) (.box i.cells) (fun b => .pt (o.dst.getD 0) b 0 [] 0 0) []
    | none => .fail
  | .box t x => match (evT E sl t x).cells? with
    | some l => mk (o.dst.getD 0) (.box l) (fun b => .pt (o.dst.getD 0) b 0 [] 0 0) []
    | none => .fail
  | .build t parts => match E.ty t with
    | some i => if i.agg = true then opt ((fillAt (fun k => i.offs[k]?) i.cells (parts.toList.map fun (k, x) => (k, ev sl x))).map .ag) else .fail
    | none => .fail
  | .buildSlice t len parts => match E.ty t with
    | some ti => match ti.elem with
      | some e => match E.ty e with
        | some i => match fillAt (fun k => some (k * i.cells.length, i.cells.length)) ((List.replicate len i.cells).flatten) (parts.toList.map fun (k, x) => (k, evT E sl e x)) with
          | some cells => if 0 < i.cells.length ∧ len * i.cells.length ≤ 16777216 then grab cells [] fun ts l ss =>
              mk (o.dst.getD 0) (.tree (l + 1) (.sl i.cells.length ((List.range len).map fun k => (ts.drop (k * i.cells.length)).take i.cells.length))) (fun b => .h (o.dst.getD 0) b 0 [] i.cells.length 0 len) ss else .fail
          | none => .fail
        | none => .fail
      | none => .fail
    | none => .fail
  | .load t a => match E.ty t with
    | some ti => exLoad E ti (ev sl a)
    | none => .fail
  | .store t a x => match E.ty t with
    | some ti => if isRecut (ev sl a) (evT E sl t x) then (if ti.cells.length = 1 then exRecut (ev sl a) (evT E sl t x) else .fail) else exStore ti.cells.length (ev sl a) (evT E sl t x)
    | none => .fail
  | .nilCheck x => match ev sl x with
    | .pt o b g p i j => val (.pt o b g p i j)
    | _ => .fail
  | .binOp op t x y _ => exBin E op t (ev sl x) (ev sl y)
  | .unOp op _ x => match op, ev sl x with
    | .not, .s (.bool t) => val (.s (.bool (!t)))
    | .neg, .s (.int k n) => val (.s (.int k (k.wrap (0 - n))))
    | _, _ => .fail
  | .convert st t x => match E.ty t, E.ty st with
    | some ti, some ts => exConv (o.dst.getD 0) ti ts (byteTy E.ty ti) (byteTy E.ty ts) (ev sl x)
    | _, _ => .fail
  | .makeFunc (.func f) first cap => if first.size = 0 then val (.fn f (cap.toList.map (ev sl))) else .fail
  | .makeSlice t l c => match E.ty t with
    | some ti => match ti.elem with
      | some e => match E.ty e with
        | some i => match ev sl l, ev sl c with
          | .s (.int k n), .s (.int k' m) => if (k = .i64 ∧ k' = .i64) ∧ 0 ≤ n ∧ n ≤ m ∧ m * ti.bytes ≤ 140737488355328 ∧ m ≤ 140737488355328 ∧ 0 < i.cells.length then
              grab i.cells [] fun ts _ _ => mk (o.dst.getD 0) (.tree 9 (.sl i.cells.length (List.replicate n.toNat ts))) (fun b => .h (o.dst.getD 0) b 0 [] i.cells.length 0 n.toNat) [] else .fail
          | _, _ => .fail
        | none => .fail
      | none => .fail
    | none => .fail
  | .slice t x lo hi none => match E.ty t with
   | none => .fail
   | some ti => match ev sl x, lo.map (ev sl), hi.map (ev sl) with
    | .h o b g p sz l n, some (.s (.int _ a)), none => if 0 ≤ a ∧ a ≤ n ∧ ti.elem.isSome = true ∧ ti.esz = sz then val (.h o b g p sz (l + a.toNat) (n - a.toNat)) else .fail
    | .h o b g p sz l n, none, some (.s (.int _ c)) => if 0 ≤ c ∧ c ≤ n ∧ ti.elem.isSome = true ∧ ti.esz = sz then val (.h o b g p sz l c.toNat) else .fail
    | .h o b g p sz l n, some (.s (.int _ a)), some (.s (.int _ c)) => if 0 ≤ a ∧ a ≤ c ∧ c ≤ n ∧ ti.elem.isSome = true ∧ ti.esz = sz then val (.h o b g p sz (l + a.toNat) (c.toNat - a.toNat)) else .fail
    | .nl n, none, some (.s (.int _ c)) => if c = 0 ∧ ti.elem.isSome = true ∧ ti.esz = n then val (.nl n) else .fail
    | .s (.string s), some (.s (.int _ a)), none => if 0 ≤ a ∧ a ≤ s.size ∧ isStr ti = true then val (.s (.string (s.extract a.toNat s.size))) else .fail
    | .s (.string s), none, some (.s (.int _ c)) => if 0 ≤ c ∧ c ≤ s.size ∧ isStr ti = true then val (.s (.string (s.extract 0 c.toNat))) else .fail
    | .s (.string s), some (.s (.int _ a)), some (.s (.int _ c)) => if 0 ≤ a ∧ a ≤ c ∧ c ≤ s.size ∧ isStr ti = true then val (.s (.string (s.extract a.toNat c.toNat))) else .fail
    | _, _, _ => .fail
  | .fieldAddr t x f => match ev sl x, E.ty t with
    | .pt o b g p i j, some ti => match ti.offs[f]? with | some k => val (.pt o b g p i (j + k.1)) | none => .fail
    | _, _ => .fail
  | .indexAddr t x ix => match ev sl x, ev sl ix, E.ty t with
    | .h o b g p sz l n, .s (.int _ a), some ti => if 0 ≤ a ∧ a < n ∧ sz = ti.esz ∧ ti.elem.isSome = true then val (.pt o b g p (l + a.toNat) 0) else .fail
    | _, _, _ => .fail
  | .index t x ix => match ev sl x, ev sl ix with
    | .s (.string s), .s (.int _ a) => if (E.ty t).any isStr = true ∧ 0 ≤ a ∧ a < (s.size : Int) then val (.s (.int .u8 (byteAt s a.toNat))) else .fail
    | _, _ => .fail
  | .extract t i => match ev sl t with
    | .tu l => opt l[i]?
    | _ => .fail
  | .call c => match c.callee with
    | .builtin .len => match c.args.toList.map (ev sl), c.argTypes.toList with
      | [.h _ _ _ _ _ _ n], [t] => if (E.ty t).any (·.elem.isSome) then val (.s (.int .i64 n)) else .fail
      | [.nl _], [t] => if (E.ty t).any (·.elem.isSome) then val (.s (.int .i64 0)) else .fail
      | [.s (.string s)], [t] => if (E.ty t).any isStr then val (.s (.int .i64 s.size)) else .fail
      | _, _ => .fail
    | .builtin .append => match c.args.toList.map (ev sl), c.argTypes.toList with
      | [s, x], [t, t'] => match E.ty t with
        | some ti => match ti.elem.bind E.ty with | some i => if t' = t then exAppend E (o.dst.getD 0) { i with bytes := ti.bytes } i.cells.length s x else exZeros (o.dst.getD 0) (E.ty t') { i with bytes := ti.bytes } s x | none => .fail
        | none => .fail
      | _, _ => .fail
    | .builtin .cap => match c.args.toList.map (ev sl), c.argTypes.toList with
      | [.nl _], [t] => if (E.ty t).any (·.elem.isSome) then val (.s (.int .i64 0)) else .fail
      | _, _ => .fail
    | .builtin .min => match c.args.toList.map (ev sl) with
      | [.s (.int .i64 a), .s (.int .i64 b)] => val (.s (.int .i64 (if b < a then b else a)))
      | _ => .fail
    | .builtin .max => match c.args.toList.map (ev sl) with
      | [.s (.int .i64 a), .s (.int .i64 b)] => val (.s (.int .i64 (if a < b then b else a)))
      | _ => .fail
    | .value f => match ev sl f with
      | .fn f caps => if c.argTypes.size = c.args.size then exCall E (o.dst.getD 0) f (((c.args.toList.zip c.argTypes.toList).map fun (x, t) => evT E sl t x) ++ caps) else .fail
      | _ => .fail
    | _ => .fail
  | _ => .fail

inductive Exit where | normal | exit (id : Nat) | ret

def putDst (sl : Slots) (d : Option Nat) (v : AV) : Slots := match d with | some d => upd sl d v | none => sl
def guardOf (all : List Oper) (sl : Slots) (o : Oper) : Option Bool := match o.guard with
  | none => some true
  | some (j, want) => match (all[j]?).bind (·.dst) with
    | some d => match sl d with
      | .s (.bool b) => some (b == want)
      | .tu [] => some false
      | _ => none
    | none => none
def dstOk (nt : Nat) (o : Oper) : Bool := match o.dst with | some d => decide (d < nt) | none => true

def runOps (E : Env) (all : List Oper) : List Oper → St → Option St
  | [], s => some s
  | o :: r, s => match guardOf all s.sl o with
    | some true => match (ex E s.sl o).run s.ob with
      | some out => runOps E all r ⟨putDst s.sl o.dst out.v, upds s.ob out.sets⟩
      | none => none
    | some false => runOps E all r ⟨putDst s.sl o.dst (.tu []), s.ob⟩
    | none => none

def loopN (B : St → Option (Exit × St)) : Nat → St → Option (Exit × St)
  | 0, _ => none
  | n + 1, s => match B s with
    | some (.normal, s') => loopN B n s'
    | r => r

def trOps (E : Env) (all : List Oper) : Nat → List Oper → St → List (Nat × List Nat × List Nat)
  | _, [], _ => []
  | i, o :: r, s => match guardOf all s.sl o with
    | some true => match (ex E s.sl o).run s.ob with
      | some out => (i, (ex E s.sl o).ids s.ob, out.sets.map (·.1)) :: trOps E all (i + 1) r ⟨putDst s.sl o.dst out.v, upds s.ob out.sets⟩
      | none => []
    | _ => trOps E all (i + 1) r ⟨putDst s.sl o.dst (.tu []), s.ob⟩

def uses (all : List Oper) (o : Oper) : List Nat :=
  (o.op.operands.toList.filterMap fun | .tmp t => some t | _ => none) ++ (match o.guard with | some (j, _) => ((all[j]?).bind (·.dst)).toList | none => [])
def apart (a b : List Nat) : Bool := a.all fun x => !b.contains x
def ordered (ops : Array Oper) (i j : Nat) : Bool := ((Region.before ops).getD j 0).testBit i
def slotsOk (ops : Array Oper) : Bool :=
  let l := ops.toList
  (List.range l.length).all fun j => (List.range j).all fun i => ordered ops i j ||
    match l[i]?, l[j]? with
    | some a, some b => apart a.dst.toList (b.dst.toList ++ uses l b) && apart b.dst.toList (uses l a)
    | _, _ => true
def calm (ty : TypeId → Option TyI) : Op → Bool
  | .convert s t _ => match ty t, ty s with
    | some ti, some ts => (kindOf ti.cells).isSome && (kindOf ts.cells).isSome
    | _, _ => false
  | .move _ | .assign _ | .pick .. | .build .. | .nilCheck _ | .binOp .. | .unOp .. | .makeFunc .. | .slice .. | .fieldAddr .. | .indexAddr .. | .index .. | .extract .. => true
  | .call { callee := .builtin .len, .. } | .call { callee := .builtin .min, .. } | .call { callee := .builtin .max, .. } => true
  | _ => false
def mild (ty : TypeId → Option TyI) : Op → Bool
  | .load .. => true
  | .convert _ t _ => match ty t with
    | some ti => ti.elem.isNone
    | none => false
  | _ => false
def unord (ty : TypeId → Option TyI) (ops : Array Oper) : List (Nat × Nat) :=
  let l := ops.toList
  ((List.range l.length).flatMap fun j => (List.range j).filterMap fun i => if ordered ops i j then none else
    match l[i]?, l[j]? with
    | some a, some b => if calm ty a.op || calm ty b.op || (mild ty a.op && mild ty b.op) then none else some (i, j)
    | _, _ => none)
def pairsOk (ps : List (Nat × Nat)) (tr : List (Nat × List Nat × List Nat)) : Bool :=
  ps.all fun (i, j) => tr.all fun a => tr.all fun b => !(a.1 == i && b.1 == j) || (apart a.2.2 (b.2.1 ++ b.2.2) && apart b.2.2 a.2.1)
def edgesOk (ops : Array Oper) : Bool := (List.range ops.size).all fun i => match ops[i]? with
  | some o => o.after.all fun e => match e.ground with
    | .gcOnly _ => decide (e.on < ops.size)
    | _ => decide (e.on < i)
  | none => true
def orderOk (md : Region.Mode) (ops : Array Oper) : List Nat → List Nat → Bool
  | l, [] => (List.range ops.size).all fun i => l.contains i
  | l, i :: r => (match ops[i]? with
    | some o => o.after.all fun e => !Region.binds md e || l.contains e.on
    | none => false) && orderOk md ops (i :: l) r
def gcOk (ops : Array Oper) : Bool := !Region.departs ops || orderOk .gc ops [] (Region.linearise .gc ops 0)
def codeOk (nt : Nat) : Code → Bool
  | .region _ ops draw => ops.toList.all (dstOk nt) && (!draw || (slotsOk ops && (gcOk ops && edgesOk ops)))
  | .seq a b => codeOk nt a && codeOk nt b
  | .cond _ a b => codeOk nt a && codeOk nt b
  | .block _ c => codeOk nt c
  | .loop c => codeOk nt c
  | _ => true

def run (E : Env) (n : Nat) : Code → St → Option (Exit × St)
  | .skip, s => some (.normal, s)
  | .region _ ops false, s => (runOps E ops.toList ops.toList s).map fun s => (.normal, s)
  | .region _ ops true, s => if unord E.ty ops = [] ∨ pairsOk (unord E.ty ops) (trOps E ops.toList 0 ops.toList s) = true then
      (runOps E ops.toList ops.toList s).map fun s => (.normal, s) else none
  | .seq a b, s => match run E n a s with
    | some (.normal, s') => run E n b s'
    | r => r
  | .cond c a b, s => match ev s.sl c with
    | .s (.bool t) => if t = true then run E n a s else run E n b s
    | _ => none
  | .block id c, s => match run E n c s with
    | some (.exit id', s') => if id' = id then some (.normal, s') else some (.exit id', s')
    | r => r
  | .loop c, s => loopN (run E n c) n s
  | .exit id, s => some (.exit id, s)
  | .ret, s => some (.ret, s)
  | _, _ => none

def retVs (E : Env) (s : St) : List ResultVar → Option (List AV)
  | [] => some []
  | .tmp t :: r => match retVs E s r with
    | some l => some (s.sl t :: l)
    | none => none
  | .cell a t :: r => match E.ty t with
    | some ti => match (exLoad E ti (s.sl a)).run s.ob with
      | some out => match retVs E s r with
        | some l => some (out.v :: l)
        | none => none
      | none => none
    | none => none
def oneOf : List AV → AV
  | [x] => x
  | l => .tu l
def leave (E : Env) (rs : List ResultVar) (conts : List Cont) (s : St) : Option Res :=
  match retVs E s rs with
  | some vs => match expo s.ob conts 99 (oneOf vs :: boxArgs s.ob 0 conts) [] [] with
    | some (v' :: bs, mv, ns) => match backE s.ob mv 0 conts bs with
      | some b => some ⟨v', ns, b⟩
      | none => none
    | _ => none
  | none => none
def obIn (conts : List Cont) (o : Nat) : Ob := ⟨0, 0, false, if 1000000 ≤ o then conts.getD (o - 1000000) .dead else .dead⟩
def slIn (args : List AV) (n : Nat) : AV := args.getD n .u

structure Conf where
  ty : TypeId → Option TyI
  md : FuncId → List Bool
  prim : FuncId → Option (List AV → List Cont → Option Res)
  fuel : Nat
def Conf.env (C : Conf) (call : FuncId → List AV → List Cont → Option Res) (nt : Nat) : Env := ⟨C.ty, call, C.md, nt⟩
def callE (P : Program) (C : Conf) : Nat → FuncId → List AV → List Cont → Option Res
  | 0, _, _, _ => none
  | k + 1, f, args, conts => match C.prim f with
    | some p => p args conts
    | none => match P.funcs[f]? with
      | some fn => match fn.body with
        | some c => if (codeOk fn.ntmps c && fn.name != "runtime.NumGoroutine") = true ∧ conts.length < 1000000 then match run (C.env (callE P C k) fn.ntmps) C.fuel c ⟨slIn args, obIn conts⟩ with
          | some (.normal, s) => leave (C.env (callE P C k) fn.ntmps) fn.results.toList conts s
          | some (.ret, s) => leave (C.env (callE P C k) fn.ntmps) fn.results.toList conts s
          | _ => none
          else none
        | none => none
      | none => none

end Go.Proofs.YtipfcgbhaalcdaaGreat.Abs
namespace Go.Proofs.YtipfcgbhaalcdaaGreat.Abs
open Go
set_option linter.unusedVariables false
set_option linter.unusedSimpArgs false

abbrev Fp := Nat → Prop
def none_ : Fp := fun _ => False

def cellT (rows : List (List T)) (i j : Nat) : Option T := (rows[i]?).bind (·[j]?)

theorem cellT_ne {rows : List (List T)} {i j : Nat} {t : T} (h : cellT rows i j = some t) : rows ≠ [] := by
  rintro rfl
  simp [cellT] at h
inductive Ow (Z : Fp) (w : World) : Nat → Value → T → Fp → Prop where
  | v {l x} (h : scalar x = true) : Ow Z w l x (.v x) none_
  | hole {l x} : Ow Z w l x .hole none_
  | nil {l sz} : Ow Z w l (.slice none 0 0) (.sl sz []) none_
  | ro {a : Addr} {c : Nat} {rows sz} (xs : Nat → Nat → Value) (hc : rows.length ≤ c) (hs : ∀ r ∈ rows, r.length = sz) (hz : rows ≠ [] → Z a.block)
      (hx : ∀ i j t, cellT rows i j = some t → w.cell? (a.add (i * sz + j)) = some (xs i j))
      (ht : ∀ i j t, cellT rows i j = some t → Ow Z w 0 (xs i j) t none_) :
      Ow Z w 0 (.slice (some a) rows.length c) (.sl sz rows) none_
  | own {l b off c : Nat} {cs : Array Value} {e : TypeId} {fr : Nat × Nat} {rows sz} (xs : Nat → Nat → Value) (F : Nat → Nat → Fp)
      (hb : w.heap[b]? = some (.cells cs e fr)) (hfr : ∀ k, k < cs.size → ¬ (fr.1 ≤ k ∧ k < fr.2)) (hc : rows.length ≤ c) (hoff : off + c * sz ≤ cs.size) (hmax : c ≤ maxLen)
      (hs : ∀ r ∈ rows, r.length = sz)
      (hx : ∀ i j t, cellT rows i j = some t → cs[off + (i * sz + j)]? = some (xs i j))
      (ht : ∀ i j t, cellT rows i j = some t → Ow Z w l (xs i j) t (F i j))
      (hF : ∀ i j, cellT rows i j = none → F i j = none_)
      (hnb : ∀ i j, ¬ F i j b) (hd : ∀ i j i' j' k, F i j k → F i' j' k → i = i' ∧ j = j') :
      Ow Z w (l + 1) (.slice (some ⟨b, off, none⟩) rows.length c) (.sl sz rows) (fun k => k = b ∨ ∃ i j, F i j k)

theorem cell_of_block {w w' : World} {a : Addr} (h : w'.heap[a.block]? = w.heap[a.block]?) : w'.cell? a = w.cell? a := by
  simp only [World.cell?, h]
theorem add_block (a : Addr) (n : Nat) : (a.add n).block = a.block := by
  unfold Addr.add; split <;> rfl

theorem Ow.frame {Z : Fp} {w w' : World} {l : Nat} {v : Value} {t : T} {F : Fp} (h : Ow Z w l v t F)
    (hZ : ∀ k, Z k → w'.heap[k]? = w.heap[k]?) (hF : ∀ k, F k → w'.heap[k]? = w.heap[k]?) : Ow Z w' l v t F := by
  induction h with
  | v h => exact .v h
  | hole => exact .hole
  | nil => exact .nil
  | ro xs hc hs hz hx ht ih =>
    refine .ro xs hc hs hz (fun i j t h => ?_) (fun i j t h => ih i j t h (fun k hk => hk.elim))
    rw [cell_of_block (w := w)]
    · exact hx i j t h
    · rw [add_block]; exact hZ _ (hz (cellT_ne h))
  | own xs F hb hfr hc hoff hmax hs hx ht hFn hnb hd ih =>
    exact .own xs F ((hF _ (.inl rfl)).trans hb) hfr hc hoff hmax hs hx (fun i j t h => ih i j t h (fun k hk => hF k (.inr ⟨i, j, hk⟩))) hFn hnb hd

theorem Ow.monoZ {Z Z' : Fp} {w : World} {l : Nat} {v : Value} {t : T} {F : Fp} (h : Ow Z w l v t F) (hZ : ∀ k, Z k → Z' k) : Ow Z' w l v t F := by
  induction h with
  | v h => exact .v h
  | hole => exact .hole
  | nil => exact .nil
  | ro xs hc hs hz hx ht ih => exact .ro xs hc hs (fun hr => hZ _ (hz hr)) hx ih
  | own xs F hb hfr hc hoff hmax hs hx ht hFn hnb hd ih => exact .own xs F hb hfr hc hoff hmax hs hx ih hFn hnb hd

theorem Ow.lt {Z : Fp} {w : World} {l : Nat} {v : Value} {t : T} {F : Fp} (h : Ow Z w l v t F) : ∀ k, F k → k < w.heap.size := by
  induction h with
  | v h => exact fun k hk => hk.elim
  | hole => exact fun k hk => hk.elim
  | nil => exact fun k hk => hk.elim
  | ro xs hc hs hz hx ht ih => exact fun k hk => hk.elim
  | own xs F hb hfr hc hoff hmax hs hx ht hFn hnb hd ih =>
    rintro k (rfl | ⟨i, j, hk⟩)
    · exact (Array.getElem?_eq_some_iff.1 hb).1
    · cases hc' : cellT _ i j with
      | none => exact absurd hk (by rw [hFn i j hc']; exact id)
      | some t => exact ih i j t hc' k hk

theorem own_cell {w : World} {b off : Nat} {cs : Array Value} {e : TypeId} {fr : Nat × Nat} (hb : w.heap[b]? = some (.cells cs e fr)) (n : Nat) :
    w.cell? ((⟨b, off, none⟩ : Addr).add n) = cs[off + n]? := by
  by_cases hn : n = 0
  · subst hn; simp [Addr.add, World.cell?, hb]
  · simp [Addr.add, World.cell?, hb, hn]

theorem Ow.zero {Z : Fp} {w : World} {l : Nat} {v : Value} {t : T} {F : Fp} (h : Ow Z w l v t F) (hl : l = 0) : F = none_ := by
  cases h with
  | v h => rfl
  | hole => rfl
  | nil => rfl
  | ro => rfl
  | own => cases hl

theorem Ow.lower {Z : Fp} {w : World} {l : Nat} {v : Value} {t : T} {F : Fp} (h : Ow Z w l v t F) :
    ∀ l', l' ≤ l → ∃ F', (∀ k, F' k → F k) ∧ Ow (fun k => Z k ∨ (F k ∧ ¬ F' k)) w l' v t F' := by
  induction h with
  | v h => exact fun l' _ => ⟨none_, fun k hk => hk.elim, .v h⟩
  | hole => exact fun l' _ => ⟨none_, fun k hk => hk.elim, .hole⟩
  | nil => exact fun l' _ => ⟨none_, fun k hk => hk.elim, .nil⟩
  | ro xs hc hs hz hx ht ih =>
    intro l' hl
    obtain rfl : l' = 0 := Nat.le_zero.1 hl
    exact ⟨none_, fun k hk => hk.elim, .ro xs hc hs (fun hr => .inl (hz hr)) hx (fun i j t h => (ht i j t h).monoZ (fun k hk => .inl hk))⟩
  | @own l b off c cs e fr rows sz xs F hb hfr hc hoff hmax hs hx ht hFn hnb hd ih =>
    intro l' hl
    cases l' with
    | zero =>
      refine ⟨none_, fun k hk => hk.elim, .ro xs hc hs (fun _ => .inr ⟨.inl rfl, id⟩) (fun i j t h => ?_) (fun i j t h => ?_)⟩
      · rw [own_cell hb]; exact hx i j t h
      · obtain ⟨F', h1, h2⟩ := ih i j t h 0 (Nat.zero_le _)
        have hn : F' = none_ := h2.zero rfl
        subst hn
        refine h2.monoZ fun k hk => ?_
        rcases hk with hk | ⟨hk, _⟩
        · exact .inl hk
        · exact .inr ⟨.inr ⟨i, j, hk⟩, id⟩
    | succ l' =>
      have ih' : ∀ i j, ∃ F' : Fp, (∀ k, F' k → F i j k) ∧ (∀ t, cellT rows i j = some t → Ow (fun k => Z k ∨ (F i j k ∧ ¬ F' k)) w l' (xs i j) t F') ∧ (cellT rows i j = none → F' = none_) := by
        intro i j
        cases hcell : cellT rows i j with
        | none => exact ⟨none_, fun k hk => hk.elim, fun t h => (by cases h), fun _ => rfl⟩
        | some t =>
          obtain ⟨F', h1, h2⟩ := ih i j t hcell l' (Nat.le_of_succ_le_succ hl)
          exact ⟨F', h1, fun t' h => by cases h; exact h2, fun h => by cases h⟩
      let G : Nat → Nat → Fp := fun i j => Classical.choose (ih' i j)
      have hG := fun i j => Classical.choose_spec (ih' i j)
      change ∀ i j, (∀ k, G i j k → F i j k) ∧ (∀ t, cellT rows i j = some t → Ow (fun k => Z k ∨ (F i j k ∧ ¬ G i j k)) w l' (xs i j) t (G i j)) ∧ (cellT rows i j = none → G i j = none_) at hG
      refine ⟨fun k => k = b ∨ ∃ i j, G i j k, ?_, .own xs G hb hfr hc hoff hmax hs hx (fun i j t h => ?_) (fun i j h => (hG i j).2.2 h) (fun i j h => hnb i j ((hG i j).1 _ h)) (fun i j i' j' k h h' => hd i j i' j' k ((hG i j).1 _ h) ((hG i' j').1 _ h'))⟩
      · rintro k (rfl | ⟨i, j, hk⟩)
        · exact .inl rfl
        · exact .inr ⟨i, j, (hG i j).1 _ hk⟩
      · refine ((hG i j).2.1 t h).monoZ fun k hk => ?_
        rcases hk with hk | ⟨hk, hn⟩
        · exact .inl hk
        · refine .inr ⟨.inr ⟨i, j, hk⟩, ?_⟩
          rintro (rfl | ⟨i', j', hk'⟩)
          · exact hnb i j hk
          · obtain ⟨rfl, rfl⟩ := hd i j i' j' k hk ((hG i' j').1 _ hk')
            exact hn hk'

end Go.Proofs.YtipfcgbhaalcdaaGreat.Abs
namespace Go.Proofs.YtipfcgbhaalcdaaGreat.Abs
open Go
set_option linter.unusedVariables false
set_option linter.unusedSimpArgs false

theorem Ow.congrF {Z : Fp} {w : World} {l : Nat} {v : Value} {t : T} {F F' : Fp} (h : Ow Z w l v t F) (hF : ∀ k, F k ↔ F' k) : Ow Z w l v t F' := by
  have : F = F' := funext fun k => propext (hF k)
  exact this ▸ h

inductive At (w : World) : Value → T → List (Nat × Nat) → Value → T → Prop where
  | here {v t} : At w v t [] v t
  | cons {a : Addr} {n c : Nat} {sz : Nat} {rows : List (List T)} {i j : Nat} {r : List T} {t : T} {x v' : Value} {t' : T} {p : List (Nat × Nat)}
      (hi : rows[i]? = some r) (hj : r[j]? = some t) (hr : r.length = sz) (hx : w.cell? (a.add (i * sz + j)) = some x) (h : At w x t p v' t') :
      At w (.slice (some a) n c) (.sl sz rows) ((i, j) :: p) v' t'

theorem cellT_modify (rows : List (List T)) (i j : Nat) (f : T → T) (i' j' : Nat) :
    cellT (rows.modify i fun r => r.modify j f) i' j' = if i' = i ∧ j' = j then (cellT rows i j).map f else cellT rows i' j' := by
  unfold cellT
  rw [List.getElem?_modify]
  by_cases hi : i = i'
  · subst hi
    cases h : rows[i]? with
    | none => simp
    | some r =>
      simp only [if_true, Option.map_eq_map, Option.map_some, Option.bind_some, true_and, List.getElem?_modify]
      by_cases hj : j = j'
      · subst hj; simp
      · have hj' : ¬ j' = j := fun h => hj h.symm
        simp [hj, hj']
  · have hi' : ¬ i' = i := fun h => hi h.symm
    simp [hi, hi']

theorem rows_modify_len (rows : List (List T)) (i j : Nat) (f : T → T) {sz : Nat} (hs : ∀ r ∈ rows, r.length = sz) :
    ∀ r ∈ (rows.modify i fun r => r.modify j f), r.length = sz := by
  intro r hr
  obtain ⟨k, hk, rfl⟩ := List.mem_iff_getElem.1 hr
  rw [List.getElem_modify]
  split
  · simp only [List.length_modify]; exact hs _ (List.getElem_mem _)
  · exact hs _ (List.getElem_mem _)

theorem cellT_of {rows : List (List T)} {i j : Nat} {r : List T} {t : T} (hi : rows[i]? = some r) (hj : r[j]? = some t) : cellT rows i j = some t := by
  simp [cellT, hi, hj]

theorem Ow.focus {Z : Fp} {w : World} (p : List (Nat × Nat)) : ∀ {l : Nat} {v : Value} {t t' : T} {F : Fp}, Ow Z w l v t F → t.at? p = some t' →
    ∃ v' F', At w v t p v' t' ∧ Ow Z w (l - p.length) v' t' F' ∧ (∀ k, F' k → F k) ∧
      ∀ (Z' : Fp) (w' : World) (new : T) (F2 : Fp), (∀ k, Z k → Z' k) → (∀ k, (Z k ∨ (F k ∧ ¬ F' k)) → w'.heap[k]? = w.heap[k]?) →
        Ow Z' w' (l - p.length) v' new F2 → (∀ k, F2 k → F k → F' k) → Ow Z' w' l v (t.put p new) (fun k => (F k ∧ ¬ F' k) ∨ F2 k) := by
  induction p with
  | nil =>
    intro l v t t' F h ht
    simp only [T.at?, Option.some.injEq] at ht
    subst ht
    refine ⟨v, F, .here, h, fun k hk => hk, fun Z' w' new F2 _ _ hn _ => ?_⟩
    simp only [T.put]
    exact hn.congrF (fun k => by simp)
  | cons ij p ih =>
    obtain ⟨i, j⟩ := ij
    intro l v t t' F h ht
    cases h with
    | v h => simp [T.at?] at ht
    | hole => simp [T.at?] at ht
    | nil => simp [T.at?] at ht
    | @ro a c rows sz xs hc hs hz hx ho =>
      simp only [T.at?] at ht
      cases hi : rows[i]? with
      | none => simp [hi] at ht
      | some r =>
        simp only [hi] at ht
        cases hj : r[j]? with
        | none => simp [hj] at ht
        | some t1 =>
          simp only [hj] at ht
          have hcell := cellT_of hi hj
          have hr : r.length = sz := hs r (List.mem_of_getElem? hi)
          obtain ⟨v', F', hat, how, hsub, hrep⟩ := ih (ho i j t1 hcell) ht
          refine ⟨v', F', .cons hi hj hr (hx i j t1 hcell) hat, by simpa using how, fun k hk => (hsub k hk).elim, fun Z' w' new F2 hZ hw hn hF2 => ?_⟩
          have hz2 : F2 = none_ := hn.zero (by simp)
          have hz1 : F' = none_ := how.zero (by simp)
          subst hz2; subst hz1
          have hnew := hrep Z' w' new none_ hZ (fun k hk => hw k (hk.imp id fun h => h.1.elim)) (by simpa using hn) (fun k hk => hk.elim)
          have hnew' : Ow Z' w' 0 (xs i j) (t1.put p new) none_ := hnew.congrF (fun k => by simp [none_])
          have hlen : rows.length = (rows.modify i fun r => r.modify j fun t => t.put p new).length := by simp
          simp only [T.put]
          have key : Ow Z' w' 0 (.slice (some a) (rows.modify i fun r => r.modify j fun t => t.put p new).length c) (.sl sz (rows.modify i fun r => r.modify j fun t => t.put p new)) none_ := by
            refine .ro (sz := sz) xs (by rw [← hlen]; exact hc) (rows_modify_len _ _ _ _ hs) (fun _ => hZ _ (hz (cellT_ne hcell))) (fun i' j' t2 h2 => ?_) (fun i' j' t2 h2 => ?_)
            · rw [cell_of_block (w := w) (by rw [add_block]; exact hw _ (.inl (hz (cellT_ne hcell))))]
              rw [cellT_modify] at h2
              by_cases he : i' = i ∧ j' = j
              · obtain ⟨rfl, rfl⟩ := he; exact hx _ _ _ hcell
              · rw [if_neg he] at h2; exact hx _ _ _ h2
            · rw [cellT_modify] at h2
              by_cases he : i' = i ∧ j' = j
              · obtain ⟨rfl, rfl⟩ := he
                rw [if_pos ⟨rfl, rfl⟩, hcell] at h2
                simp only [Option.map_some, Option.some.injEq] at h2
                subst h2; exact hnew'
              · rw [if_neg he] at h2
                exact ((ho _ _ _ h2).frame (w' := w') (fun k hk => hw k (.inl hk)) (fun k hk => False.elim hk)).monoZ hZ
          rw [← hlen] at key
          exact key.congrF (fun k => by simp [none_])
    | @own l b off c cs e fr rows sz xs G hb hfr hc hoff hmax hs hx ho hG hnb hd =>
      simp only [T.at?] at ht
      cases hi : rows[i]? with
      | none => simp [hi] at ht
      | some r =>
        simp only [hi] at ht
        cases hj : r[j]? with
        | none => simp [hj] at ht
        | some t1 =>
          simp only [hj] at ht
          have hcell := cellT_of hi hj
          have hr : r.length = sz := hs r (List.mem_of_getElem? hi)
          obtain ⟨v', F', hat, how, hsub, hrep⟩ := ih (ho i j t1 hcell) ht
          refine ⟨v', F', .cons hi hj hr (by rw [own_cell hb]; exact hx i j t1 hcell) hat, by simpa using how, fun k hk => .inr ⟨i, j, hsub k hk⟩, fun Z' w' new F2 hZ hw hn hF2 => ?_⟩
          have hnew := hrep Z' w' new F2 hZ (fun k hk => hw k (hk.imp id fun h => ⟨.inr ⟨i, j, h.1⟩, h.2⟩)) (by simpa using hn) (fun k hk hk' => hF2 k hk (.inr ⟨i, j, hk'⟩))
          have hlen : rows.length = (rows.modify i fun r => r.modify j fun t => t.put p new).length := by simp
          have hbF' : ¬ F' b := fun h => hnb i j (hsub b h)
          have hb' : w'.heap[b]? = some (.cells cs e fr) := (hw b (.inr ⟨.inl rfl, hbF'⟩)).trans hb
          simp only [T.put]
          let G' : Nat → Nat → Fp := fun i' j' => if i' = i ∧ j' = j then (fun k => (G i j k ∧ ¬ F' k) ∨ F2 k) else G i' j'
          have e1 : G' i j = fun k => (G i j k ∧ ¬ F' k) ∨ F2 k := if_pos ⟨rfl, rfl⟩
          have e2 : ∀ i' j', ¬ (i' = i ∧ j' = j) → G' i' j' = G i' j' := fun i' j' h => if_neg h
          have out : ∀ i' j' k, ¬ (i' = i ∧ j' = j) → G i' j' k → ¬ F' k := fun i' j' k hne hk hk' => hne (hd i' j' i j k hk (hsub k hk'))
          have key : Ow Z' w' (l + 1) (.slice (some ⟨b, off, none⟩) (rows.modify i fun r => r.modify j fun t => t.put p new).length c) (.sl sz (rows.modify i fun r => r.modify j fun t => t.put p new)) (fun k => k = b ∨ ∃ i j, G' i j k) := by
            refine .own (sz := sz) xs G' hb' hfr (by rw [← hlen]; exact hc) hoff hmax (rows_modify_len _ _ _ _ hs) (fun i' j' t2 h2 => ?_) (fun i' j' t2 h2 => ?_) (fun i' j' h2 => ?_) (fun i' j' => ?_) (fun i' j' i2 j2 k h2 h3 => ?_)
            · rw [cellT_modify] at h2
              by_cases he : i' = i ∧ j' = j
              · obtain ⟨rfl, rfl⟩ := he; exact hx _ _ _ hcell
              · rw [if_neg he] at h2; exact hx _ _ _ h2
            · rw [cellT_modify] at h2
              by_cases he : i' = i ∧ j' = j
              · obtain ⟨rfl, rfl⟩ := he
                rw [if_pos ⟨rfl, rfl⟩, hcell] at h2
                simp only [Option.map_some, Option.some.injEq] at h2
                subst h2; rw [e1]; exact hnew
              · rw [if_neg he] at h2
                rw [e2 _ _ he]
                exact ((ho _ _ _ h2).frame (w' := w') (fun k hk => hw k (.inl hk)) (fun k hk => hw k (.inr ⟨.inr ⟨_, _, hk⟩, out _ _ k he hk⟩))).monoZ hZ
            · rw [cellT_modify] at h2
              by_cases he : i' = i ∧ j' = j
              · obtain ⟨rfl, rfl⟩ := he
                rw [if_pos ⟨rfl, rfl⟩, hcell] at h2
                cases h2
              · rw [if_neg he] at h2; rw [e2 _ _ he]; exact hG _ _ h2
            · by_cases he : i' = i ∧ j' = j
              · obtain ⟨rfl, rfl⟩ := he
                rw [e1]
                rintro (⟨h, _⟩ | h)
                · exact hnb _ _ h
                · exact hbF' (hF2 b h (.inl rfl))
              · rw [e2 _ _ he]; exact hnb _ _
            · have side : ∀ i' j' k, ¬ (i' = i ∧ j' = j) → G' i j k → G' i' j' k → False := by
                intro i' j' k hne h2 h3
                rw [e1] at h2; rw [e2 _ _ hne] at h3
                rcases h2 with ⟨h2, _⟩ | h2
                · exact hne (hd i' j' i j k h3 h2)
                · exact out _ _ k hne h3 (hF2 k h2 (.inr ⟨_, _, h3⟩))
              by_cases he : i' = i ∧ j' = j
              · by_cases he2 : i2 = i ∧ j2 = j
                · exact ⟨he.1.trans he2.1.symm, he.2.trans he2.2.symm⟩
                · rw [he.1, he.2] at h2; exact (side _ _ k he2 h2 h3).elim
              · by_cases he2 : i2 = i ∧ j2 = j
                · rw [he2.1, he2.2] at h3; exact (side _ _ k he h3 h2).elim
                · rw [e2 _ _ he] at h2; rw [e2 _ _ he2] at h3; exact hd _ _ _ _ k h2 h3
          rw [← hlen] at key
          refine key.congrF (fun k => ⟨?_, ?_⟩)
          · rintro (rfl | ⟨i', j', hk⟩)
            · exact .inl ⟨.inl rfl, hbF'⟩
            · by_cases he : i' = i ∧ j' = j
              · obtain ⟨rfl, rfl⟩ := he
                rw [e1] at hk
                exact hk.imp (fun h => ⟨.inr ⟨_, _, h.1⟩, h.2⟩) id
              · rw [e2 _ _ he] at hk
                exact .inl ⟨.inr ⟨_, _, hk⟩, out _ _ k he hk⟩
          · rintro (⟨rfl | ⟨i', j', hk⟩, hn'⟩ | hk)
            · exact .inl rfl
            · by_cases he : i' = i ∧ j' = j
              · obtain ⟨rfl, rfl⟩ := he
                exact .inr ⟨_, _, by rw [e1]; exact .inl ⟨hk, hn'⟩⟩
              · exact .inr ⟨i', j', by rw [e2 _ _ he]; exact hk⟩
            · exact .inr ⟨i, j, by rw [e1]; exact .inr hk⟩
end Go.Proofs.YtipfcgbhaalcdaaGreat.Abs
namespace Go.Proofs.YtipfcgbhaalcdaaGreat.Abs
open Go
set_option linter.unusedVariables false
set_option linter.unusedSimpArgs false

structure Keep (A : Fp) (w w' : World) : Prop where
  os : w'.os = w.os
  tape : w'.tape = w.tape
  output : w'.output = w.output
  size : w.heap.size ≤ w'.heap.size
  block : ∀ k, k < w.heap.size → ¬ A k → w'.heap[k]? = w.heap[k]?
theorem Keep.refl (A : Fp) (w : World) : Keep A w w := ⟨rfl, rfl, rfl, Nat.le_refl _, fun _ _ _ => rfl⟩
theorem Keep.trans {A B : Fp} {a b c : World} (h : Keep A a b) (k : Keep B b c) (hAB : ∀ n, n < a.heap.size → B n → A n) : Keep A a c :=
  ⟨k.os.trans h.os, k.tape.trans h.tape, k.output.trans h.output, Nat.le_trans h.size k.size, fun n hn hA =>
    (k.block n (Nat.lt_of_lt_of_le hn h.size) (fun hB => hA (hAB n hn hB))).trans (h.block n hn hA)⟩
theorem Keep.mono {A B : Fp} {w w' : World} (h : Keep A w w') (hAB : ∀ n, A n → B n) : Keep B w w' :=
  ⟨h.os, h.tape, h.output, h.size, fun k hk hn => h.block k hk (fun hA => hn (hAB k hA))⟩

def View (sz : Nat) (v : Value) (lo len : Nat) (x : Value) : Prop :=
  (v = .slice none 0 0 ∧ lo = 0 ∧ len = 0 ∧ x = .slice none 0 0) ∨
  ∃ a n c q c', v = .slice (some a) n c ∧ x = .slice (some (a.add (q * sz))) len c' ∧ len ≤ c' ∧ lo + c' = c ∧ q ≤ lo ∧ (0 < c' → q = lo)

def HandleOk (w : World) (ob : Ob) (v : Value) (p : List (Nat × Nat)) (sz lo len : Nat) (x : Value) : Prop :=
  (∀ cells, ob.c ≠ .box cells) ∧ ∀ lvl t, ob.c = .tree lvl t → ∃ v' rows, At w v t p v' (.sl sz rows) ∧ lo + len ≤ rows.length ∧ View sz v' lo len x
def PtrOk (w : World) (ob : Ob) (v : Value) (p : List (Nat × Nat)) (i j : Nat) (x : Value) : Prop :=
  (∀ lvl t, ob.c = .tree lvl t → ∃ a n c sz rows, At w v t p (.slice (some a) n c) (.sl sz rows) ∧ i < rows.length ∧ x = .pointer (some (a.add (i * sz + j)))) ∧
  (∀ cells, ob.c = .box cells → p = [] → ∃ b, v = .pointer (some ⟨b, 0, none⟩) ∧ x = .pointer (some ((⟨b, 0, none⟩ : Addr).add j)))

def Born (ob : Ob) (b g : Nat) (p : List (Nat × Nat)) : Prop := b ≤ ob.birth ∧ (b = ob.birth → p ≠ [] → g ≤ ob.sver)
def Valid (ob : Ob) (b g : Nat) (p : List (Nat × Nat)) : Prop := ob.birth = b ∧ (p = [] ∨ ob.sver = g)

inductive AVR (w : World) (ob : Objs) (ρ : Nat → Value) : AV → Value → Prop where
  | s {x} (h : scalar x = true) : AVR w ob ρ (.s x) x
  | nl {sz} : AVR w ob ρ (.nl sz) (.slice none 0 0)
  | u {x} : AVR w ob ρ .u x
  | h {o b g p sz lo len x} (hb : Born (ob o) b g p) (hs : ∃ a c, x = .slice a len c ∧ len ≤ c ∧ (a = none → c = 0)) (h : Valid (ob o) b g p → HandleOk w (ob o) (ρ o) p sz lo len x) : AVR w ob ρ (.h o b g p sz lo len) x
  | pt {o b g p i j x} (hb : Born (ob o) b g p) (hs : ∃ a, x = .pointer (some a)) (h : Valid (ob o) b g p → PtrOk w (ob o) (ρ o) p i j x) : AVR w ob ρ (.pt o b g p i j) x
  | ag {l : List AV} {cs : Array Value} (hl : l.length = cs.size) (h : ∀ i a, l[i]? = some a → AVR w ob ρ a (cs.getD i undef)) : AVR w ob ρ (.ag l) (.agg cs)
  | tu {l : List AV} {cs : Array Value} (hl : l.length = cs.size) (h : ∀ i a, l[i]? = some a → AVR w ob ρ a (cs.getD i undef)) : AVR w ob ρ (.tu l) (.tuple cs)
  | fn {f : FuncId} {l : List AV} {cs : Array Value} (hl : l.length = cs.size) (h : ∀ i a, l[i]? = some a → AVR w ob ρ a (cs.getD i undef)) : AVR w ob ρ (.fn f l) (.func (.func f) #[] cs)

def Same (w w' : World) (ob ob' : Ob) (v v' : Value) : Prop :=
  ∀ b g p, Born ob b g p → Born ob' b g p ∧ (Valid ob' b g p → Valid ob b g p ∧
    (∀ sz lo len x, HandleOk w ob v p sz lo len x → HandleOk w' ob' v' p sz lo len x) ∧ (∀ i j x, PtrOk w ob v p i j x → PtrOk w' ob' v' p i j x))

theorem AVR.mono {w w' : World} {ob ob' : Objs} {ρ ρ' : Nat → Value} (hs : ∀ o, Same w w' (ob o) (ob' o) (ρ o) (ρ' o)) {a : AV} {x : Value} (h : AVR w ob ρ a x) : AVR w' ob' ρ' a x := by
  induction h with
  | s h => exact .s h
  | nl => exact .nl
  | u => exact .u
  | @h o b g p sz lo len x hb hx h =>
    obtain ⟨h1, h2⟩ := hs o b g p hb
    exact .h h1 hx fun hv => (h2 hv).2.1 _ _ _ _ (h (h2 hv).1)
  | @pt o b g p i j x hb hx h =>
    obtain ⟨h1, h2⟩ := hs o b g p hb
    exact .pt h1 hx fun hv => (h2 hv).2.2 _ _ _ (h (h2 hv).1)
  | ag hl h ih => exact .ag hl ih
  | tu hl h ih => exact .tu hl ih
  | fn hl h ih => exact .fn hl ih

def ObOk (Z : Fp) (w : World) (ob : Objs) (ρ : Nat → Value) (φ : Nat → Fp) (o : Nat) : Prop :=
  match (ob o).c with
  | .dead => ∀ k, ¬ φ o k
  | .tree lvl t => Ow Z w lvl (ρ o) t (φ o)
  | .box cells => ∃ b cs e fr, ρ o = .pointer (some ⟨b, 0, none⟩) ∧ w.heap[b]? = some (.cells cs e fr) ∧ (∀ k, k < cs.size → ¬ (fr.1 ≤ k ∧ k < fr.2)) ∧ cells.length = cs.size ∧
      (∀ i a, cells[i]? = some a → AVR w ob ρ a (cs.getD i undef)) ∧ (∀ k, φ o k ↔ k = b)

structure OInv (w0 : World) (A : Fp) (ob : Objs) (w : World) (ρ : Nat → Value) (φ : Nat → Fp) (Z : Fp) : Prop where
  keep : Keep A w0 w
  z0 : ∀ k, k < w0.heap.size → ¬ A k → Z k
  zlt : ∀ k, Z k → k < w.heap.size
  notZ : ∀ o k, φ o k → ¬ Z k
  disj : ∀ o o' k, φ o k → φ o' k → o = o'
  fresh : ∀ o k, φ o k → k < w0.heap.size → A k
  objs : ∀ o, ObOk Z w ob ρ φ o

theorem At.frame {Z : Fp} {w w' : World} {v v' : Value} {t t' : T} {p : List (Nat × Nat)} (h : At w v t p v' t') :
    ∀ {l : Nat} {F : Fp}, Ow Z w l v t F → (∀ k, Z k → w'.heap[k]? = w.heap[k]?) → (∀ k, F k → w'.heap[k]? = w.heap[k]?) → At w' v t p v' t' := by
  induction h with
  | here => intros; exact .here
  | @cons a n c sz rows i j r t x v' t' p hi hj hr hx h ih =>
    intro l F ho hZ hF
    generalize hv : Value.slice (some a) n c = v0 at ho
    generalize ht : T.sl sz rows = t0 at ho
    cases ho with
    | v h => cases ht
    | hole => cases ht
    | nil => cases hv
    | @ro a' c' rows' sz' xs hc hs hz hx' hot =>
      cases hv; cases ht
      have e := hx' i j t (cellT_of hi hj)
      have : x = xs i j := by rw [hx] at e; exact Option.some.inj e
      subst this
      refine .cons hi hj hr ?_ (ih (hot i j t (cellT_of hi hj)) hZ (fun k hk => hk.elim))
      rw [cell_of_block (w := w) (by rw [add_block]; exact hZ _ (hz (cellT_ne (cellT_of hi hj))))]; exact hx
    | @own l b off c' cs e fr rows' sz' xs G hb hfr hc hoff hmax hs hx' hot hG hnb hd =>
      cases hv; cases ht
      have e := hx' i j t (cellT_of hi hj)
      have hx2 := hx
      rw [own_cell hb, e] at hx2
      have : x = xs i j := (Option.some.inj hx2).symm
      subst this
      refine .cons hi hj hr ?_ (ih (hot i j t (cellT_of hi hj)) hZ (fun k hk => hF k (.inr ⟨i, j, hk⟩)))
      rw [cell_of_block (w := w) (by rw [add_block]; exact hF _ (.inl rfl))]; exact hx

theorem Same.stay {Z : Fp} {w w' : World} {ob : Ob} {v : Value} (hk : ∀ lvl t, ob.c = .tree lvl t → ∃ F, Ow Z w lvl v t F ∧ (∀ k, Z k → w'.heap[k]? = w.heap[k]?) ∧ (∀ k, F k → w'.heap[k]? = w.heap[k]?)) :
    Same w w' ob ob v v := by
  intro b g p hb
  refine ⟨hb, fun hv => ⟨hv, fun sz lo len x h => ⟨h.1, fun lvl t hc => ?_⟩, fun i j x h => ⟨fun lvl t hc => ?_, h.2⟩⟩⟩
  · obtain ⟨v', rows, hat, h2, h3⟩ := h.2 lvl t hc
    obtain ⟨F, ho, hZ, hF⟩ := hk lvl t hc
    exact ⟨v', rows, hat.frame ho hZ hF, h2, h3⟩
  · obtain ⟨a, n, c, sz, rows, hat, h2, h3⟩ := h.1 lvl t hc
    obtain ⟨F, ho, hZ, hF⟩ := hk lvl t hc
    exact ⟨a, n, c, sz, rows, hat.frame ho hZ hF, h2, h3⟩

structure Step (w0 : World) (A : Fp) (ob : Objs) (w : World) (ρ : Nat → Value) (ob' : Objs) (w' : World) (ρ' : Nat → Value) (φ' : Nat → Fp) (Z' : Fp) : Prop where
  inv : OInv w0 A ob' w' ρ' φ' Z'
  same : ∀ a x, AVR w ob ρ a x → AVR w' ob' ρ' a x

theorem OInv.world {w0 : World} {A : Fp} {ob : Objs} {w w' : World} {ρ : Nat → Value} {φ : Nat → Fp} {Z : Fp} (h : OInv w0 A ob w ρ φ Z) (hk : Keep none_ w w') :
    Step w0 A ob w ρ ob w' ρ φ Z := by
  have hlt : ∀ o k, φ o k → k < w.heap.size := by
    intro o k hk
    have := h.objs o
    unfold ObOk at this
    split at this
    · exact (this k hk).elim
    · exact this.lt k hk
    · obtain ⟨b, cs, e, fr, _, hb, _, _, _, h2⟩ := this
      rw [h2 k] at hk; subst hk
      exact (Array.getElem?_eq_some_iff.1 hb).1
  have hb : ∀ k, k < w.heap.size → w'.heap[k]? = w.heap[k]? := fun k hk' => hk.block k hk' id
  have hs : ∀ o, Same w w' (ob o) (ob o) (ρ o) (ρ o) := by
    intro o
    refine Same.stay (Z := Z) fun lvl t hc => ?_
    have := h.objs o
    unfold ObOk at this
    rw [hc] at this
    exact ⟨φ o, this, fun k hk' => hb k (h.zlt k hk'), fun k hk' => hb k (hlt o k hk')⟩
  refine ⟨⟨h.keep.trans hk (fun n _ hn => hn.elim), h.z0, fun k hk' => Nat.lt_of_lt_of_le (h.zlt k hk') hk.size, h.notZ, h.disj, h.fresh, fun o => ?_⟩, fun a x ha => ha.mono hs⟩
  have := h.objs o
  unfold ObOk at this ⊢
  split
  · rename_i hc; rw [hc] at this; exact this
  · rename_i lvl t hc; rw [hc] at this
    exact this.frame (fun k hk' => hb k (h.zlt k hk')) (fun k hk' => hb k (hlt o k hk'))
  · rename_i cells hc; rw [hc] at this
    obtain ⟨b, cs, e, fr, h1, h2, h3, h4, h5, h6⟩ := this
    exact ⟨b, cs, e, fr, h1, (hb b (hlt o b ((h6 b).2 rfl))).trans h2, h3, h4, fun i a hi => (h5 i a hi).mono hs, h6⟩
end Go.Proofs.YtipfcgbhaalcdaaGreat.Abs
namespace Go.Proofs.YtipfcgbhaalcdaaGreat.Abs
open Go
set_option linter.unusedVariables false
set_option linter.unusedSimpArgs false

theorem upd_same {α : Type} (f : Nat → α) (n : Nat) (a : α) : upd f n a n = a := if_pos rfl
theorem upd_ne {α : Type} (f : Nat → α) {n m : Nat} (a : α) (h : m ≠ n) : upd f n a m = f m := if_neg h

theorem OInv.lt {w0 : World} {A : Fp} {ob : Objs} {w : World} {ρ : Nat → Value} {φ : Nat → Fp} {Z : Fp} (h : OInv w0 A ob w ρ φ Z) : ∀ o k, φ o k → k < w.heap.size := by
  intro o k hk
  have := h.objs o
  unfold ObOk at this
  split at this
  · exact (this k hk).elim
  · exact this.lt k hk
  · obtain ⟨b, cs, e, fr, _, hb, _, _, _, h2⟩ := this
    rw [h2 k] at hk; subst hk
    exact (Array.getElem?_eq_some_iff.1 hb).1
theorem OInv.tree {w0 : World} {A : Fp} {ob : Objs} {w : World} {ρ : Nat → Value} {φ : Nat → Fp} {Z : Fp} (h : OInv w0 A ob w ρ φ Z) {o lvl : Nat} {t : T} (hc : (ob o).c = .tree lvl t) : Ow Z w lvl (ρ o) t (φ o) := by
  have := h.objs o
  unfold ObOk at this
  rw [hc] at this; exact this
theorem OInv.boxed {w0 : World} {A : Fp} {ob : Objs} {w : World} {ρ : Nat → Value} {φ : Nat → Fp} {Z : Fp} (h : OInv w0 A ob w ρ φ Z) {o : Nat} {cells : List AV} (hc : (ob o).c = .box cells) :
    ∃ b cs e fr, ρ o = .pointer (some ⟨b, 0, none⟩) ∧ w.heap[b]? = some (.cells cs e fr) ∧ (∀ k, k < cs.size → ¬ (fr.1 ≤ k ∧ k < fr.2)) ∧ cells.length = cs.size ∧
      (∀ i a, cells[i]? = some a → AVR w ob ρ a (cs.getD i undef)) ∧ (∀ k, φ o k ↔ k = b) := by
  have := h.objs o
  unfold ObOk at this
  rw [hc] at this; exact this

theorem OInv.upd1 {w0 : World} {A : Fp} {ob : Objs} {w w' : World} {ρ : Nat → Value} {φ : Nat → Fp} {Z Z' : Fp} (h : OInv w0 A ob w ρ φ Z)
    (o : Nat) (n : Ob) (v' : Value) (G F : Fp) (hk : Keep F w w') (hF : ∀ k, F k → φ o k)
    (hZ : ∀ k, Z k → Z' k) (hZ' : ∀ k, Z' k → Z k ∨ φ o k)
    (hG : ∀ k, G k → ¬ Z' k ∧ (∀ o', o' ≠ o → ¬ φ o' k) ∧ (k < w0.heap.size → A k))
    (hs : Same w w' (ob o) n (ρ o) v')
    (hn : (∀ a x, AVR w ob ρ a x → AVR w' (upd ob o n) (upd ρ o v') a x) → ObOk Z' w' (upd ob o n) (upd ρ o v') (upd φ o G) o) :
    Step w0 A ob w ρ (upd ob o n) w' (upd ρ o v') (upd φ o G) Z' := by
  have hsz := hk.size
  have hZb : ∀ k, Z k → w'.heap[k]? = w.heap[k]? := fun k hk' => hk.block k (h.zlt k hk') (fun hf => h.notZ o k (hF k hf) hk')
  have hob : ∀ o', o' ≠ o → ∀ k, φ o' k → w'.heap[k]? = w.heap[k]? := fun o' hne k hk' => hk.block k (h.lt o' k hk') (fun hf => hne (h.disj o' o k hk' (hF k hf)))
  have hsame : ∀ o', Same w w' (ob o') (upd ob o n o') (ρ o') (upd ρ o v' o') := by
    intro o'
    by_cases he : o' = o
    · subst he; rw [upd_same, upd_same]; exact hs
    · rw [upd_ne _ _ he, upd_ne _ _ he]
      exact Same.stay (Z := Z) fun lvl t hc => ⟨φ o', h.tree hc, hZb, hob o' he⟩
  have htr : ∀ a x, AVR w ob ρ a x → AVR w' (upd ob o n) (upd ρ o v') a x := fun a x ha => ha.mono hsame
  refine ⟨⟨?_, ?_, ?_, ?_, ?_, ?_, ?_⟩, htr⟩
  · exact h.keep.trans hk (fun k hk' hf => h.fresh o k (hF k hf) hk')
  · exact fun k hk' hA => hZ k (h.z0 k hk' hA)
  · intro k hk'
    rcases hZ' k hk' with h1 | h1
    · exact Nat.lt_of_lt_of_le (h.zlt k h1) hsz
    · exact Nat.lt_of_lt_of_le (h.lt o k h1) hsz
  · intro o' k hk' hz
    by_cases he : o' = o
    · subst he; rw [upd_same] at hk'; exact (hG k hk').1 hz
    · rw [upd_ne _ _ he] at hk'
      rcases hZ' k hz with h1 | h1
      · exact h.notZ o' k hk' h1
      · exact he (h.disj o' o k hk' h1)
  · intro o1 o2 k h1 h2
    by_cases e1 : o1 = o
    · by_cases e2 : o2 = o
      · exact e1.trans e2.symm
      · subst e1; rw [upd_same] at h1; rw [upd_ne _ _ e2] at h2; exact ((hG k h1).2.1 o2 e2 h2).elim
    · by_cases e2 : o2 = o
      · subst e2; rw [upd_same] at h2; rw [upd_ne _ _ e1] at h1; exact ((hG k h2).2.1 o1 e1 h1).elim
      · rw [upd_ne _ _ e1] at h1; rw [upd_ne _ _ e2] at h2; exact h.disj o1 o2 k h1 h2
  · intro o' k hk' hlt
    by_cases he : o' = o
    · subst he; rw [upd_same] at hk'; exact (hG k hk').2.2 hlt
    · rw [upd_ne _ _ he] at hk'; exact h.fresh o' k hk' hlt
  · intro o'
    by_cases he : o' = o
    · subst he; exact hn htr
    · have := h.objs o'
      unfold ObOk at this ⊢
      rw [upd_ne _ _ he, upd_ne _ _ he, upd_ne _ _ he]
      split
      · rename_i hc; rw [hc] at this; exact this
      · rename_i lvl t hc; rw [hc] at this
        exact (this.frame hZb (hob o' he)).monoZ hZ
      · rename_i cells hc; rw [hc] at this
        obtain ⟨b, cs, e, fr, h1, h2, h3, h4, h5, h6⟩ := this
        exact ⟨b, cs, e, fr, h1, (hob o' he b ((h6 b).2 rfl)).trans h2, h3, h4, fun i a hi => htr _ _ (h5 i a hi), h6⟩

theorem Same.born {w w' : World} {ob : Ob} {v v' : Value} {sv : Nat} {d : Bool} {c : Cont} : Same w w' ob ⟨ob.birth + 1, sv, d, c⟩ v v' := by
  intro b g p hb
  refine ⟨⟨Nat.le_succ_of_le hb.1, fun he => ?_⟩, fun hv => ?_⟩
  · have := hb.1; simp only at he; omega
  · have := hb.1; have h2 := hv.1; simp only at h2; omega
theorem Same.root {w w' : World} {ob : Ob} {v v' : Value} {sv : Nat} {d : Bool} {c : Cont} (hsv : ob.sver ≤ sv) (hlt : ob.sver = sv → (∀ lvl t, c ≠ .tree lvl t) ∧ (∀ cells, c ≠ .box cells))
    (hH : ∀ sz lo len x, HandleOk w ob v [] sz lo len x → HandleOk w' ⟨ob.birth, sv, d, c⟩ v' [] sz lo len x)
    (hP : ∀ i j x, PtrOk w ob v [] i j x → PtrOk w' ⟨ob.birth, sv, d, c⟩ v' [] i j x) : Same w w' ob ⟨ob.birth, sv, d, c⟩ v v' := by
  intro b g p hb
  refine ⟨⟨hb.1, fun he hp => Nat.le_trans (hb.2 he hp) hsv⟩, fun hv => ?_⟩
  obtain ⟨h1, h2⟩ := hv
  simp only at h1 h2
  by_cases hp : p = []
  · subst hp
    exact ⟨⟨h1, .inl rfl⟩, hH, hP⟩
  · have hg := hb.2 h1.symm hp
    have h3 : sv = g := h2.resolve_left hp
    have h4 : ob.sver = sv := by omega
    obtain ⟨n1, n2⟩ := hlt h4
    refine ⟨⟨h1, .inr (h4.trans h3)⟩, fun sz lo len x _ => ⟨n2, fun lvl t hc => (n1 _ _ hc).elim⟩, fun i j x _ => ⟨fun lvl t hc => (n1 _ _ hc).elim, fun cells hc => (n2 _ hc).elim⟩⟩
theorem Same.dead {w w' : World} {ob : Ob} {v v' : Value} {sv : Nat} {d : Bool} (hsv : ob.sver ≤ sv) : Same w w' ob ⟨ob.birth, sv, d, .dead⟩ v v' :=
  Same.root hsv (fun _ => ⟨(fun _ _ h => nomatch h), (fun _ h => nomatch h)⟩) (fun sz lo len x _ => ⟨(fun cells h => nomatch h), (fun lvl t hc => nomatch hc)⟩) (fun i j x _ => ⟨(fun lvl t hc => nomatch hc), (fun cells hc => nomatch hc)⟩)
theorem Same.box {w w' : World} {ob : Ob} {v : Value} {d : Bool} {cells cells' : List AV} (hc : ob.c = .box cells) : Same w w' ob { ob with dirty := d, c := .box cells' } v v := by
  intro b g p hb
  refine ⟨hb, fun hv => ⟨hv, fun sz lo len x hh => (hh.1 cells hc).elim, fun i j x h => ⟨fun lvl t h => (by cases h), fun cs h9 hp => h.2 cells hc hp⟩⟩⟩

theorem HandleOk.root {w w' : World} {ob ob' : Ob} {v : Value} {lvl lvl' : Nat} {t t' : T} {sz lo len : Nat} {x : Value} (hc : ob.c = .tree lvl t) (hc' : ob'.c = .tree lvl' t')
    (hr : ∀ sz rows, t = .sl sz rows → ∃ rows', t' = .sl sz rows' ∧ rows'.length = rows.length) (h : HandleOk w ob v [] sz lo len x) : HandleOk w' ob' v [] sz lo len x := by
  refine ⟨(fun cells h9 => by rw [hc'] at h9; exact nomatch h9), ?_⟩
  intro l1 t1 h1
  rw [hc'] at h1
  cases h1
  obtain ⟨v', rows, hat, h2, h3⟩ := h.2 lvl t hc
  cases hat
  obtain ⟨rows', rfl, hl⟩ := hr _ _ rfl
  exact ⟨v, rows', .here, by rw [hl]; exact h2, h3⟩
theorem PtrOk.root {w w' : World} {ob ob' : Ob} {v : Value} {lvl lvl' : Nat} {t t' : T} {i j : Nat} {x : Value} (hc : ob.c = .tree lvl t) (hc' : ob'.c = .tree lvl' t')
    (hr : ∀ sz rows, t = .sl sz rows → ∃ rows', t' = .sl sz rows' ∧ rows'.length = rows.length) (h : PtrOk w ob v [] i j x) : PtrOk w' ob' v [] i j x := by
  refine ⟨fun l1 t1 h1 => ?_, fun cells h1 => ?_⟩
  · rw [hc'] at h1
    cases h1
    obtain ⟨a, n, c, sz, rows, hat, h2, h3⟩ := h.1 lvl t hc
    cases hat
    obtain ⟨rows', rfl, hl⟩ := hr _ _ rfl
    exact ⟨a, n, c, sz, rows', .here, by rw [hl]; exact h2, h3⟩
  · rw [hc'] at h1; cases h1

theorem put_rows {t : T} {p : List (Nat × Nat)} {sz : Nat} {rows : List (List T)} (hat : t.at? p = some (.sl sz rows)) {rows1 : List (List T)} (hl : rows1.length = rows.length) :
    ∀ sz2 rows2, t = .sl sz2 rows2 → ∃ rows', t.put p (.sl sz rows1) = .sl sz2 rows' ∧ rows'.length = rows2.length := by
  rintro sz2 rows2 rfl
  cases p with
  | nil =>
    simp only [T.at?, Option.some.injEq, T.sl.injEq] at hat
    obtain ⟨rfl, rfl⟩ := hat
    exact ⟨rows1, rfl, hl⟩
  | cons ij p =>
    obtain ⟨i, j⟩ := ij
    exact ⟨_, rfl, by simp⟩
theorem put_any {t : T} {p : List (Nat × Nat)} {x : T} (hp : p ≠ []) :
    ∀ sz2 rows2, t = .sl sz2 rows2 → ∃ rows', t.put p x = .sl sz2 rows' ∧ rows'.length = rows2.length := by
  rintro sz2 rows2 rfl
  cases p with
  | nil => exact (hp rfl).elim
  | cons ij p =>
    obtain ⟨i, j⟩ := ij
    exact ⟨_, rfl, by simp⟩

def push (w : World) (cs : Array Value) (e : TypeId) : World := { w with heap := w.heap.push (.cells cs e) }
theorem push_keep (w : World) (cs : Array Value) (e : TypeId) : Keep none_ w (push w cs e) :=
  ⟨rfl, rfl, rfl, by show _ ≤ (w.heap.push _).size; rw [Array.size_push]; omega, fun k hk _ => by show (w.heap.push _)[k]? = _; rw [Array.getElem?_push, if_neg (by omega)]⟩
theorem push_new (w : World) (cs : Array Value) (e : TypeId) : (push w cs e).heap[w.heap.size]? = some (.cells cs e (0, 0)) := by
  show (w.heap.push _)[w.heap.size]? = _; rw [Array.getElem?_push, if_pos rfl]

theorem OInv.newBox {w0 : World} {A : Fp} {ob : Objs} {w : World} {ρ : Nat → Value} {φ : Nat → Fp} {Z : Fp} (h : OInv w0 A ob w ρ φ Z) (d : Nat) (l : List AV) (cs : Array Value) (e : TypeId)
    (hl : l.length = cs.size) (hc : ∀ i a, l[i]? = some a → AVR w ob ρ a (cs.getD i undef)) :
    Step w0 A ob w ρ (upd ob d ⟨(ob d).birth + 1, 0, false, .box l⟩) (push w cs e) (upd ρ d (.pointer (some ⟨w.heap.size, 0, none⟩))) (upd φ d (fun k => k = w.heap.size)) Z := by
  refine h.upd1 d _ _ (fun k => k = w.heap.size) none_ (push_keep w cs e) (fun k hk => hk.elim) (fun k hk => hk) (fun k hk => .inl hk) ?_ Same.born ?_
  · rintro k rfl
    exact ⟨fun hz => Nat.lt_irrefl _ (h.zlt _ hz), fun o' _ ho => Nat.lt_irrefl _ (h.lt o' _ ho), fun hlt => absurd hlt (Nat.not_lt.2 h.keep.size)⟩
  · intro htr
    unfold ObOk
    rw [upd_same, upd_same, upd_same]
    exact ⟨_, cs, e, (0, 0), rfl, push_new w cs e, fun k _ h0 => Nat.not_lt_zero _ h0.2, hl, fun i a hi => htr _ _ (hc i a hi), fun k => Iff.rfl⟩

theorem OInv.newTree {w0 : World} {A : Fp} {ob : Objs} {w : World} {ρ : Nat → Value} {φ : Nat → Fp} {Z : Fp} (h : OInv w0 A ob w ρ φ Z) (d : Nat) (lvl : Nat) (v : Value) (t : T) (G : Fp)
    (ho : Ow Z w lvl v t G) (hG : ∀ k, G k → ¬ Z k ∧ (∀ o', ¬ φ o' k) ∧ (k < w0.heap.size → A k)) :
    Step w0 A ob w ρ (upd ob d ⟨(ob d).birth + 1, 0, false, .tree lvl t⟩) w (upd ρ d v) (upd φ d G) Z := by
  refine h.upd1 d _ _ G none_ (Keep.refl _ _) (fun k hk => hk.elim) (fun k hk => hk) (fun k hk => .inl hk) (fun k hk => ⟨(hG k hk).1, fun o' _ => (hG k hk).2.1 o', (hG k hk).2.2⟩) Same.born ?_
  intro htr
  unfold ObOk
  rw [upd_same, upd_same, upd_same]
  exact ho

theorem OInv.kill {w0 : World} {A : Fp} {ob : Objs} {w : World} {ρ : Nat → Value} {φ : Nat → Fp} {Z : Fp} (h : OInv w0 A ob w ρ φ Z) (o : Nat) (sv : Nat) (d : Bool) (hsv : (ob o).sver ≤ sv) :
    Step w0 A ob w ρ (upd ob o ⟨(ob o).birth, sv, d, .dead⟩) w ρ (upd φ o none_) Z ∧ (∀ k, φ o k → ¬ Z k ∧ (∀ o', ¬ upd φ o none_ o' k) ∧ (k < w0.heap.size → A k)) := by
  have e : upd ρ o (ρ o) = ρ := funext fun m => by unfold upd; split <;> simp_all
  refine ⟨?_, fun k hk => ⟨h.notZ o k hk, fun o' hk' => ?_, h.fresh o k hk⟩⟩
  · have := h.upd1 (w' := w) (Z' := Z) o ⟨(ob o).birth, sv, d, .dead⟩ (ρ o) none_ none_ (Keep.refl _ _) (fun k hk => hk.elim) (fun k hk => hk) (fun k hk => .inl hk) (fun k hk => hk.elim) (Same.dead hsv) (fun htr => by
      unfold ObOk; rw [upd_same]; exact fun k hk => by rw [upd_same] at hk; exact hk)
    rw [e] at this; exact this
  · by_cases he : o' = o
    · subst he; rw [upd_same] at hk'; exact hk'
    · rw [upd_ne _ _ he] at hk'; exact he (h.disj o' o k hk' hk)
end Go.Proofs.YtipfcgbhaalcdaaGreat.Abs
namespace Go.Proofs.YtipfcgbhaalcdaaGreat.Abs
open Go
set_option linter.unusedVariables false
set_option linter.unusedSimpArgs false

def EqOk (P : Program) (t : TypeId) (n : Nat) : Prop := ∀ (w : World) (x y : Operand) (xs ys : Array Value) (l l' : List AV) (b : Bool) (ob : Objs) (ρ : Nat → Value),
  l.length = n → l'.length = n → AVR w ob ρ (.ag l) (.agg xs) → AVR w ob ρ (.ag l') (.agg ys) → eqCells l l' = some b →
    (do eqGuard .eql t x y (.agg xs) (.agg ys); binOp .eql t (.agg xs) (.agg ys) : Sem Value).run P w = .ok (.bool b) w ∧
    (do eqGuard .neq t x y (.agg xs) (.agg ys); binOp .neq t (.agg xs) (.agg ys) : Sem Value).run P w = .ok (.bool (!b)) w

structure FieldsOk (P : Program) (t : TypeId) (i : TyI) : Prop where
  fields : ∃ fields : Array Field, P.underlying t = some (.struct fields) ∧ fields.size = i.offs.length ∧ ∀ (k : Nat) (f : Field), fields[k]? = some f → ∃ fi, P.info? f.type = some fi ∧ i.offs[k]? = some (f.offset, fi.size)

structure TyOk (P : Program) (t : TypeId) (i : TyI) : Prop where
  info : ∃ ti z, P.info? t = some ti ∧ ti.zero = some z ∧ ti.size = i.cells.length ∧ z.cells.size = i.cells.length ∧
    ∀ k a, i.cells[k]? = some a → (∃ x, a = .s x ∧ scalar x = true ∧ z.cells.getD k undef = x) ∨ (∃ n, a = .nl n ∧ z.cells.getD k undef = .slice none 0 0)
  agg : ∀ w, (isAgg t).run P w = .ok i.agg w
  offs : ∀ (f : Nat) (k : Nat × Nat), i.offs[f]? = some k → ∃ (fields : Array Field) (fd : Field) (fi : TypeInfo), P.underlying t = some (.struct fields) ∧ fields[f]? = some fd ∧ fd.offset = k.1 ∧ P.info? fd.type = some fi ∧ fi.size = k.2 ∧ k.2 ≠ 0
  elem : ∀ e, i.elem = some e → P.underlying t = some (.slice e) ∧ ∃ ei, P.info? e = some ei ∧ ei.size = i.esz ∧ ei.bytes = i.bytes
  kind : ∀ k n, i.cells = [.s (.int k n)] → P.underlying t = some (.int k)
  str : ∀ s, i.cells = [.s (.string s)] → P.underlying t = some .string
  bool : ∀ b, i.cells = [.s (.bool b)] → P.underlying t = some .bool
  eqs : i.eqs = true → EqOk P t i.cells.length
  flds : i.agg = true → FieldsOk P t i

def OpSound (P : Program) (o : Oper) (a : Act) (w : World) (R : Value → World → Prop) : Prop :=
  ∀ (K : Act → World → Prop) (Q : Go.Exit → Act → World → Prop), (∀ v w', R v w' → K (a.put o.dst v) w') → o.wp P a w K Q

theorem opSound_value {P : Program} {o : Oper} {a : Act} {w w' : World} {R : Value → World → Prop} {v : Value} (h : (execOp a.eval o).run P w = .ok (.value v) w') (hR : R v w') : OpSound P o a w R := by
  intro K Q hK
  unfold Oper.wp
  rw [h]
  exact hK v w' hR
theorem opSound_skip {P : Program} {o : Oper} {a : Act} {w w' : World} {R : Value → World → Prop} (h : (execOp a.eval o).run P w = .ok .skip w') (hR : R undef w') : OpSound P o a w R := by
  intro K Q hK
  unfold Oper.wp
  rw [h]
  exact hK undef w' hR

def Done (w0 : World) (A : Fp) (ob : Objs) (w : World) (ρ : Nat → Value) (out : Out) (v : Value) (w' : World) : Prop :=
  ∃ ρ' φ' Z', Step w0 A ob w ρ (upds ob out.sets) w' ρ' φ' Z' ∧ AVR w' (upds ob out.sets) ρ' out.v v

variable {P : Program} {E : Env} {w0 : World} {A : Fp} {ob : Objs} {w : World} {ρ : Nat → Value} {φ : Nat → Fp} {Z : Fp} {sl : Slots} {a : Act}

theorem OInv.stay (h : OInv w0 A ob w ρ φ Z) : Step w0 A ob w ρ ob w ρ φ Z := ⟨h, fun _ _ h => h⟩
theorem done_val (h : OInv w0 A ob w ρ φ Z) {x : AV} {v : Value} (hx : AVR w ob ρ x v) : Done w0 A ob w ρ ⟨x, []⟩ v w := ⟨ρ, φ, Z, h.stay, hx⟩

theorem ev_sound (hsl : ∀ n, AVR w ob ρ (sl n) (a.tmps.getD n undef)) (x : Operand) : AVR w ob ρ (ev sl x) (a.eval x) := by
  cases x with
  | tmp t => exact hsl t
  | const v =>
    unfold ev Act.eval
    split
    · rename_i h; cases h
    · rename_i h; cases h; exact .nl
    · rename_i x h1 h2; cases h2
      split
      · rename_i hs; exact .s hs
      · exact .u
    · rename_i h; cases h
    · rename_i h; cases h
  | global g => exact .u
  | func f => exact .fn (by simp) (fun i a h => by simp at h)
theorem evT_sound (hsl : ∀ n, AVR w ob ρ (sl n) (a.tmps.getD n undef)) (t : TypeId) (x : Operand) : AVR w ob ρ (evT E sl t x) (a.eval x) := by
  have h := ev_sound hsl x
  generalize a.eval x = v at h
  unfold evT
  split
  · rename_i n hn
    rw [hn] at h
    cases h
    split
    · exact .nl
    · exact .nl
  · exact h

theorem scalar_cells {x : Value} (h : scalar x = true) : x.cells = #[x] := by
  cases x <;> first | rfl | (simp [scalar] at h)
theorem cells_sound {x : AV} {l : List AV} {v : Value} (hl : x.cells? = some l) (h : AVR w ob ρ x v) :
    l.length = v.cells.size ∧ ∀ i y, l[i]? = some y → AVR w ob ρ y (v.cells.getD i undef) := by
  have one : ∀ (y : AV) (v : Value), AVR w ob ρ y v → v.cells = #[v] → [y].length = v.cells.size ∧ ∀ i z, [y][i]? = some z → AVR w ob ρ z (v.cells.getD i undef) := by
    intro y v hy hv
    rw [hv]
    refine ⟨rfl, fun i z hz => ?_⟩
    cases i with
    | zero => simp at hz; subst hz; simpa using hy
    | succ i => simp at hz
  cases h with
  | s h => simp only [AV.cells?, Option.some.injEq] at hl; subst hl; exact one _ _ (.s h) (scalar_cells h)
  | nl => simp only [AV.cells?, Option.some.injEq] at hl; subst hl; exact one _ _ .nl rfl
  | u => simp [AV.cells?] at hl
  | h hb hs h => simp only [AV.cells?, Option.some.injEq] at hl; subst hl; obtain ⟨a, c, rfl, hn⟩ := hs; exact one _ _ (.h hb ⟨a, c, rfl, hn⟩ h) rfl
  | pt hb hs h => simp only [AV.cells?, Option.some.injEq] at hl; subst hl; obtain ⟨a, rfl⟩ := hs; exact one _ _ (.pt hb ⟨a, rfl⟩ h) rfl
  | ag h1 h2 => simp only [AV.cells?, Option.some.injEq] at hl; subst hl; exact ⟨h1, h2⟩
  | tu h1 h2 => simp [AV.cells?] at hl
  | fn h1 h2 => simp only [AV.cells?, Option.some.injEq] at hl; subst hl; exact one _ _ (.fn h1 h2) rfl

theorem bin_int {op : BinOp} {k : IntKind} {m n : Int} {x : Value} (h : binInt op k m n = some x) (t : TypeId) (xo yo : Operand) :
    (do eqGuard op t xo yo (.int k m) (.int k n); binOp op t (.int k m) (.int k n) : Sem Value).run P w = .ok x w ∧ scalar x = true := by
  cases op <;> simp only [binInt] at h <;>
    first
    | (simp at h; done)
    | (simp only [Option.some.injEq] at h; subst h; refine ⟨?_, rfl⟩; simp [eqGuard, binOp, Op.intArith, Op.intCmp, Op.intBits, bits, Bind.bind, Sem.bind, Sem.run, pure, bne]; done)
    | (simp only [Option.some.injEq] at h; subst h; refine ⟨?_, rfl⟩; simp [eqGuard, binOp, Op.intArith, Op.intCmp, Op.intBits, bits, Bind.bind, Sem.bind, Sem.run, pure, bne]; rfl)
    | (split at h
       · (simp at h; done)
       · rename_i hz; simp only [Option.some.injEq] at h; subst h; refine ⟨?_, rfl⟩; simp [eqGuard, binOp, Op.intDiv, hz, Bind.bind, Sem.bind, Sem.run, pure])
    | skip
end Go.Proofs.YtipfcgbhaalcdaaGreat.Abs
namespace Go.Proofs.YtipfcgbhaalcdaaGreat.Abs
open Go
set_option linter.unusedVariables false
set_option linter.unusedSimpArgs false
variable {P : Program} {E : Env} {w0 : World} {A : Fp} {ob : Objs} {w : World} {ρ : Nat → Value} {φ : Nat → Fp} {Z : Fp} {sl : Slots} {a : Act}

theorem At.at? {v v' : Value} {t t' : T} {p : List (Nat × Nat)} (h : At w v t p v' t') : t.at? p = some t' := by
  induction h with
  | here => simp [T.at?]
  | cons hi hj hr hx h ih => simp [T.at?, hi, hj, ih]
theorem At.det {v v1 v2 : Value} {t t1 t2 : T} {p : List (Nat × Nat)} (h : At w v t p v1 t1) (h' : At w v t p v2 t2) : v1 = v2 := by
  induction h with
  | here => cases h'; rfl
  | cons hi hj hr hx h ih =>
    cases h' with
    | cons hi' hj' hr' hx' h'' =>
      rw [hi] at hi'; cases hi'
      rw [hj] at hj'; cases hj'
      rw [hx] at hx'; cases hx'
      exact ih h''
theorem At.snoc {v x : Value} {t t1 : T} {p : List (Nat × Nat)} {a0 : Addr} {n c sz i j : Nat} {rows : List (List T)} {r : List T} (h : At w v t p (.slice (some a0) n c) (.sl sz rows))
    (hi : rows[i]? = some r) (hj : r[j]? = some t1) (hr : r.length = sz) (hx : w.cell? (a0.add (i * sz + j)) = some x) : At w v t (p ++ [(i, j)]) x t1 := by
  generalize hv : Value.slice (some a0) n c = v0 at h
  generalize ht : T.sl sz rows = t0 at h
  induction h with
  | here => subst hv; subst ht; exact .cons hi hj hr hx .here
  | cons hi' hj' hr' hx' h' ih => exact .cons hi' hj' hr' hx' (ih hv ht)

theorem Ow.row {l : Nat} {a : Addr} {n c sz : Nat} {rows : List (List T)} {F : Fp} (h : Ow Z w l (.slice (some a) n c) (.sl sz rows) F) :
    n = rows.length ∧ n ≤ c ∧ (∀ r ∈ rows, r.length = sz) ∧ ∃ (xs : Nat → Nat → Value) (G : Nat → Nat → Fp) (l' : Nat),
      ∀ i j t, cellT rows i j = some t → w.cell? (a.add (i * sz + j)) = some (xs i j) ∧ Ow Z w l' (xs i j) t (G i j) := by
  cases h with
  | ro xs hc hs hz hx ht => exact ⟨rfl, hc, hs, xs, fun _ _ => none_, 0, fun i j t h => ⟨hx i j t h, ht i j t h⟩⟩
  | own xs G hb hfr hc hoff hmax hs hx ht hG hnb hd => exact ⟨rfl, hc, hs, xs, G, _, fun i j t h => ⟨by rw [own_cell hb]; exact hx i j t h, ht i j t h⟩⟩

theorem node_cells (h : OInv w0 A ob w ρ φ Z) {o lvl : Nat} {t : T} (hc : (ob o).c = .tree lvl t) {p : List (Nat × Nat)} {a0 : Addr} {n c sz : Nat} {rows : List (List T)}
    (hat : At w (ρ o) t p (.slice (some a0) n c) (.sl sz rows)) : n = rows.length ∧ n ≤ c ∧ (∀ r ∈ rows, r.length = sz) ∧ ∃ (xs : Nat → Nat → Value),
      ∀ i j t1, cellT rows i j = some t1 → w.cell? (a0.add (i * sz + j)) = some (xs i j) ∧
        AVR w ob ρ (avOf o (ob o).birth (ob o).sver p i j t1) (xs i j) := by
  obtain ⟨v', F', hat', how, _, _⟩ := (h.tree hc).focus p hat.at?
  have hv := hat.det hat'
  subst hv
  obtain ⟨h1, h2, h3, xs, G, l', h4⟩ := how.row
  refine ⟨h1, h2, h3, xs, fun i j t1 hcell => ⟨(h4 i j t1 hcell).1, ?_⟩⟩
  obtain ⟨hx, ho⟩ := h4 i j t1 hcell
  obtain ⟨r, hi, hj⟩ : ∃ r, rows[i]? = some r ∧ r[j]? = some t1 := by
    unfold cellT at hcell
    cases hi : rows[i]? with
    | none => simp [hi] at hcell
    | some r => exact ⟨r, rfl, by simpa [hi] using hcell⟩
  have hr := h3 r (List.mem_of_getElem? hi)
  generalize G i j = Gij at ho
  cases t1 with
  | v y =>
    generalize xs i j = q at *
    cases ho with | v hs => exact .s hs
  | hole => exact .u
  | sl sz2 rows2 =>
    have hat2 := hat.snoc hi hj hr hx
    generalize xs i j = y at *
    have hs : ∃ a c, y = .slice a rows2.length c ∧ rows2.length ≤ c ∧ (a = none → c = 0) := by
      cases ho with
      | nil => exact ⟨none, 0, rfl, Nat.le_refl _, fun _ => rfl⟩
      | ro _ hcc => exact ⟨_, _, rfl, hcc, fun h => by cases h⟩
      | own _ _ _ _ hcc => exact ⟨_, _, rfl, hcc, fun h => by cases h⟩
    refine .h ⟨Nat.le_refl _, fun _ _ => Nat.le_refl _⟩ hs fun _ => ⟨(fun cells h9 => by rw [hc] at h9; exact nomatch h9), fun lvl' t' hc' => ?_⟩
    rw [hc] at hc'
    cases hc'
    refine ⟨y, rows2, hat2, by omega, ?_⟩
    cases ho with
    | nil => exact .inl ⟨rfl, rfl, rfl, rfl⟩
    | @ro a c _ _ xs hcc => exact .inr ⟨a, _, c, 0, c, rfl, by simp [Addr.add], hcc, by omega, Nat.le_refl _, fun _ => rfl⟩
    | @own l b off c _ _ _ _ _ xs F hb hfr hcc => exact .inr ⟨_, _, c, 0, c, rfl, by simp [Addr.add], hcc, by omega, Nat.le_refl _, fun _ => rfl⟩

theorem add_add (x : Addr) (n m : Nat) : (x.add n).add m = x.add (n + m) := by
  unfold Addr.add
  by_cases hn : n = 0
  · subst hn; simp
  · by_cases hm : m = 0
    · subst hm; simp [hn]
    · have h3 : ¬ (n = 0 ∧ m = 0) := fun h => hn h.1
      simp [hn, hm, Nat.add_assoc]

theorem load_run {t : TypeId} {ti : TyI} (hT : TyOk P t ti) (x : Addr) (f : Nat → Value) (hf : ∀ j, j < (if ti.agg then ti.cells.length else 1) → w.cell? (x.add j) = some (f j)) :
    (Instr.loadAt t (.pointer (some x))).run P w = .ok (if ti.agg then .agg ((List.range ti.cells.length).map f).toArray else f 0) w := by
  obtain ⟨i, z, hi, _, hsz, _⟩ := hT.info
  unfold Instr.loadAt Instr.sureAddr loadVar
  cases hg : ti.agg with
  | true =>
    simp only [hg, if_true] at hf ⊢
    have ha := hT.agg w
    rw [hg] at ha
    simp [Sem.run_bind, ha, sizeOf, typeInfo, hi, hsz, run_loadCells w x ti.cells.length f hf, Sem.run, Result.andThen]
  | false =>
    simp only [hg, if_false, Bool.false_eq_true] at hf ⊢
    have ha := hT.agg w
    rw [hg] at ha
    have h0 := hf 0 (by omega)
    rw [show x.add 0 = x from by simp [Addr.add]] at h0
    simp [Sem.run_bind, ha, load, Sem.run, h0, Result.andThen]

theorem load_sound {t : TypeId} {ti : TyI} (hT : TyOk P t ti) (h : OInv w0 A ob w ρ φ Z) {av : AV} {x : Value} (hx : AVR w ob ρ av x) {out : Out}
    (hr : (exLoad E ti av).run ob = some out) : ∃ v, (Instr.loadAt t x).run P w = .ok v w ∧ out.sets = [] ∧ AVR w ob ρ out.v v := by
  cases hx with
  | @pt o b g p i j x hb hs hv =>
    simp only [exLoad, Rd.run] at hr
    cases hc : (ob o).c with
    | dead => simp [hc, Rd.run] at hr
    | box cells =>
      simp only [hc] at hr
      split at hr
      · rename_i hbp
        obtain ⟨rfl, rfl⟩ := hbp
        obtain ⟨b', hρ, hxx⟩ := (hv ⟨rfl, .inl rfl⟩).2 cells hc rfl
        obtain ⟨b2, cs, e, fr, h1, h2, _, h4, h5, _⟩ := h.boxed hc
        rw [hρ] at h1
        obtain rfl : b' = b2 := by cases h1; rfl
        subst hxx
        cases hg : ti.agg with
        | true =>
          simp only [hg, if_true] at hr
          split at hr
          · rename_i hle
            simp only [val, Rd.run, Option.some.injEq] at hr
            subst hr
            have := load_run hT (w := w) ((⟨b', 0, none⟩ : Addr).add j) (fun k => cs.getD (j + k) undef) (by
              rw [hg]; intro k hk
              simp only [if_true] at hk
              rw [add_add, own_cell h2, Nat.zero_add]
              have : j + k < cs.size := by omega
              simp [Array.getD, this])
            rw [hg] at this
            refine ⟨_, this, rfl, ?_⟩
            simp only [if_true]
            refine .ag (by simp; omega) fun k y hk => ?_
            have hk2 : k < ti.cells.length := by
              by_cases hlt : k < ti.cells.length
              · exact hlt
              · rw [List.getElem?_eq_none (by simp; omega)] at hk; cases hk
            rw [List.getElem?_take, if_pos hk2, List.getElem?_drop] at hk
            have := h5 (j + k) y hk
            simpa [hk2] using this
          · simp [Rd.run] at hr
        | false =>
          simp only [hg, Bool.false_eq_true, if_false] at hr
          cases hcell : cells[j]? with
          | none => simp [hcell, Rd.run] at hr
          | some y =>
            simp only [hcell, val, Rd.run, Option.some.injEq] at hr
            subst hr
            have hj : j < cs.size := by
              have := (List.getElem?_eq_some_iff.1 hcell).1; omega
            have := load_run hT (w := w) ((⟨b', 0, none⟩ : Addr).add j) (fun k => cs.getD (j + k) undef) (by
              rw [hg]; intro k hk
              simp only [Bool.false_eq_true, if_false] at hk
              obtain rfl : k = 0 := by omega
              rw [add_add, own_cell h2, Nat.zero_add]
              simp [Array.getD, hj])
            rw [hg] at this
            refine ⟨_, this, rfl, ?_⟩
            simpa using h5 j y hcell
      · simp [Rd.run] at hr
    | tree lvl t' =>
      simp only [hc] at hr
      split at hr
      · rename_i hval
        obtain ⟨a0, n, c, sz, rows, hat, hi, hxx⟩ := (hv hval).1 lvl t' hc
        subst hxx
        rw [hat.at?] at hr
        simp only at hr
        obtain ⟨h1, h2, h3, xs, h4⟩ := node_cells h hc hat
        obtain ⟨hbb, _⟩ := hval
        subst hbb
        cases hri : rows[i]? with
        | none => simp [hri, Rd.run] at hr
        | some r =>
          simp only [hri] at hr
          cases hg : ti.agg with
          | true =>
            simp only [hg, if_true] at hr
            split at hr
            · rename_i hle
              simp only [val, Rd.run, Option.some.injEq] at hr
              subst hr
              have hcell : ∀ k, k < ti.cells.length → ∃ t1, r[j + k]? = some t1 ∧ cellT rows i (j + k) = some t1 := by
                intro k hk
                have hlt : j + k < r.length := by omega
                exact ⟨r[j + k], by simp [hlt], cellT_of hri (by simp [hlt])⟩
              have := load_run hT (w := w) (a0.add (i * sz + j)) (fun k => xs i (j + k)) (by
                rw [hg]; intro k hk
                simp only [if_true] at hk
                obtain ⟨t1, _, hct⟩ := hcell k hk
                rw [add_add, Nat.add_assoc]
                exact (h4 i (j + k) t1 hct).1)
              rw [hg] at this
              refine ⟨_, this, rfl, ?_⟩
              simp only [if_true]
              refine .ag (by simp; omega) fun k y hk => ?_
              have hk2 : k < ti.cells.length := by
                by_cases hlt : k < ti.cells.length
                · exact hlt
                · rw [List.getElem?_eq_none (by simp; omega)] at hk; cases hk
              obtain ⟨t1, hjt, hct⟩ := hcell k hk2
              have hz : (((r.drop j).take ti.cells.length).zipIdx.map fun (t, k) => avOf o (ob o).birth (ob o).sver p i (j + k) t)[k]? = some (avOf o (ob o).birth (ob o).sver p i (j + k) t1) := by
                rw [List.getElem?_map, List.getElem?_zipIdx, List.getElem?_take, if_pos hk2, List.getElem?_drop, hjt]
                simp
              rw [hz] at hk
              cases hk
              have := (h4 i (j + k) t1 hct).2
              simpa [hk2] using this
            · simp [Rd.run] at hr
          | false =>
            simp only [hg, Bool.false_eq_true, if_false] at hr
            cases hj : r[j]? with
            | none => simp [hj, Rd.run] at hr
            | some t1 =>
              simp only [hj, val, Rd.run, Option.some.injEq] at hr
              subst hr
              have hct := cellT_of hri hj
              have := load_run hT (w := w) (a0.add (i * sz + j)) (fun k => xs i (j + k)) (by
                rw [hg]; intro k hk
                simp only [Bool.false_eq_true, if_false] at hk
                obtain rfl : k = 0 := by omega
                rw [show (a0.add (i * sz + j)).add 0 = a0.add (i * sz + j) from by simp [Addr.add]]
                exact (h4 i j t1 hct).1)
              rw [hg] at this
              refine ⟨_, this, rfl, ?_⟩
              simpa using (h4 i j t1 hct).2
      · simp [Rd.run] at hr
  | _ => simp [exLoad, Rd.run] at hr
end Go.Proofs.YtipfcgbhaalcdaaGreat.Abs
namespace Go.Proofs.YtipfcgbhaalcdaaGreat.Abs
open Go
set_option linter.unusedVariables false
set_option linter.unusedSimpArgs false
variable {P : Program} {E : Env} {w0 : World} {A : Fp} {ob : Objs} {w : World} {ρ : Nat → Value} {φ : Nat → Fp} {Z : Fp} {sl : Slots} {a : Act}

theorem look_run {α : Type} {o b g : Nat} {p : List (Nat × Nat)} {k : Ob → Nat → T → Nat → List (List T) → Rd α} {r : α} (h : (look o b g p k).run ob = some r) :
    ∃ lvl t sz rows, (ob o).c = .tree lvl t ∧ Valid (ob o) b g p ∧ t.at? p = some (.sl sz rows) ∧ (k (ob o) lvl t sz rows).run ob = some r := by
  simp only [look, Rd.run] at h
  cases hc : (ob o).c with
  | dead => simp [hc, Rd.run] at h
  | box c => simp [hc, Rd.run] at h
  | tree lvl t =>
    simp only [hc] at h
    split at h
    · rename_i hv
      split at h
      · rename_i sz rows hat
        exact ⟨lvl, t, sz, rows, rfl, hv, hat, h⟩
      · simp [Rd.run] at h
    · simp [Rd.run] at h

inductive GrabR (ob : Objs) : List AV → List Nat → List T → Nat → List (Nat × Ob) → Prop where
  | nil {mv} : GrabR ob [] mv [] 8 []
  | s {x r mv ts l ss} (h : GrabR ob r mv ts l ss) : GrabR ob (.s x :: r) mv (.v x :: ts) l ss
  | nl {sz r mv ts l ss} (h : GrabR ob r mv ts l ss) : GrabR ob (.nl sz :: r) mv (.sl sz [] :: ts) l ss
  | ro {o b g p sz' lo len r mv ts l ss lvl t sz rows} (hc : (ob o).c = .tree lvl t) (hv : Valid (ob o) b g p) (hat : t.at? p = some (.sl sz rows)) (hl : lvl - p.length = 0) (hm : o ∉ mv)
      (h : GrabR ob r mv ts l ss) : GrabR ob (.h o b g p sz' lo len :: r) mv (.sl sz ((rows.drop lo).take len) :: ts) 0 ss
  | own {o b g sz' lo len r mv ts l ss lvl sz rows} (hc : (ob o).c = .tree lvl (.sl sz rows)) (hv : Valid (ob o) b g []) (hl : 0 < lvl) (hm : o ∉ mv)
      (h : GrabR ob r (o :: mv) ts l ss) : GrabR ob (.h o b g [] sz' lo len :: r) mv (.sl sz ((rows.drop lo).take len) :: ts) (min lvl l) ((o, { ob o with dirty := true, c := .dead }) :: ss)

theorem grab_run {α : Type} (l : List AV) : ∀ (mv : List Nat) (k : List T → Nat → List (Nat × Ob) → Rd α) (r : α), (grab l mv k).run ob = some r →
    ∃ ts lv ss, GrabR ob l mv ts lv ss ∧ (k ts lv ss).run ob = some r := by
  induction l with
  | nil => intro mv k r h; exact ⟨[], 8, [], .nil, h⟩
  | cons x l ih =>
    intro mv k r h
    cases x with
    | s x => obtain ⟨ts, lv, ss, h1, h2⟩ := ih mv _ r h; exact ⟨_, _, _, .s h1, h2⟩
    | nl sz => obtain ⟨ts, lv, ss, h1, h2⟩ := ih mv _ r h; exact ⟨_, _, _, .nl h1, h2⟩
    | h o b g p sz lo len =>
      obtain ⟨lvl, t, sz2, rows, hc, hv, hat, h'⟩ := look_run (k := fun ob lvl t sz rows => _) h
      clear h
      split at h'
      · simp [Rd.run] at h'
      · rename_i hm
        split at h'
        · rename_i hl
          obtain ⟨ts, lv, ss, h1, h2⟩ := ih mv _ r h'
          exact ⟨_, _, _, .ro hc hv hat hl hm h1, h2⟩
        · rename_i hl
          split at h'
          · rename_i hp
            obtain ⟨ts, lv, ss, h1, h2⟩ := ih _ _ r h'
            subst hp
            simp only [T.at?, Option.some.injEq] at hat
            subst hat
            exact ⟨_, _, _, .own hc hv (by simp at hl; omega) hm h1, h2⟩
          · simp [Rd.run] at h'
    | _ => simp [grab, Rd.run] at h

theorem drop_take_cell {rows : List (List T)} {lo len i j : Nat} {t : T} (h : cellT ((rows.drop lo).take len) i j = some t) : i < len ∧ cellT rows (lo + i) j = some t := by
  unfold cellT at h ⊢
  rw [List.getElem?_take] at h
  by_cases hi : i < len
  · rw [if_pos hi, List.getElem?_drop] at h; exact ⟨hi, h⟩
  · rw [if_neg hi] at h; simp at h
theorem drop_take_mem {rows : List (List T)} {lo len : Nat} {r : List T} (h : r ∈ (rows.drop lo).take len) : r ∈ rows := List.mem_of_mem_drop (List.mem_of_mem_take h)
theorem drop_take_len {rows : List (List T)} {lo len : Nat} (h : lo + len ≤ rows.length) : ((rows.drop lo).take len).length = len := by simp; omega

theorem Ow.view {l : Nat} {v : Value} {sz lo len : Nat} {rows : List (List T)} {F : Fp} {x : Value} (h : Ow Z w l v (.sl sz rows) F) (hv : View sz v lo len x) (hl : lo + len ≤ rows.length) :
    ∃ F', (∀ k, F' k → F k) ∧ Ow Z w l x (.sl sz ((rows.drop lo).take len)) F' := by
  rcases hv with ⟨rfl, rfl, rfl, rfl⟩ | ⟨a, n, c, q, c', rfl, rfl, h1, h2, h3, h4⟩
  · exact ⟨none_, fun k hk => hk.elim, by simpa using Ow.nil⟩
  · have hlen := drop_take_len hl
    have idx : ∀ i j, i < len → lo * sz + (i * sz + j) = (lo + i) * sz + j := by intro i j _; rw [Nat.add_mul]; omega
    cases h with
    | @ro a c _ _ xs hc hs hz hx ht =>
      refine ⟨none_, fun k hk => hk.elim, ?_⟩
      have := Ow.ro (Z := Z) (w := w) (a := a.add (q * sz)) (c := c') (rows := (rows.drop lo).take len) (sz := sz) (fun i j => xs (lo + i) j) (by rw [hlen]; exact h1)
        (fun r hr => hs r (drop_take_mem hr)) (fun hr => by rw [add_block]; exact hz (fun e => hr (by rw [e]; simp))) (fun i j t h => ?_) (fun i j t h => ht _ _ _ (drop_take_cell h).2)
      · rw [hlen] at this; exact this
      · obtain ⟨hi, hcell⟩ := drop_take_cell h
        obtain rfl := h4 (by omega)
        rw [add_add, idx i j hi]; exact hx _ _ _ hcell
    | @own l b off c cs e fr _ _ xs G hb hfr hc hoff hmax hs hx ht hG hnb hd =>
      refine ⟨fun k => k = b ∨ ∃ i j, (if i < len then G (lo + i) j else none_) k, ?_, ?_⟩
      · rintro k (rfl | ⟨i, j, hk⟩)
        · exact .inl rfl
        · split at hk
          · exact .inr ⟨_, _, hk⟩
          · exact hk.elim
      · have e1 : ((⟨b, off, none⟩ : Addr).add (q * sz)) = ⟨b, off + q * sz, none⟩ := by
          unfold Addr.add; split
          · rename_i h; rw [h]; rfl
          · rfl
        rw [e1]
        have hqc : q * sz + c' * sz ≤ c * sz := by rw [← Nat.add_mul]; exact Nat.mul_le_mul_right _ (by omega)
        have := Ow.own (Z := Z) (w := w) (l := l) (b := b) (off := off + q * sz) (c := c') (cs := cs) (e := e) (fr := fr) (rows := (rows.drop lo).take len) (sz := sz) (fun i j => xs (lo + i) j) (fun i j => if i < len then G (lo + i) j else none_)
          hb hfr (by rw [hlen]; exact h1) (by omega) (by omega) (fun r hr => hs r (drop_take_mem hr)) (fun i j t h => ?_) (fun i j t h => ?_) (fun i j h => ?_) (fun i j => ?_) (fun i j i' j' k h h' => ?_)
        · rw [hlen] at this; exact this
        · obtain ⟨hi, hcell⟩ := drop_take_cell h
          obtain rfl := h4 (by omega)
          rw [show off + q * sz + (i * sz + j) = off + ((q + i) * sz + j) by rw [Nat.add_mul]; omega]
          exact hx _ _ _ hcell
        · obtain ⟨hi, hcell⟩ := drop_take_cell h
          rw [if_pos hi]; exact ht _ _ _ hcell
        · split
          · rename_i hi
            refine hG _ _ ?_
            unfold cellT at h ⊢
            rw [List.getElem?_take, if_pos hi, List.getElem?_drop] at h; exact h
          · rfl
        · split
          · exact hnb _ _
          · exact id
        · split at h
          · split at h'
            · obtain ⟨h5, h6⟩ := hd _ _ _ _ _ h h'
              exact ⟨by omega, h6⟩
            · exact h'.elim
          · exact h.elim
end Go.Proofs.YtipfcgbhaalcdaaGreat.Abs
namespace Go.Proofs.YtipfcgbhaalcdaaGreat.Abs
open Go
set_option linter.unusedVariables false
set_option linter.unusedSimpArgs false
variable {P : Program} {E : Env} {w0 : World} {A : Fp} {ob : Objs} {w : World} {ρ : Nat → Value} {φ : Nat → Fp} {Z : Fp} {sl : Slots} {a : Act}

theorem OInv.moreZ (h : OInv w0 A ob w ρ φ Z) (X : Fp) (hX : ∀ k, X k → k < w.heap.size ∧ ∀ o, ¬ φ o k) : OInv w0 A ob w ρ φ (fun k => Z k ∨ X k) := by
  refine ⟨h.keep, fun k h1 h2 => .inl (h.z0 k h1 h2), fun k hk => hk.elim (h.zlt k) (fun hx => (hX k hx).1), fun o k hk hz => hz.elim (h.notZ o k hk) (fun hx => (hX k hx).2 o hk), h.disj, h.fresh, fun o => ?_⟩
  have := h.objs o
  unfold ObOk at this ⊢
  split
  · rename_i hc; rw [hc] at this; exact this
  · rename_i lvl t hc; rw [hc] at this; exact this.monoZ (fun k hk => .inl hk)
  · rename_i cells hc; rw [hc] at this; exact this

theorem Step.trans {ob1 ob2 ob3 : Objs} {w1 w2 w3 : World} {ρ1 ρ2 ρ3 : Nat → Value} {φ2 φ3 : Nat → Fp} {Z2 Z3 : Fp} (h : Step w0 A ob1 w1 ρ1 ob2 w2 ρ2 φ2 Z2) (k : Step w0 A ob2 w2 ρ2 ob3 w3 ρ3 φ3 Z3) :
    Step w0 A ob1 w1 ρ1 ob3 w3 ρ3 φ3 Z3 := ⟨k.inv, fun a x hx => k.same a x (h.same a x hx)⟩

theorem upds_not {α : Type} (f : Nat → α) (ss : List (Nat × α)) (o : Nat) (h : ∀ p ∈ ss, p.1 ≠ o) : upds f ss o = f o := by
  induction ss generalizing f with
  | nil => rfl
  | cons p ss ih =>
    obtain ⟨n, a⟩ := p
    simp only [upds]
    rw [ih _ (fun q hq => h q (List.mem_cons_of_mem _ hq)), upd_ne]
    exact fun he => h (n, a) List.mem_cons_self he.symm

theorem GrabR.sets {l : List AV} {mv : List Nat} {ts : List T} {lv : Nat} {ss : List (Nat × Ob)} (h : GrabR ob l mv ts lv ss) : ∀ p ∈ ss, p.1 ∉ mv := by
  induction h with
  | nil => intro p hp; cases hp
  | s h ih => exact ih
  | nl h ih => exact ih
  | ro hc hv hat hl hm h ih => exact ih
  | own hc hv hl hm h ih =>
    intro p hp
    cases hp with
    | head => exact hm
    | tail _ hp => exact fun hmem => ih p hp (List.mem_cons_of_mem _ hmem)

theorem At.root {v v' : Value} {t t' : T} (h : At w v t [] v' t') : v' = v ∧ t' = t := by
  generalize hp : ([] : List (Nat × Nat)) = p at h
  cases h with
  | here => exact ⟨rfl, rfl⟩
  | cons => cases hp

def Shift (F0 : Fp) (Fs : Nat → Fp) : Nat → Fp | 0 => F0 | i + 1 => Fs i

theorem GrabR.sound {l : List AV} {mv : List Nat} {ts : List T} {lv : Nat} {ss : List (Nat × Ob)} (hG : GrabR ob l mv ts lv ss) :
    ∀ {ob1 : Objs} {φ1 : Nat → Fp} {Z1 : Fp}, (∀ o, o ∉ mv → ob1 o = ob o) → OInv w0 A ob1 w ρ φ1 Z1 → ∀ (vs : Nat → Value), (∀ i a, l[i]? = some a → AVR w ob1 ρ a (vs i)) → ∀ L, L ≤ lv →
      ∃ (φ2 : Nat → Fp) (Z2 : Fp) (Fs : Nat → Fp), Step w0 A ob1 w ρ (upds ob1 ss) w ρ φ2 Z2 ∧ (∀ k, Z1 k → Z2 k) ∧ ts.length = l.length ∧ (∀ i t, ts[i]? = some t → Ow Z2 w L (vs i) t (Fs i)) ∧
        (∀ i k, Fs i k → ¬ Z2 k ∧ (∀ o, ¬ φ2 o k) ∧ (k < w0.heap.size → A k)) ∧ (∀ i j k, Fs i k → Fs j k → i = j) ∧
        (∀ o k, φ2 o k → φ1 o k) ∧ (∀ k, Z2 k → Z1 k ∨ ∃ o, o ∉ mv ∧ φ1 o k) ∧ (∀ i k, Fs i k → ∃ o, o ∉ mv ∧ φ1 o k) ∧ (∀ o, o ∈ mv → φ2 o = φ1 o) := by
  induction hG with
  | nil =>
    intro ob1 φ1 Z1 _ hI vs _ L _
    exact ⟨φ1, Z1, fun _ => none_, ⟨hI, fun _ _ h => h⟩, fun k h => h, rfl, fun i t h => by simp at h, fun i k h => h.elim, fun i j k h => h.elim, fun o k h => h, fun k h => .inl h, fun i k h => h.elim, fun o _ => rfl⟩
  | @s x r mv ts l ss h ih =>
    intro ob1 φ1 Z1 hob hI vs hvs L hL
    obtain ⟨φ2, Z2, Fs, h1, h2, h3, h4, h5, h6, h7, h8, h9, h10⟩ := ih hob hI (fun i => vs (i + 1)) (fun i a ha => hvs (i + 1) a (by simpa using ha)) L hL
    refine ⟨φ2, Z2, Shift none_ Fs, h1, h2, by simp [h3], fun i t ht => ?_, fun i k hk => ?_, fun i j k hi hj => ?_, h7, h8, fun i k hk => ?_, h10⟩
    · cases i with
      | zero =>
        simp at ht; subst ht
        have := hvs 0 _ rfl
        generalize vs 0 = q at this
        cases this with | s hs => exact .v hs
      | succ i => exact h4 i t (by simpa using ht)
    · cases i with
      | zero => exact hk.elim
      | succ i => exact h5 i k hk
    · cases i with
      | zero => exact hi.elim
      | succ i =>
        cases j with
        | zero => exact hj.elim
        | succ j => rw [h6 i j k hi hj]
    · cases i with
      | zero => exact hk.elim
      | succ i => exact h9 i k hk
  | @nl sz r mv ts l ss h ih =>
    intro ob1 φ1 Z1 hob hI vs hvs L hL
    obtain ⟨φ2, Z2, Fs, h1, h2, h3, h4, h5, h6, h7, h8, h9, h10⟩ := ih hob hI (fun i => vs (i + 1)) (fun i a ha => hvs (i + 1) a (by simpa using ha)) L hL
    refine ⟨φ2, Z2, Shift none_ Fs, h1, h2, by simp [h3], fun i t ht => ?_, fun i k hk => ?_, fun i j k hi hj => ?_, h7, h8, fun i k hk => ?_, h10⟩
    · cases i with
      | zero =>
        simp at ht; subst ht
        have := hvs 0 _ rfl
        generalize vs 0 = q at this
        cases this; exact .nil
      | succ i => exact h4 i t (by simpa using ht)
    · cases i with
      | zero => exact hk.elim
      | succ i => exact h5 i k hk
    · cases i with
      | zero => exact hi.elim
      | succ i =>
        cases j with
        | zero => exact hj.elim
        | succ j => rw [h6 i j k hi hj]
    · cases i with
      | zero => exact hk.elim
      | succ i => exact h9 i k hk
  | @ro o b g p sz' lo len r mv ts l ss lvl t sz rows hc hv hat hl hm h ih =>
    intro ob1 φ1 Z1 hob hI vs hvs L hL
    obtain rfl : L = 0 := Nat.le_zero.1 hL
    obtain ⟨φ2, Z2, Fs, h1, h2, h3, h4, h5, h6, h7, h8, h9, h10⟩ := ih hob hI (fun i => vs (i + 1)) (fun i a ha => hvs (i + 1) a (by simpa using ha)) 0 (Nat.zero_le _)
    have hhead : Ow Z1 w 0 (vs 0) (.sl sz ((rows.drop lo).take len)) none_ := by
      have := hvs 0 _ rfl
      generalize vs 0 = q at this
      cases this with
      | h hb hs hh =>
        have hoo := hob o hm
        rw [← hoo] at hc hv
        obtain ⟨v', rows', hat', hle, hvw⟩ := (hh hv).2 lvl t hc
        have e := hat'.at?
        rw [hat] at e
        cases e
        obtain ⟨v2, F', hat2, how, hsub, _⟩ := (hI.tree hc).focus p hat
        have := hat'.det hat2
        subst this
        rw [hl] at how
        obtain rfl := how.zero rfl
        obtain ⟨F2, hF2, h0⟩ := how.view hvw hle
        obtain rfl := h0.zero rfl
        exact h0
    refine ⟨φ2, Z2, Shift none_ Fs, h1, h2, by simp [h3], fun i t ht => ?_, fun i k hk => ?_, fun i j k hi hj => ?_, h7, h8, fun i k hk => ?_, h10⟩
    · cases i with
      | zero => simp at ht; subst ht; exact hhead.monoZ h2
      | succ i => exact h4 i t (by simpa using ht)
    · cases i with
      | zero => exact hk.elim
      | succ i => exact h5 i k hk
    · cases i with
      | zero => exact hi.elim
      | succ i =>
        cases j with
        | zero => exact hj.elim
        | succ j => rw [h6 i j k hi hj]
    · cases i with
      | zero => exact hk.elim
      | succ i => exact h9 i k hk
  | @own o b g sz' lo len r mv ts l ss lvl sz rows hc hv hl hm h ih =>
    intro ob1 φ1 Z1 hob hI vs hvs L hL
    have hoo := hob o hm
    have hc1 : (ob1 o).c = .tree lvl (.sl sz rows) := by rw [hoo]; exact hc
    have hv1 : Valid (ob1 o) b g [] := by rw [hoo]; exact hv
    obtain ⟨hst, hlim⟩ := hI.kill o (ob1 o).sver true (Nat.le_refl _)
    obtain ⟨F', hF', hview⟩ : ∃ F', (∀ k, F' k → φ1 o k) ∧ Ow Z1 w lvl (vs 0) (.sl sz ((rows.drop lo).take len)) F' := by
      have := hvs 0 _ rfl
      generalize vs 0 = q at this
      cases this with
      | h hb hs hh =>
        obtain ⟨v', rows', hat', hle, hvw⟩ := (hh hv1).2 lvl _ hc1
        obtain ⟨rfl, e⟩ := hat'.root
        cases e
        exact (hI.tree hc1).view hvw hle
    obtain ⟨F2, hF2, hlow⟩ := hview.lower L (Nat.le_trans hL (Nat.min_le_left _ _))
    have hI2 := hst.inv.moreZ (fun k => F' k ∧ ¬ F2 k) (fun k hk => ⟨hI.lt o k (hF' k hk.1), (hlim k (hF' k hk.1)).2.1⟩)
    have hob2 : ∀ o', o' ∉ o :: mv → upd ob1 o ⟨(ob1 o).birth, (ob1 o).sver, true, .dead⟩ o' = ob o' := by
      intro o' ho'
      rw [upd_ne _ _ (fun he => ho' (by rw [he]; exact List.mem_cons_self))]
      exact hob o' (fun hm' => ho' (List.mem_cons_of_mem _ hm'))
    obtain ⟨φ2, Z2, Fs, h1, h2, h3, h4, h5, h6, h7, h8, h9, h10⟩ := ih hob2 hI2 (fun i => vs (i + 1)) (fun i a ha => hst.same _ _ (hvs (i + 1) a (by simpa using ha))) L (Nat.le_trans hL (Nat.min_le_right _ _))
    have e : upds ob1 ((o, { ob o with dirty := true, c := .dead }) :: ss) = upds (upd ob1 o ⟨(ob1 o).birth, (ob1 o).sver, true, .dead⟩) ss := by
      simp only [upds, hoo]
    have hφ : ∀ o' k, upd φ1 o none_ o' k → φ1 o' k := by
      intro o' k hk
      by_cases he : o' = o
      · subst he; rw [upd_same] at hk; exact hk.elim
      · rw [upd_ne _ _ he] at hk; exact hk
    have hF2' : ∀ k, F2 k → ¬ Z2 k ∧ (∀ o', ¬ φ2 o' k) ∧ (k < w0.heap.size → A k) ∧ ∀ i, ¬ Fs i k := by
      intro k hk
      have hl2 := hlim k (hF' k (hF2 k hk))
      refine ⟨fun hz => ?_, fun o' ho' => hl2.2.1 o' (h7 o' k ho'), hl2.2.2, fun i hi => ?_⟩
      · rcases h8 k hz with (hz | hz) | ⟨o', _, ho'⟩
        · exact hl2.1 hz
        · exact hz.2 hk
        · exact hl2.2.1 o' ho'
      · obtain ⟨o', _, ho'⟩ := h9 i k hi
        exact hl2.2.1 o' ho'
    refine ⟨φ2, Z2, Shift F2 Fs, by rw [e]; exact hst.trans h1, fun k hk => h2 k (.inl hk), by simp [h3], fun i t ht => ?_, fun i k hk => ?_, fun i j k hi hj => ?_, fun o' k hk => hφ o' k (h7 o' k hk), fun k hk => ?_, fun i k hk => ?_, fun o' ho' => ?_⟩
    · cases i with
      | zero => simp at ht; subst ht; exact hlow.monoZ h2
      | succ i => exact h4 i t (by simpa using ht)
    · cases i with
      | zero => obtain ⟨q1, q2, q3, _⟩ := hF2' k hk; exact ⟨q1, q2, q3⟩
      | succ i => exact h5 i k hk
    · cases i with
      | zero =>
        cases j with
        | zero => rfl
        | succ j => exact ((hF2' k hi).2.2.2 j hj).elim
      | succ i =>
        cases j with
        | zero => exact ((hF2' k hj).2.2.2 i hi).elim
        | succ j => rw [h6 i j k hi hj]
    · rcases h8 k hk with (hz | hz) | ⟨o', ho', hk'⟩
      · exact .inl hz
      · exact .inr ⟨o, hm, hF' k hz.1⟩
      · exact .inr ⟨o', fun hm' => ho' (List.mem_cons_of_mem _ hm'), hφ o' k hk'⟩
    · cases i with
      | zero => exact ⟨o, hm, hF' k (hF2 k hk)⟩
      | succ i =>
        obtain ⟨o', ho', hk'⟩ := h9 i k hk
        exact ⟨o', fun hm' => ho' (List.mem_cons_of_mem _ hm'), hφ o' k hk'⟩
    · rw [h10 o' (List.mem_cons_of_mem _ ho'), upd_ne]
      exact fun he => hm (he ▸ ho')
end Go.Proofs.YtipfcgbhaalcdaaGreat.Abs
namespace Go.Proofs.YtipfcgbhaalcdaaGreat.Abs
open Go
set_option linter.unusedVariables false
set_option linter.unusedSimpArgs false
variable {P : Program} {E : Env} {w0 : World} {A : Fp} {ob : Objs} {w : World} {ρ : Nat → Value} {φ : Nat → Fp} {Z : Fp} {sl : Slots} {a : Act}

theorem own_add (b off n : Nat) : (⟨b, off, none⟩ : Addr).add n = ⟨b, off + n, none⟩ := by
  unfold Addr.add; split
  · rename_i h; subst h; rfl
  · rfl
theorem setCell_heap (w : World) (b k : Nat) (cs : Array Value) (e : TypeId) (fr : Nat × Nat) (v : Value) (hb : w.heap[b]? = some (.cells cs e fr)) :
    (w.setCell ⟨b, k, none⟩ v).heap[b]? = some (.cells (cs.setIfInBounds k v) e fr) := by
  simp [World.setCell, Array.getElem?_modify, hb]
theorem setCell_keep (w : World) (b k : Nat) (v : Value) : Keep (fun n => n = b) w (w.setCell ⟨b, k, none⟩ v) :=
  ⟨rfl, rfl, rfl, by simp [World.setCell], fun n _ hn => by
    have : ¬ b = n := fun h => hn h.symm
    simp [World.setCell, Array.getElem?_modify, this]⟩

theorem storeCells_run (b off : Nat) (e : TypeId) (fr : Nat × Nat) : ∀ (vs : List Value) (i : Nat) (cs : Array Value) (w : World), w.heap[b]? = some (.cells cs e fr) →
    (∀ k, k < cs.size → ¬ (fr.1 ≤ k ∧ k < fr.2)) → off + i + vs.length ≤ cs.size → (∀ v ∈ vs, v.oneCell' = true) →
    ∃ w' cs', (storeCells ⟨b, off, none⟩ vs i).run P w = .ok () w' ∧ Keep (fun n => n = b) w w' ∧ w'.heap[b]? = some (.cells cs' e fr) ∧ cs'.size = cs.size ∧
      (∀ k, k < off + i ∨ off + i + vs.length ≤ k → cs'[k]? = cs[k]?) ∧ (∀ k, k < vs.length → cs'[off + i + k]? = vs[k]?) := by
  intro vs
  induction vs with
  | nil =>
    intro i cs w hb _ _ _
    exact ⟨w, cs, rfl, Keep.refl _ _, hb, rfl, fun k _ => rfl, fun k hk => absurd hk (Nat.not_lt_zero _)⟩
  | cons v vs ih =>
    intro i cs w hb hfr hle h1
    simp only [List.length_cons] at hle
    have hi : off + i < cs.size := by omega
    have hcell : w.cell? ⟨b, off + i, none⟩ = some cs[off + i] := by simp [World.cell?, hb, hi]
    have hfz : w.frozen? ⟨b, off + i, none⟩ = false := by
      have := hfr (off + i) hi
      obtain ⟨f1, f2⟩ := fr
      simp only [World.frozen?, hb]
      simp only [Bool.and_eq_false_iff, decide_eq_false_iff_not]
      simp only at this
      by_cases h : f1 ≤ off + i
      · exact .inr (fun h2 => this ⟨h, h2⟩)
      · exact .inl h
    obtain ⟨w', cs', hr, hk, hb', hs, ho, hn⟩ := ih (i + 1) (cs.setIfInBounds (off + i) v) (w.setCell ⟨b, off + i, none⟩ v) (setCell_heap w b (off + i) cs e fr v hb)
      (fun k hk => hfr k (by simpa using hk)) (by simp; omega) (fun u hu => h1 u (List.mem_cons_of_mem _ hu))
    refine ⟨w', cs', ?_, (setCell_keep w b (off + i) v).trans hk (fun n _ h => h), hb', by simpa using hs, fun k hk' => ?_, fun k hk' => ?_⟩
    · simp only [storeCells, own_add, Sem.run_bind, run_store P w _ v _ (h1 v List.mem_cons_self), hcell, hfz, Result.andThen_ok, Bool.false_eq_true, if_false]
      exact hr
    · rw [ho k (by simp only [List.length_cons] at hk'; omega), Array.getElem?_setIfInBounds]
      rw [if_neg]
      simp only [List.length_cons] at hk'
      omega
    · cases k with
      | zero =>
        rw [Nat.add_zero, ho (off + i) (by omega), Array.getElem?_setIfInBounds, if_pos rfl, if_pos hi]; rfl
      | succ k =>
        have := hn k (by simpa using hk')
        rw [show off + i + (k + 1) = off + (i + 1) + k by omega]
        simpa using this

theorem okCell_one {x : AV} {v : Value} (h : AVR w ob ρ x v) (hx : okCell x = true) : v.oneCell' = true := by
  cases h with
  | s h => cases v <;> first | rfl | (simp [scalar] at h)
  | nl => rfl
  | u => simp [okCell] at hx
  | h hb hs h => obtain ⟨a, c, rfl, _⟩ := hs; rfl
  | pt hb hs h => obtain ⟨a, rfl⟩ := hs; rfl
  | ag h1 h2 => simp [okCell] at hx
  | tu h1 h2 => simp [okCell] at hx
  | fn h1 h2 => rfl

theorem cells_one {l : List AV} {cs : Array Value} (hl : l.length = cs.size) (h : ∀ i y, l[i]? = some y → AVR w ob ρ y (cs.getD i undef)) (hok : l.all okCell = true) : ∀ v ∈ cs.toList, v.oneCell' = true := by
  intro v hv
  obtain ⟨i, hi, rfl⟩ := List.mem_iff_getElem.1 hv
  have hi' : i < cs.size := by simpa using hi
  have hil : i < l.length := by omega
  have := h i l[i] (by simp [hil])
  have h2 := okCell_one this (List.all_eq_true.1 hok _ (List.getElem_mem hil))
  simpa [Array.getD, hi'] using h2

theorem storeVar_run {t : TypeId} {ti : TyI} (hT : TyOk P t ti) (v : Value) (hn : v.cells.size = ti.cells.length) (b off : Nat) (cs : Array Value) (e : TypeId) (fr : Nat × Nat) (hb : w.heap[b]? = some (.cells cs e fr))
    (hfr : ∀ k, k < cs.size → ¬ (fr.1 ≤ k ∧ k < fr.2)) (hle : off + v.cells.size ≤ cs.size) (h1 : ∀ u ∈ v.cells.toList, u.oneCell' = true) :
    ∃ w' cs', (Instr.storeAt t (.pointer (some ⟨b, off, none⟩)) v).run P w = .ok () w' ∧ Keep (fun n => n = b) w w' ∧ w'.heap[b]? = some (.cells cs' e fr) ∧ cs'.size = cs.size ∧
      (∀ k, k < off ∨ off + v.cells.size ≤ k → cs'[k]? = cs[k]?) ∧ (∀ k, k < v.cells.size → cs'[off + k]? = v.cells[k]?) := by
  obtain ⟨i, z, hi, _, hsz, _⟩ := hT.info
  obtain ⟨w', cs', h2, h3, h4, h5, h6, h7⟩ := storeCells_run (P := P) b off e fr v.cells.toList 0 cs w hb hfr (by simpa using hle) h1
  refine ⟨w', cs', ?_, h3, h4, h5, fun k hk => h6 k (by simpa using hk), fun k hk => by simpa using h7 k (by simpa using hk)⟩
  unfold Instr.storeAt Instr.sureAddr storeVar
  simp [Sem.run_bind, sizeOf, typeInfo, hi, hsz, hn, Sem.run, Result.andThen, h2]

theorem upd_id {α : Type} (f : Nat → α) (o : Nat) : upd f o (f o) = f := funext fun m => by unfold upd; split <;> simp_all

theorem storeBox_sound {t : TypeId} {ti : TyI} (hT : TyOk P t ti) (h : OInv w0 A ob w ρ φ Z) {o b g i j : Nat} {x v : Value} {y : AV} {l cells : List AV} (hx : AVR w ob ρ (.pt o b g [] i j) x) (hy : AVR w ob ρ y v)
    (hl : y.cells? = some l) (hc : (ob o).c = .box cells) (hb : (ob o).birth = b) (hle : j + l.length ≤ cells.length) (hn : l.length = ti.cells.length) (hok : l.all okCell = true) :
    ∃ w', (Instr.storeAt t x v).run P w = .ok () w' ∧ Step w0 A ob w ρ (upd ob o { ob o with dirty := true, c := .box (putList cells j l) }) w' ρ φ Z := by
  obtain ⟨hlv, hcv⟩ := cells_sound hl hy
  have h1 := cells_one hlv hcv hok
  cases hx with
  | pt hbb hs hv =>
    obtain ⟨b', hρ, rfl⟩ := (hv ⟨hb, .inl rfl⟩).2 cells hc rfl
    obtain ⟨b2, cs, e, fr, h2, h3, h4, h5, h6, h7⟩ := h.boxed hc
    rw [hρ] at h2
    obtain rfl : b' = b2 := by cases h2; rfl
    obtain ⟨w', cs', hr, hk, hb', hs', ho', hn'⟩ := storeVar_run hT v (by omega) b' (0 + j) cs e fr h3 h4 (by omega) h1
    refine ⟨w', by rw [own_add]; exact hr, ?_⟩
    have := h.upd1 (w' := w') (Z' := Z) o { ob o with dirty := true, c := .box (putList cells j l) } (ρ o) (φ o) (fun n => n = b') hk (fun k hk => (h7 k).2 hk) (fun k hk => hk) (fun k hk => .inl hk)
      (fun k hk => ⟨h.notZ o k hk, fun o' hne ho2 => hne (h.disj o' o k ho2 hk), h.fresh o k hk⟩) (Same.box hc) (fun htr => ?_)
    · rw [upd_id, upd_id] at this; exact this
    · rw [upd_id] at htr ⊢
      unfold ObOk
      rw [upd_same, upd_id]
      refine ⟨b', cs', e, fr, hρ, hb', fun k hk => h4 k (by omega), ?_, fun k z hz => ?_, h7⟩
      · simp [putList]; omega
      · have hk : k < cells.length := by
          have := (List.getElem?_eq_some_iff.1 hz).1
          simp [putList] at this; omega
        unfold putList at hz
        by_cases hkj : k < j
        · rw [List.append_assoc, List.getElem?_append_left (by simp; omega), List.getElem?_take, if_pos hkj] at hz
          have e1 : cs'.getD k undef = cs.getD k undef := by
            have := ho' k (.inl (by omega))
            simp only [Array.getD_eq_getD_getElem?, this]
          rw [e1]; exact htr _ _ (h6 k z hz)
        · by_cases hkl : k < j + l.length
          · rw [List.append_assoc, List.getElem?_append_right (by simp; omega), List.getElem?_append_left (by simp; omega)] at hz
            have e2 : (k - (cells.take j).length) = k - j := by simp; omega
            rw [e2] at hz
            have e1 : cs'.getD k undef = v.cells.getD (k - j) undef := by
              have := hn' (k - j) (by omega)
              rw [show 0 + j + (k - j) = k by omega] at this
              simp only [Array.getD_eq_getD_getElem?, this]
            rw [e1]; exact htr _ _ (hcv _ z hz)
          · rw [List.getElem?_append_right (by simp; omega)] at hz
            rw [List.getElem?_drop] at hz
            have e2 : j + l.length + (k - (cells.take j ++ l).length) = k := by simp; omega
            rw [e2] at hz
            have e1 : cs'.getD k undef = cs.getD k undef := by
              have := ho' k (.inr (by omega))
              simp only [Array.getD_eq_getD_getElem?, this]
            rw [e1]; exact htr _ _ (h6 k z hz)
end Go.Proofs.YtipfcgbhaalcdaaGreat.Abs
namespace Go.Proofs.YtipfcgbhaalcdaaGreat.Abs
open Go
set_option linter.unusedVariables false
set_option linter.unusedSimpArgs false
variable {P : Program} {E : Env} {w0 : World} {A : Fp} {ob : Objs} {w : World} {ρ : Nat → Value} {φ : Nat → Fp} {Z : Fp} {sl : Slots} {a : Act}

theorem GrabR.ok {l : List AV} {mv : List Nat} {ts : List T} {lv : Nat} {ss : List (Nat × Ob)} (h : GrabR ob l mv ts lv ss) : l.all okCell = true := by
  induction h with
  | nil => rfl
  | s h ih => simpa [okCell] using ih
  | nl h ih => simpa [okCell] using ih
  | ro hc hv hat hl hm h ih => simpa [okCell] using ih
  | own hc hv hl hm h ih => simpa [okCell] using ih
theorem GrabR.len {l : List AV} {mv : List Nat} {ts : List T} {lv : Nat} {ss : List (Nat × Ob)} (h : GrabR ob l mv ts lv ss) : ts.length = l.length := by
  induction h with
  | nil => rfl
  | s h ih => simp [ih]
  | nl h ih => simp [ih]
  | ro hc hv hat hl hm h ih => simp [ih]
  | own hc hv hl hm h ih => simp [ih]

theorem upds_append {α : Type} (f : Nat → α) (l r : List (Nat × α)) : upds f (l ++ r) = upds (upds f l) r := by
  induction l generalizing f with
  | nil => rfl
  | cons p l ih => obtain ⟨n, a⟩ := p; exact ih _

theorem putList_len {α : Type} (l r : List α) (j : Nat) (h : j + r.length ≤ l.length) : (putList l j r).length = l.length := by simp [putList]; omega
theorem putList_get {α : Type} (l r : List α) (j : Nat) (h : j + r.length ≤ l.length) (k : Nat) : (putList l j r)[k]? = if j ≤ k ∧ k < j + r.length then r[k - j]? else l[k]? := by
  unfold putList
  by_cases hkj : k < j
  · rw [if_neg (by omega), List.append_assoc, List.getElem?_append_left (by simp; omega), List.getElem?_take, if_pos hkj]
  · by_cases hkl : k < j + r.length
    · rw [if_pos (by omega), List.append_assoc, List.getElem?_append_right (by simp; omega), List.getElem?_append_left (by simp; omega)]
      congr 1; simp; omega
    · rw [if_neg (by omega), List.getElem?_append_right (by simp; omega), List.getElem?_drop]
      congr 1; simp; omega

theorem cellT_set (rows : List (List T)) (i : Nat) (r ts : List T) (j : Nat) (hi : rows[i]? = some r) (h : j + ts.length ≤ r.length) (i' j' : Nat) :
    cellT (rows.set i (putList r j ts)) i' j' = if i' = i ∧ j ≤ j' ∧ j' < j + ts.length then ts[j' - j]? else cellT rows i' j' := by
  have hlt := (List.getElem?_eq_some_iff.1 hi).1
  unfold cellT
  rw [List.getElem?_set]
  by_cases he : i = i'
  · subst he
    rw [if_pos rfl, if_pos hlt, Option.bind_some, putList_get _ _ _ h, hi, Option.bind_some]
    by_cases hj : j ≤ j' ∧ j' < j + ts.length
    · rw [if_pos hj, if_pos ⟨rfl, hj⟩]
    · rw [if_neg hj, if_neg (fun h => hj h.2)]
  · rw [if_neg he, if_neg (fun h => he h.1.symm)]

theorem node_store {L : Nat} {b off n c : Nat} {sz : Nat} {rows : List (List T)} {F' : Fp} (h : Ow Z w (L + 1) (.slice (some ⟨b, off, none⟩) n c) (.sl sz rows) F')
    {i j : Nat} {r : List T} (hi : rows[i]? = some r) {ts : List T} (hj : j + ts.length ≤ r.length) (vs : Nat → Value) (Fs : Nat → Fp)
    (hts : ∀ k t, ts[k]? = some t → Ow Z w L (vs k) t (Fs k)) (hFd : ∀ k m, Fs k m → ¬ F' m) (hFF : ∀ k k' m, Fs k m → Fs k' m → k = k') (hbZ : ¬ Z b) :
    ∃ cs e fr, w.heap[b]? = some (.cells cs e fr) ∧ (∀ k, k < cs.size → ¬ (fr.1 ≤ k ∧ k < fr.2)) ∧ off + (i * sz + j) + ts.length ≤ cs.size ∧ F' b ∧
      ∀ w' cs', Keep (fun m => m = b) w w' → w'.heap[b]? = some (.cells cs' e fr) → cs'.size = cs.size →
        (∀ k, k < off + (i * sz + j) ∨ off + (i * sz + j) + ts.length ≤ k → cs'[k]? = cs[k]?) → (∀ k, k < ts.length → cs'[off + (i * sz + j) + k]? = some (vs k)) → (∀ m, Z m → m < w.heap.size) → (∀ m, F' m → m < w.heap.size) → (∀ k m, Fs k m → m < w.heap.size) →
        ∃ F2, Ow Z w' (L + 1) (.slice (some ⟨b, off, none⟩) n c) (.sl sz (rows.set i (putList r j ts))) F2 ∧ (∀ m, F2 m → F' m ∨ ∃ k, Fs k m) := by
  cases h with
  | @own _ _ _ _ cs e fr _ _ xs G hb hfr hc hoff hmax hs hx ht hG hnb hd =>
    have hlt := (List.getElem?_eq_some_iff.1 hi).1
    have hr : r.length = sz := hs r (List.mem_of_getElem? hi)
    have hbound : i * sz + j + ts.length ≤ c * sz := by
      have h2 : (i + 1) * sz ≤ c * sz := Nat.mul_le_mul_right _ (by omega)
      rw [Nat.add_mul] at h2; omega
    refine ⟨cs, e, fr, hb, hfr, by omega, .inl rfl, fun w' cs' hk hb' hsz ho hn hZl hFl hFsl => ?_⟩
    let inn : Nat → Nat → Prop := fun i' j' => i' = i ∧ j ≤ j' ∧ j' < j + ts.length
    have hdec : ∀ i' j', Decidable (inn i' j') := fun i' j' => inferInstanceAs (Decidable (_ ∧ _ ∧ _))
    let xs' : Nat → Nat → Value := fun i' j' => if inn i' j' then vs (j' - j) else xs i' j'
    let G' : Nat → Nat → Fp := fun i' j' => if inn i' j' then Fs (j' - j) else G i' j'
    have hZk : ∀ m, Z m → w'.heap[m]? = w.heap[m]? := fun m hm => hk.block m (hZl m hm) (fun he => hbZ (he ▸ hm))
    have hcl := fun i' j' => cellT_set rows i r ts j hi hj i' j'
    have hlen : (rows.set i (putList r j ts)).length = rows.length := by simp
    have key := Ow.own (Z := Z) (w := w') (l := L) (b := b) (off := off) (c := c) (cs := cs') (e := e) (fr := fr) (rows := rows.set i (putList r j ts)) (sz := sz) xs' G' hb' (fun k hk => hfr k (by omega)) (by rw [hlen]; exact hc) (by omega) hmax
      (fun q hq => by
        rcases List.mem_or_eq_of_mem_set hq with h1 | h1
        · exact hs q h1
        · rw [h1, putList_len _ _ _ hj]; exact hr)
      (fun i' j' t h2 => ?_) (fun i' j' t h2 => ?_) (fun i' j' h2 => ?_) (fun i' j' => ?_) (fun i' j' i2 j2 m h2 h3 => ?_)
    · rw [hlen] at key
      refine ⟨_, key, ?_⟩
      rintro m (rfl | ⟨i', j', hm⟩)
      · exact .inl (.inl rfl)
      · by_cases he : inn i' j'
        · exact .inr ⟨j' - j, by simpa [G', he] using hm⟩
        · exact .inl (.inr ⟨i', j', by simpa [G', he] using hm⟩)
    · rw [hcl] at h2
      by_cases he : inn i' j'
      · obtain ⟨rfl, h5, h6⟩ := he
        have := hn (j' - j) (by omega)
        rw [show off + (i' * sz + j) + (j' - j) = off + (i' * sz + j') by omega] at this
        rw [this]; simp [xs', inn, h5, h6]
      · rw [if_neg he] at h2
        have h7 := hx i' j' t h2
        have hj' : j' < sz := by
          unfold cellT at h2
          cases hq : rows[i']? with
          | none => simp [hq] at h2
          | some q =>
            simp only [hq, Option.bind_some] at h2
            have := (List.getElem?_eq_some_iff.1 h2).1
            have := hs q (List.mem_of_getElem? hq)
            omega
        rw [ho]
        · rw [h7]; simp [xs', he]
        · by_cases hii : i' = i
          · subst hii
            have : ¬ (j ≤ j' ∧ j' < j + ts.length) := fun h => he ⟨rfl, h⟩
            omega
          · rcases Nat.lt_or_gt_of_ne hii with h8 | h8
            · left
              have : (i' + 1) * sz ≤ i * sz := Nat.mul_le_mul_right _ h8
              rw [Nat.add_mul] at this; omega
            · right
              have : (i + 1) * sz ≤ i' * sz := Nat.mul_le_mul_right _ h8
              rw [Nat.add_mul] at this; omega
    · rw [hcl] at h2
      by_cases he : inn i' j'
      · rw [if_pos he] at h2
        have := (hts _ _ h2).frame (w' := w') hZk (fun m hm => hk.block m (hFsl _ m hm) (fun e => hFd _ m hm (.inl e)))
        simpa [xs', G', he] using this
      · rw [if_neg he] at h2
        have := (ht _ _ _ h2).frame (w' := w') hZk (fun m hm => hk.block m (hFl m (.inr ⟨_, _, hm⟩)) (fun e => hnb i' j' (e ▸ hm)))
        simpa [xs', G', he] using this
    · rw [hcl] at h2
      by_cases he : inn i' j'
      · rw [if_pos he] at h2
        obtain ⟨_, h5, h6⟩ := he
        rw [List.getElem?_eq_none_iff] at h2; omega
      · rw [if_neg he] at h2
        simpa [G', he] using hG _ _ h2
    · by_cases he : inn i' j'
      · intro hm
        exact hFd (j' - j) b (by simpa [G', he] using hm) (.inl rfl)
      · simpa [G', he] using hnb i' j'
    · by_cases he : inn i' j'
      · have hm2 : Fs (j' - j) m := by simpa [G', he] using h2
        by_cases he2 : inn i2 j2
        · have hm3 : Fs (j2 - j) m := by simpa [G', he2] using h3
          have := hFF _ _ _ hm2 hm3
          obtain ⟨e1, e2, e3⟩ := he
          obtain ⟨e4, e5, e6⟩ := he2
          exact ⟨by omega, by omega⟩
        · have hm3 : G i2 j2 m := by simpa [G', he2] using h3
          exact (hFd _ m hm2 (.inr ⟨_, _, hm3⟩)).elim
      · have hm2 : G i' j' m := by simpa [G', he] using h2
        by_cases he2 : inn i2 j2
        · have hm3 : Fs (j2 - j) m := by simpa [G', he2] using h3
          exact (hFd _ m hm3 (.inr ⟨_, _, hm2⟩)).elim
        · have hm3 : G i2 j2 m := by simpa [G', he2] using h3
          exact hd _ _ _ _ m hm2 hm3
end Go.Proofs.YtipfcgbhaalcdaaGreat.Abs
namespace Go.Proofs.YtipfcgbhaalcdaaGreat.Abs
open Go
set_option linter.unusedVariables false
set_option linter.unusedSimpArgs false
variable {P : Program} {E : Env} {w0 : World} {A : Fp} {ob : Objs} {w : World} {ρ : Nat → Value} {φ : Nat → Fp} {Z : Fp} {sl : Slots} {a : Act}

theorem node_back (h : OInv w0 A ob w ρ φ Z) {o lvl : Nat} {t : T} (hc : (ob o).c = .tree lvl t) {p : List (Nat × Nat)} {sz : Nat} {rows rows' : List (List T)} (hat : t.at? p = some (.sl sz rows))
    {b off n c : Nat} (hA : At w (ρ o) t p (.slice (some ⟨b, off, none⟩) n c) (.sl sz rows)) (hlen : rows'.length = rows.length) (d : Bool) (w' : World) (hk : Keep (fun m => m = b) w w')
    (hnew : ∀ F', Ow Z w (lvl - p.length) (.slice (some ⟨b, off, none⟩) n c) (.sl sz rows) F' → (∀ m, F' m → φ o m) → ∃ F2, F' b ∧ Ow Z w' (lvl - p.length) (.slice (some ⟨b, off, none⟩) n c) (.sl sz rows') F2 ∧
      ∀ m, F2 m → F' m ∨ (¬ Z m ∧ (∀ o', ¬ φ o' m) ∧ (m < w0.heap.size → A m))) :
    ∃ φ', Step w0 A ob w ρ (upd ob o { ob o with sver := (ob o).sver + 1, dirty := d, c := .tree lvl (t.put p (.sl sz rows')) }) w' ρ φ' Z := by
  obtain ⟨v', F', hA', how, hsub, hrep⟩ := (h.tree hc).focus p hat
  have := hA.det hA'
  subst this
  obtain ⟨F2, hb, ho2, hF2⟩ := hnew F' how hsub
  have hφb : φ o b := hsub b hb
  have hres := hrep Z w' (.sl sz rows') F2 (fun k hk => hk) (fun k hk' => hk.block k (by
      rcases hk' with h1 | h1
      · exact h.zlt k h1
      · exact h.lt o k h1.1) (by
      rintro rfl
      rcases hk' with h1 | h1
      · exact h.notZ o _ hφb h1
      · exact h1.2 hb)) ho2 (fun k h1 h2 => (hF2 k h1).elim id (fun h3 => (h3.2.1 o h2).elim))
  have := h.upd1 (w' := w') (Z' := Z) o { ob o with sver := (ob o).sver + 1, dirty := d, c := .tree lvl (t.put p (.sl sz rows')) } (ρ o) (fun k => (φ o k ∧ ¬ F' k) ∨ F2 k) (fun m => m = b) hk
    (fun k hk' => by rw [hk']; exact hφb) (fun k hk => hk) (fun k hk => .inl hk) (fun k hk' => ?_)
    (Same.root (Nat.le_succ _) (fun he => by omega) (fun sz2 lo len x hh => hh.root hc rfl (put_rows hat hlen)) (fun i j x hh => hh.root hc rfl (put_rows hat hlen))) (fun htr => ?_)
  · rw [upd_id] at this; exact ⟨_, this⟩
  · rcases hk' with ⟨h1, _⟩ | h1
    · exact ⟨h.notZ o k h1, fun o' hne ho' => hne (h.disj o' o k ho' h1), h.fresh o k h1⟩
    · rcases hF2 k h1 with h2 | ⟨h2, h3, h4⟩
      · have h5 := hsub k h2
        exact ⟨h.notZ o k h5, fun o' hne ho' => hne (h.disj o' o k ho' h5), h.fresh o k h5⟩
      · exact ⟨h2, fun o' _ => h3 o', h4⟩
  · unfold ObOk
    rw [upd_same, upd_same, upd_id]
    exact hres

theorem own_inv {l : Nat} {a0 : Addr} {n c sz : Nat} {rows : List (List T)} {F : Fp} (h : Ow Z w (l + 1) (.slice (some a0) n c) (.sl sz rows) F) : ∃ b off, a0 = ⟨b, off, none⟩ := by
  cases h with
  | own => exact ⟨_, _, rfl⟩

theorem storeTree_sound {t0 : TypeId} {ti : TyI} (hT : TyOk P t0 ti) (h : OInv w0 A ob w ρ φ Z) {o b g i j : Nat} {p : List (Nat × Nat)} {x v : Value} {y : AV} {l : List AV} (hx : AVR w ob ρ (.pt o b g p i j) x) (hy : AVR w ob ρ y v)
    (hl : y.cells? = some l) {lvl : Nat} {t : T} (hc : (ob o).c = .tree lvl t) (hv : Valid (ob o) b g p) (hp : p.length < lvl) {sz : Nat} {rows : List (List T)} (hat : t.at? p = some (.sl sz rows)) {r : List T} (hr : rows[i]? = some r)
    {ts : List T} {lv : Nat} {ss : List (Nat × Ob)} (hG : GrabR ob l [o] ts lv ss) (hj : j + ts.length ≤ r.length) (hn : l.length = ti.cells.length) (hlv : lvl ≤ p.length + 1 + lv) :
    ∃ w' ρ' φ' Z', (Instr.storeAt t0 x v).run P w = .ok () w' ∧
      Step w0 A ob w ρ (upds ob (ss ++ [(o, { ob o with sver := (ob o).sver + 1, dirty := true, c := .tree lvl (t.put p (.sl sz (rows.set i (putList r j ts)))) })])) w' ρ' φ' Z' := by
  obtain ⟨hlv2, hcv⟩ := cells_sound hl hy
  have hones := cells_one hlv2 hcv hG.ok
  have hx0 := hx
  cases hx with
  | pt hbb hs hv' =>
    obtain ⟨a0, n, c, sz2, rows2, hA, hi2, rfl⟩ := (hv' hv).1 lvl t hc
    have e := hA.at?
    rw [hat] at e
    cases e
    obtain ⟨φ2, Z2, Fs, h1, h2, h3, h4, h5, h6, h7, h8, h9, h10⟩ := hG.sound (ob1 := ob) (fun _ _ => rfl) h (fun k => v.cells.getD k undef) hcv (lvl - p.length - 1) (by omega)
    have hob2 : upds ob ss o = ob o := upds_not _ _ _ (fun q hq he => hG.sets q hq (by rw [he]; exact List.mem_singleton_self o))
    have hI2 := h1.inv
    have hc2 : (upds ob ss o).c = .tree lvl t := by rw [hob2]; exact hc
    have hpl : lvl - p.length = lvl - p.length - 1 + 1 := by omega
    obtain ⟨v2, F0, hA0, how0, hs0, _⟩ := (hI2.tree hc2).focus p hat
    have e0 := hA.det hA0
    subst e0
    rw [hpl] at how0
    obtain ⟨bk, off, rfl⟩ := own_inv how0
    have hFd : ∀ F' : Fp, (∀ m, F' m → φ2 o m) → ∀ k m, Fs k m → ¬ F' m := fun F' hF' k m hm hm' => (h5 k m hm).2.1 o (hF' m hm')
    have hb0 : ∀ F' : Fp, Ow Z2 w (lvl - p.length - 1 + 1) (.slice (some ⟨bk, off, none⟩) n c) (.sl sz rows) F' → F' bk := by
      intro F' ho
      cases ho with | own => exact .inl rfl
    have hbZ : ¬ Z2 bk := hI2.notZ o bk (hs0 bk (hb0 F0 how0))
    obtain ⟨cs, e, fr, q1, q2, q3, _, _⟩ := node_store how0 hr hj (fun k => v.cells.getD k undef) Fs h4 (hFd F0 hs0) h6 hbZ
    have hts : ts.length = v.cells.size := by rw [hG.len]; exact hlv2
    obtain ⟨w', cs', r1, r2, r3, r4, r5, r6⟩ := storeVar_run hT v (by omega) bk (off + (i * sz + j)) cs e fr q1 q2 (by omega) hones
    obtain ⟨φ', hst⟩ := node_back hI2 hc2 hat hA (rows' := rows.set i (putList r j ts)) (by simp) true w' r2 (fun F' ho hF' => by
      rw [hpl] at ho
      obtain ⟨cs2, e2, fr2, s1, s2, s3, s4, s5⟩ := node_store ho hr hj (fun k => v.cells.getD k undef) Fs h4 (hFd F' hF') h6 hbZ
      rw [q1] at s1
      cases s1
      obtain ⟨F2, s6, s7⟩ := s5 w' cs' r2 r3 r4 (fun k hk => r5 k (by omega)) (fun k hk => by
        rw [r6 k (by omega)]
        have : k < v.cells.size := by omega
        simp [Array.getD, this]) (fun m hm => hI2.zlt m hm) (fun m hm => hI2.lt o m (hF' m hm)) (fun k m hm => by
          obtain ⟨o', _, ho'⟩ := h9 k m hm
          exact h.lt o' m ho')
      rw [← hpl] at s6
      exact ⟨F2, s4, s6, fun m hm => (s7 m hm).imp id (fun ⟨k, hk⟩ => h5 k m hk)⟩)
    rw [hob2] at hst
    refine ⟨w', ρ, φ', Z2, by rw [own_add]; exact r1, ?_⟩
    rw [upds_append]
    exact h1.trans hst
end Go.Proofs.YtipfcgbhaalcdaaGreat.Abs
namespace Go.Proofs.YtipfcgbhaalcdaaGreat.Abs
open Go
set_option linter.unusedVariables false
set_option linter.unusedSimpArgs false
variable {P : Program} {E : Env} {w0 : World} {A : Fp} {ob : Objs} {w : World} {ρ : Nat → Value} {φ : Nat → Fp} {Z : Fp} {sl : Slots} {a : Act}

theorem node_recut {L : Nat} {b off n c : Nat} {sz : Nat} {rows : List (List T)} {F' : Fp} (h : Ow Z w (L + 1) (.slice (some ⟨b, off, none⟩) n c) (.sl sz rows) F')
    {i j : Nat} {r : List T} (hi : rows[i]? = some r) {sz2 lo len : Nat} {rows2 : List (List T)} (hj : r[j]? = some (.sl sz2 rows2)) {x v' : Value} (hx0 : w.cell? ⟨b, off + (i * sz + j), none⟩ = some v') (hvw : View sz2 v' lo len x) (hle : lo + len ≤ rows2.length) (hbZ : ¬ Z b) :
    ∃ cs e fr, w.heap[b]? = some (.cells cs e fr) ∧ (∀ k, k < cs.size → ¬ (fr.1 ≤ k ∧ k < fr.2)) ∧ off + (i * sz + j) + 1 ≤ cs.size ∧ F' b ∧
      ∀ w' cs', Keep (fun m => m = b) w w' → w'.heap[b]? = some (.cells cs' e fr) → cs'.size = cs.size →
        (∀ k, k < off + (i * sz + j) ∨ off + (i * sz + j) + 1 ≤ k → cs'[k]? = cs[k]?) → cs'[off + (i * sz + j)]? = some x → (∀ m, Z m → m < w.heap.size) → (∀ m, F' m → m < w.heap.size) →
        ∃ F2, Ow Z w' (L + 1) (.slice (some ⟨b, off, none⟩) n c) (.sl sz (rows.set i (putList r j [.sl sz2 ((rows2.drop lo).take len)]))) F2 ∧ (∀ m, F2 m → F' m) := by
  cases h with
  | @own _ _ _ _ cs e fr _ _ xs G hb hfr hc hoff hmax hs hx ht hG hnb hd =>
    have hlt := (List.getElem?_eq_some_iff.1 hi).1
    have hr : r.length = sz := hs r (List.mem_of_getElem? hi)
    have hjl := (List.getElem?_eq_some_iff.1 hj).1
    have hj1 : j + [T.sl sz2 ((rows2.drop lo).take len)].length ≤ r.length := by simp; omega
    have hcell := cellT_of hi hj
    have hbound : i * sz + j + 1 ≤ c * sz := by
      have h2 : (i + 1) * sz ≤ c * sz := Nat.mul_le_mul_right _ (by omega)
      rw [Nat.add_mul] at h2; omega
    have hv' : v' = xs i j := by
      have := hx i j _ hcell
      rw [show (⟨b, off + (i * sz + j), none⟩ : Addr) = (⟨b, off, none⟩ : Addr).add (i * sz + j) from (own_add _ _ _).symm, own_cell hb, this] at hx0
      exact (Option.some.inj hx0).symm
    subst hv'
    obtain ⟨Fn, hFn, hon⟩ := (ht i j _ hcell).view hvw hle
    refine ⟨cs, e, fr, hb, hfr, by omega, .inl rfl, fun w' cs' hk hb' hsz ho hn hZl hFl => ?_⟩
    let xs' : Nat → Nat → Value := fun i' j' => if i' = i ∧ j' = j then x else xs i' j'
    let G' : Nat → Nat → Fp := fun i' j' => if i' = i ∧ j' = j then Fn else G i' j'
    have hZk : ∀ m, Z m → w'.heap[m]? = w.heap[m]? := fun m hm => hk.block m (hZl m hm) (fun he => hbZ (he ▸ hm))
    have hcl : ∀ i' j', cellT (rows.set i (putList r j [.sl sz2 ((rows2.drop lo).take len)])) i' j' = if i' = i ∧ j' = j then some (.sl sz2 ((rows2.drop lo).take len)) else cellT rows i' j' := by
      intro i' j'
      rw [cellT_set rows i r _ j hi hj1]
      by_cases he : i' = i ∧ j' = j
      · obtain ⟨rfl, rfl⟩ := he; simp
      · rw [if_neg he, if_neg (fun h => he ⟨h.1, by simp at h; omega⟩)]
    have hGsub : ∀ i' j' m, G' i' j' m → G i' j' m := by
      intro i' j' m hm
      by_cases he : i' = i ∧ j' = j
      · obtain ⟨rfl, rfl⟩ := he; exact hFn m (by simpa [G'] using hm)
      · simpa [G', he] using hm
    have hlen : (rows.set i (putList r j [.sl sz2 ((rows2.drop lo).take len)])).length = rows.length := by simp
    have hblk : ∀ i' j' m, G i' j' m → w'.heap[m]? = w.heap[m]? := fun i' j' m hm => hk.block m (hFl m (.inr ⟨_, _, hm⟩)) (fun e => hnb i' j' (e ▸ hm))
    have key := Ow.own (Z := Z) (w := w') (l := L) (b := b) (off := off) (c := c) (cs := cs') (e := e) (fr := fr) (rows := rows.set i (putList r j [.sl sz2 ((rows2.drop lo).take len)])) (sz := sz) xs' G' hb' (fun k hk => hfr k (by omega)) (by rw [hlen]; exact hc) (by omega) hmax
      (fun q hq => by
        rcases List.mem_or_eq_of_mem_set hq with h1 | h1
        · exact hs q h1
        · rw [h1, putList_len _ _ _ hj1]; exact hr)
      (fun i' j' t h2 => ?_) (fun i' j' t h2 => ?_) (fun i' j' h2 => ?_) (fun i' j' hm => hnb i' j' (hGsub _ _ _ hm)) (fun i' j' i2 j2 m h2 h3 => hd _ _ _ _ m (hGsub _ _ _ h2) (hGsub _ _ _ h3))
    · rw [hlen] at key
      refine ⟨_, key, ?_⟩
      rintro m (rfl | ⟨i', j', hm⟩)
      · exact .inl rfl
      · exact .inr ⟨i', j', hGsub _ _ _ hm⟩
    · rw [hcl] at h2
      by_cases he : i' = i ∧ j' = j
      · obtain ⟨rfl, rfl⟩ := he; rw [hn]; simp [xs']
      · rw [if_neg he] at h2
        have h7 := hx i' j' t h2
        have hj' : j' < sz := by
          unfold cellT at h2
          cases hq : rows[i']? with
          | none => simp [hq] at h2
          | some q =>
            simp only [hq, Option.bind_some] at h2
            have := (List.getElem?_eq_some_iff.1 h2).1
            have := hs q (List.mem_of_getElem? hq)
            omega
        rw [ho]
        · rw [h7]; simp [xs', he]
        · by_cases hii : i' = i
          · subst hii
            have : ¬ j' = j := fun h => he ⟨rfl, h⟩
            omega
          · rcases Nat.lt_or_gt_of_ne hii with h8 | h8
            · left
              have : (i' + 1) * sz ≤ i * sz := Nat.mul_le_mul_right _ h8
              rw [Nat.add_mul] at this; omega
            · right
              have : (i + 1) * sz ≤ i' * sz := Nat.mul_le_mul_right _ h8
              rw [Nat.add_mul] at this; omega
    · rw [hcl] at h2
      by_cases he : i' = i ∧ j' = j
      · rw [if_pos he] at h2
        cases h2
        obtain ⟨rfl, rfl⟩ := he
        have := hon.frame (w' := w') hZk (fun m hm => hblk _ _ m (hFn m hm))
        simpa [xs', G'] using this
      · rw [if_neg he] at h2
        have := (ht _ _ _ h2).frame (w' := w') hZk (fun m hm => hblk _ _ m hm)
        simpa [xs', G', he] using this
    · rw [hcl] at h2
      by_cases he : i' = i ∧ j' = j
      · rw [if_pos he] at h2; cases h2
      · rw [if_neg he] at h2
        simpa [G', he] using hG _ _ h2

theorem recut_sound {t0 : TypeId} {ti : TyI} (hT : TyOk P t0 ti) (h1c : ti.cells.length = 1) (h : OInv w0 A ob w ρ φ Z) {a y : AV} {x v : Value} (hx : AVR w ob ρ a x) (hy : AVR w ob ρ y v) {out : Out} (hr : (exRecut a y).run ob = some out) :
    ∃ w' ρ' φ' Z', (Instr.storeAt t0 x v).run P w = .ok () w' ∧ Step w0 A ob w ρ (upds ob out.sets) w' ρ' φ' Z' ∧ out.v = .u := by
  unfold exRecut at hr
  split at hr
  · rename_i o b g p i j o' b' g' p' sz' lo len
    split at hr
    · rename_i he
      obtain ⟨rfl, rfl, rfl⟩ := he
      obtain ⟨lvl, t, sz, rows, hc, hv, hat, hr⟩ := look_run (k := fun ob lvl t sz rows => _) hr
      simp only [recutK] at hr
      split at hr
      · rename_i hpl
        split at hr
        · rename_i r hri
          split at hr
          · rename_i sz2 rows2 hrj
            simp only [Rd.run, Option.some.injEq] at hr
            subst hr
            cases hx with
            | pt hbb hs hv' =>
              obtain ⟨a0, n, c, sz3, rows3, hA, hi2, rfl⟩ := (hv' hv).1 lvl t hc
              have e := hA.at?
              rw [hat] at e
              cases e
              obtain ⟨h1, h2, h3, xs, h4⟩ := node_cells h hc hA
              have hcell := cellT_of hri hrj
              have hrl := h3 r (List.mem_of_getElem? hri)
              have hsn := hA.snoc hri hrj hrl (h4 i j _ hcell).1
              obtain ⟨v', rows4, hA4, hle, hvw⟩ : ∃ v' rows4, At w (ρ o') t (p ++ [(i, j)]) v' (.sl sz' rows4) ∧ lo + len ≤ rows4.length ∧ View sz' v' lo len v := by
                cases hy with
                | h _ _ hh => exact (hh ⟨hv.1, .inr hpl.2⟩).2 lvl t hc
              have e4 := hsn.at?
              rw [hA4.at?] at e4
              obtain ⟨rfl, rfl⟩ : sz' = sz2 ∧ rows4 = rows2 := by cases e4; exact ⟨rfl, rfl⟩
              have ev := hsn.det hA4
              subst ev
              have hpl2 : lvl - p.length = lvl - p.length - 1 + 1 := by omega
              obtain ⟨v2, F0, hA0, how0, hs0, _⟩ := (h.tree hc).focus p hat
              have e0 := hA.det hA0
              subst e0
              rw [hpl2] at how0
              obtain ⟨bk, off, rfl⟩ := own_inv how0
              have hbF : ∀ F' : Fp, Ow Z w (lvl - p.length - 1 + 1) (.slice (some ⟨bk, off, none⟩) n c) (.sl sz rows) F' → F' bk := by
                intro F' ho
                cases ho with | own => exact .inl rfl
              have hbZ : ¬ Z bk := h.notZ o' bk (hs0 bk (hbF F0 how0))
              have hc0 := (h4 i j _ hcell).1
              rw [own_add] at hc0
              obtain ⟨cs, e, fr, q1, q2, q3, _, _⟩ := node_recut how0 hri hrj hc0 hvw hle hbZ
              have hv1 : v.cells = #[v] ∧ v.oneCell' = true := by
                cases hy with
                | h _ hss _ => obtain ⟨aa, cc, rfl, _⟩ := hss; exact ⟨rfl, rfl⟩
              obtain ⟨w', cs', r1, r2, r3, r4, r5, r6⟩ := storeVar_run hT v (by rw [hv1.1, h1c]; rfl) bk (off + (i * sz + j)) cs e fr q1 q2 (by rw [hv1.1]; exact q3) (by rw [hv1.1]; intro u hu; simp at hu; rw [hu]; exact hv1.2)
              rw [hv1.1] at r5 r6
              obtain ⟨φ', hst⟩ := node_back h hc hat hA (rows' := rows.set i (putList r j [.sl sz' ((rows4.drop lo).take len)])) (by simp) true w' r2 (fun F' ho hF' => by
                rw [hpl2] at ho
                obtain ⟨cs2, e2, fr2, s1, s2, s3, s4, s5⟩ := node_recut ho hri hrj hc0 hvw hle hbZ
                rw [q1] at s1
                cases s1
                obtain ⟨F2, s6, s7⟩ := s5 w' cs' r2 r3 r4 (fun k hk => r5 k hk) (by have := r6 0 (by simp); simpa using this) (fun m hm => h.zlt m hm) (fun m hm => h.lt o' m (hF' m hm))
                rw [← hpl2] at s6
                exact ⟨F2, s4, s6, fun m hm => .inl (s7 m hm)⟩)
              exact ⟨w', ρ, φ', Z, by rw [own_add]; exact r1, by simpa [upds] using hst, rfl⟩
          · simp [Rd.run] at hr
        · simp [Rd.run] at hr
      · simp [Rd.run] at hr
    · simp [Rd.run] at hr
  · simp [Rd.run] at hr
end Go.Proofs.YtipfcgbhaalcdaaGreat.Abs
namespace Go.Proofs.YtipfcgbhaalcdaaGreat.Abs
open Go
set_option linter.unusedVariables false
set_option linter.unusedSimpArgs false
variable {P : Program} {E : Env} {w0 : World} {A : Fp} {ob : Objs} {w : World} {ρ : Nat → Value} {φ : Nat → Fp} {Z : Fp} {sl : Slots} {a : Act}

structure Loose (w0 : World) (A : Fp) (w : World) (φ : Nat → Fp) (Z : Fp) (L : Nat) (rows : List (List T)) (xs : Nat → Nat → Value) (G : Nat → Nat → Fp) : Prop where
  ow : ∀ i j t, cellT rows i j = some t → Ow Z w L (xs i j) t (G i j)
  none : ∀ i j, cellT rows i j = none → G i j = none_
  free : ∀ i j k, G i j k → ¬ Z k ∧ (∀ o, ¬ φ o k) ∧ (k < w0.heap.size → A k) ∧ k < w.heap.size
  dis : ∀ i j i' j' k, G i j k → G i' j' k → i = i' ∧ j = j'
  one : ∀ i j t, cellT rows i j = some t → (xs i j).oneCell' = true

theorem scalar_one {x : Value} (h : scalar x = true) : x.oneCell' = true := by
  cases x <;> first | rfl | (simp [scalar] at h)
theorem Ow.one {l : Nat} {v : Value} {t : T} {F : Fp} (h : Ow Z w l v t F) (hh : t ≠ .hole) : v.oneCell' = true := by
  cases h with
  | v h => exact scalar_one h
  | hole => exact (hh rfl).elim
  | nil => rfl
  | ro => rfl
  | own => rfl

theorem view_cells (h : OInv w0 A ob w ρ φ Z) {o b g sz' lo len : Nat} {p : List (Nat × Nat)} {x : Value} (hx : AVR w ob ρ (.h o b g p sz' lo len) x) {lvl : Nat} {t : T} (hc : (ob o).c = .tree lvl t) (hv : Valid (ob o) b g p)
    {sz : Nat} {rows : List (List T)} (hat : t.at? p = some (.sl sz rows)) : ∃ v' F', sz' = sz ∧ lo + len ≤ rows.length ∧ View sz v' lo len x ∧ At w (ρ o) t p v' (.sl sz rows) ∧ Ow Z w (lvl - p.length) v' (.sl sz rows) F' ∧ (∀ k, F' k → φ o k) ∧
      ∀ (Z' : Fp) (w' : World) (new : T) (F2 : Fp), (∀ k, Z k → Z' k) → (∀ k, (Z k ∨ (φ o k ∧ ¬ F' k)) → w'.heap[k]? = w.heap[k]?) →
        Ow Z' w' (lvl - p.length) v' new F2 → (∀ k, F2 k → φ o k → F' k) → Ow Z' w' lvl (ρ o) (t.put p new) (fun k => (φ o k ∧ ¬ F' k) ∨ F2 k) := by
  cases hx with
  | h hb hs hh =>
    obtain ⟨v', rows', hA, hle, hvw⟩ := (hh hv).2 lvl t hc
    have e := hA.at?
    rw [hat] at e
    obtain ⟨rfl, rfl⟩ : sz' = sz ∧ rows' = rows := by cases e; exact ⟨rfl, rfl⟩
    obtain ⟨v2, F', hA2, how, hsub, hrep⟩ := (h.tree hc).focus p hat
    have := hA.det hA2
    subst this
    exact ⟨v', F', rfl, hle, hvw, hA, how, hsub, hrep⟩

theorem flat_cell {rows : List (List T)} (h : flat rows = true) {i j : Nat} {t : T} (hc : cellT rows i j = some t) : ∃ x, t = .v x := by
  unfold cellT at hc
  cases hi : rows[i]? with
  | none => simp [hi] at hc
  | some r =>
    simp only [hi, Option.bind_some] at hc
    have := List.all_eq_true.1 h r (List.mem_of_getElem? hi)
    have := List.all_eq_true.1 this t (List.mem_of_getElem? hc)
    cases t <;> simp [isV] at this
    exact ⟨_, rfl⟩

def TailAt (w : World) (sz : Nat) (tail : List (List T)) (xs : Nat → Nat → Value) (x : Value) : Prop :=
  (tail = [] ∧ x = .slice none 0 0) ∨ ∃ a c, x = .slice (some a) tail.length c ∧ tail.length ≤ c ∧ ∀ i j t, cellT tail i j = some t → w.cell? (a.add (i * sz + j)) = some (xs i j)

theorem tail_sound {α : Type} (h : OInv w0 A ob w ρ φ Z) {x : AV} {xv : Value} (hx : AVR w ob ρ x xv) {k : List (List T) → Nat → List (Nat × Ob) → Rd α} {out : α} (hr : (exTail x k).run ob = some out) :
    ∃ tail lv ss, (k tail lv ss).run ob = some out ∧ (∀ q ∈ ss, notOb q.1 x = false ∧ q.2.birth = (ob q.1).birth) ∧ ∀ sz L, wide sz tail = true → L ≤ lv →
      ∃ (φ2 : Nat → Fp) (Z2 : Fp) (xs : Nat → Nat → Value) (G : Nat → Nat → Fp), Step w0 A ob w ρ (upds ob ss) w ρ φ2 Z2 ∧ TailAt w sz tail xs xv ∧ Loose w0 A w φ2 Z2 L tail xs G := by
  unfold exTail at hr
  split at hr
  · refine ⟨[], 8, [], hr, fun q hq => (by cases hq), fun sz L _ _ => ?_⟩
    cases hx
    exact ⟨φ, Z, fun _ _ => undef, fun _ _ => none_, h.stay, .inl ⟨rfl, rfl⟩, ⟨fun i j t h => by simp [cellT] at h, fun _ _ _ => rfl, fun _ _ _ h => h.elim, fun _ _ _ _ _ h => h.elim, fun i j t h => by simp [cellT] at h⟩⟩
  · rename_i o b g p sz' lo len
    obtain ⟨lvl, t, sz2, rows, hc, hv, hat, hr'⟩ := look_run (k := fun ob lvl t sz rows => _) hr
    clear hr
    have hr := hr'
    clear hr'
    obtain ⟨v', F', rfl, hle, hvw, hA, how, hsub, _⟩ := view_cells h hx hc hv hat
    obtain ⟨Fv, hFv, hov⟩ := how.view hvw hle
    have hlen := drop_take_len hle
    -- the cells of the view
    have hcells : ∀ sz, wide sz ((rows.drop lo).take len) = true → ((rows.drop lo).take len = [] ∧ xv = .slice none 0 0) ∨ ∃ a c, xv = .slice (some a) ((rows.drop lo).take len).length c ∧ ((rows.drop lo).take len).length ≤ c ∧
        ∃ (xs : Nat → Nat → Value) (G : Nat → Nat → Fp) (l' : Nat), (∀ i j t, cellT ((rows.drop lo).take len) i j = some t → w.cell? (a.add (i * sz + j)) = some (xs i j) ∧ Ow Z w l' (xs i j) t (G i j)) := by
      intro sz hw
      have hsz : ∀ r ∈ (rows.drop lo).take len, r.length = sz := fun r hr => by simpa using List.all_eq_true.1 hw r hr
      generalize hV : (rows.drop lo).take len = V at *
      cases hxx : xv with
      | slice ao n c =>
        subst hxx
        cases ao with
        | none =>
          left
          generalize lvl - p.length = q at hov
          cases hov with
          | nil => exact ⟨rfl, rfl⟩
        | some aa =>
          right
          obtain ⟨e1, e2, e3, xs, G, l', e4⟩ := hov.row
          refine ⟨aa, c, by rw [e1], by omega, xs, G, l', fun i j t hcell => ?_⟩
          have : sz' = sz := by
            unfold cellT at hcell
            cases hq : V[i]? with
            | none => simp [hq] at hcell
            | some q => rw [← e3 q (List.mem_of_getElem? hq), hsz q (List.mem_of_getElem? hq)]
          rw [← this]; exact e4 i j t hcell
      | _ => subst hxx; cases hx with | h _ hss _ => obtain ⟨_, _, hss, _⟩ := hss; cases hss
    split at hr
    · rename_i hfl
      refine ⟨_, 8, [], hr, fun q hq => (by cases hq), fun sz L hw _ => ?_⟩
      rcases hcells sz hw with ⟨h1, h2⟩ | ⟨a0, c, h1, h2, xs, G, l', h3⟩
      · exact ⟨φ, Z, fun _ _ => undef, fun _ _ => none_, h.stay, .inl ⟨h1, h2⟩, ⟨fun i j t h => by rw [h1] at h; simp [cellT] at h, fun _ _ _ => rfl, fun _ _ _ h => h.elim, fun _ _ _ _ _ h => h.elim, fun i j t h => by rw [h1] at h; simp [cellT] at h⟩⟩
      · have hs : ∀ i j t, cellT ((rows.drop lo).take len) i j = some t → Ow Z w L (xs i j) t none_ ∧ (xs i j).oneCell' = true := by
          intro i j t hcell
          obtain ⟨y, rfl⟩ := flat_cell hfl hcell
          have := (h3 i j _ hcell).2
          generalize xs i j = q at this
          generalize G i j = Gq at this
          cases this with
          | v hs => exact ⟨.v hs, scalar_one hs⟩
        exact ⟨φ, Z, xs, fun _ _ => none_, h.stay, .inr ⟨a0, c, h1, h2, fun i j t hc => (h3 i j t hc).1⟩, ⟨fun i j t hc => (hs i j t hc).1, fun _ _ _ => rfl, fun _ _ _ h => h.elim, fun _ _ _ _ _ h => h.elim, fun i j t hc => (hs i j t hc).2⟩⟩
    · split at hr
      · rename_i hpl
        obtain ⟨hp0, hl0, hsolid⟩ := hpl
        refine ⟨_, lvl - 1, _, hr, fun q hq => ?_, fun sz L hw hL => ?_⟩
        · cases hq with
          | head => exact ⟨by simp [notOb], rfl⟩
          | tail _ hq => cases hq
        · have hLl : L + 1 ≤ lvl := by omega
          obtain ⟨F2, hF2, hlow⟩ := hov.lower (L + 1) (by rw [hp0]; simpa using hLl)
          obtain ⟨hst, hlim⟩ := h.kill o (ob o).sver true (Nat.le_refl _)
          have hI2 := hst.inv.moreZ (fun k => Fv k ∧ ¬ F2 k) (fun k hk => ⟨h.lt o k (hsub k (hFv k hk.1)), (hlim k (hsub k (hFv k hk.1))).2.1⟩)
          have hst2 : Step w0 A ob w ρ (upds ob [(o, { ob o with dirty := true, c := .dead })]) w ρ (upd φ o none_) (fun k => Z k ∨ (Fv k ∧ ¬ F2 k)) := ⟨hI2, hst.same⟩
          have hfree : ∀ k, F2 k → ¬ (Z k ∨ (Fv k ∧ ¬ F2 k)) ∧ (∀ o', ¬ upd φ o none_ o' k) ∧ (k < w0.heap.size → A k) ∧ k < w.heap.size := by
            intro k hk
            have hφ := hsub k (hFv k (hF2 k hk))
            obtain ⟨q1, q2, q3⟩ := hlim k hφ
            exact ⟨fun hz => hz.elim q1 (fun hz => hz.2 hk), q2, q3, h.lt o k hφ⟩
          have hnotflat : (rows.drop lo).take len ≠ [] := fun he => by rename_i hnf; exact hnf (by rw [he]; rfl)
          have hnh : ∀ i j, cellT ((rows.drop lo).take len) i j ≠ some .hole := by
            intro i j hcell
            unfold cellT at hcell
            cases hi : ((rows.drop lo).take len)[i]? with
            | none => simp [hi] at hcell
            | some r =>
              simp only [hi, Option.bind_some] at hcell
              have := List.all_eq_true.1 hsolid r (List.mem_of_getElem? hi)
              have := List.all_eq_true.1 this _ (List.mem_of_getElem? hcell)
              simp at this
          have hsz : ∀ r ∈ (rows.drop lo).take len, r.length = sz := fun r hr => by simpa using List.all_eq_true.1 hw r hr
          clear hr hcells
          generalize (rows.drop lo).take len = V at *
          cases hlow with
          | nil => exact (hnotflat rfl).elim
          | @own _ bb off c cs e fr _ _ xs G hb hfr hcc hoff hmax hs hxx ht hG hnb hd =>
            have e2 : ∀ i j t, cellT V i j = some t → sz' = sz := by
              intro i j t hcell
              unfold cellT at hcell
              cases hq : V[i]? with
              | none => simp [hq] at hcell
              | some q => rw [← hs q (List.mem_of_getElem? hq), hsz q (List.mem_of_getElem? hq)]
            refine ⟨upd φ o none_, _, xs, G, hst2, .inr ⟨_, c, rfl, hcc, fun i j t hcell => ?_⟩, ⟨ht, hG, fun i j k hk => hfree k (.inr ⟨i, j, hk⟩), hd, fun i j t hcell => (ht i j t hcell).one (fun he => hnh i j (he ▸ hcell))⟩⟩
            rw [own_cell hb, ← e2 i j t hcell]; exact hxx i j t hcell
      · simp [Rd.run] at hr
  · simp [Rd.run] at hr
end Go.Proofs.YtipfcgbhaalcdaaGreat.Abs
namespace Go.Proofs.YtipfcgbhaalcdaaGreat.Abs
open Go
set_option linter.unusedVariables false
set_option linter.unusedSimpArgs false
variable {P : Program} {E : Env} {w0 : World} {A : Fp} {ob : Objs} {w : World} {ρ : Nat → Value} {φ : Nat → Fp} {Z : Fp} {sl : Slots} {a : Act}

theorem append_nothing (w : World) (t ty e : TypeId) (i : TypeInfo) (ht : P.underlying t = some (.slice e)) (hi : P.info? e = some i) (base ao : Option Addr) (sLen sCap c : Nat) (hle : sLen ≤ sCap) :
    (Builtin.append_ #[t, t] ty #[.slice base sLen sCap, .slice ao 0 c]).run P w = .ok (.slice base sLen sCap) w := by
  cases ao <;> cases base <;>
    simp [Builtin.append_, Sem.run_bind, underlying, sizeOf, typeInfo, ht, hi, Sem.run, Result.andThen, Builtin.lenOf, Builtin.firstCells, loadCells, loadCellsFrom, hle, storeCells]

theorem OInv.world' (h : OInv w0 A ob w ρ φ Z) {w' : World} (F : Fp) (hk : Keep F w w') (hF : ∀ k, F k → ¬ Z k ∧ (∀ o, ¬ φ o k) ∧ (k < w0.heap.size → A k)) :
    Step w0 A ob w ρ ob w' ρ φ Z := by
  have hZb : ∀ k, Z k → w'.heap[k]? = w.heap[k]? := fun k hk' => hk.block k (h.zlt k hk') (fun hf => (hF k hf).1 hk')
  have hb : ∀ o k, φ o k → w'.heap[k]? = w.heap[k]? := fun o k hk' => hk.block k (h.lt o k hk') (fun hf => (hF k hf).2.1 o hk')
  have hs : ∀ o, Same w w' (ob o) (ob o) (ρ o) (ρ o) := fun o => Same.stay (Z := Z) fun lvl t hc => ⟨φ o, h.tree hc, hZb, hb o⟩
  refine ⟨⟨h.keep.trans hk (fun n hn hf => (hF n hf).2.2 hn), h.z0, fun k hk' => Nat.lt_of_lt_of_le (h.zlt k hk') hk.size, h.notZ, h.disj, h.fresh, fun o => ?_⟩, fun a x ha => ha.mono hs⟩
  have := h.objs o
  unfold ObOk at this ⊢
  split
  · rename_i hc; rw [hc] at this; exact this
  · rename_i lvl t hc; rw [hc] at this; exact this.frame hZb (hb o)
  · rename_i cells hc; rw [hc] at this
    obtain ⟨b, cs, e, fr, h1, h2, h3, h4, h5, h6⟩ := this
    exact ⟨b, cs, e, fr, h1, (hb o b ((h6 b).2 rfl)).trans h2, h3, h4, fun i a hi => (h5 i a hi).mono hs, h6⟩

theorem cellT_append (R1 R2 : List (List T)) (i j : Nat) : cellT (R1 ++ R2) i j = if i < R1.length then cellT R1 i j else cellT R2 (i - R1.length) j := by
  unfold cellT
  by_cases h : i < R1.length
  · rw [if_pos h, List.getElem?_append_left h]
  · rw [if_neg h, List.getElem?_append_right (by omega)]
theorem cellT_lt {R : List (List T)} {i j : Nat} {t : T} (h : cellT R i j = some t) : i < R.length := by
  unfold cellT at h
  cases hi : R[i]? with
  | none => simp [hi] at h
  | some r => exact (List.getElem?_eq_some_iff.1 hi).1
theorem cellT_wide {R : List (List T)} {sz i j : Nat} {t : T} (hs : ∀ r ∈ R, r.length = sz) (h : cellT R i j = some t) : j < sz := by
  unfold cellT at h
  cases hi : R[i]? with
  | none => simp [hi] at h
  | some r =>
    simp only [hi, Option.bind_some] at h
    rw [← hs r (List.mem_of_getElem? hi)]
    exact (List.getElem?_eq_some_iff.1 h).1

theorem assemble {L b off c sz : Nat} {cs : Array Value} {e : TypeId} {fr : Nat × Nat} {R1 R2 : List (List T)} (xs1 xs2 : Nat → Nat → Value) (G1 G2 : Nat → Nat → Fp)
    (hb : w.heap[b]? = some (.cells cs e fr)) (hfr : ∀ k, k < cs.size → ¬ (fr.1 ≤ k ∧ k < fr.2)) (hc : R1.length + R2.length ≤ c) (hoff : off + c * sz ≤ cs.size) (hmax : c ≤ maxLen)
    (hs1 : ∀ r ∈ R1, r.length = sz) (hs2 : ∀ r ∈ R2, r.length = sz)
    (h1 : ∀ i j t, cellT R1 i j = some t → cs[off + (i * sz + j)]? = some (xs1 i j) ∧ Ow Z w L (xs1 i j) t (G1 i j))
    (h2 : ∀ i j t, cellT R2 i j = some t → cs[off + ((R1.length + i) * sz + j)]? = some (xs2 i j) ∧ Ow Z w L (xs2 i j) t (G2 i j))
    (n1 : ∀ i j, cellT R1 i j = none → G1 i j = none_) (n2 : ∀ i j, cellT R2 i j = none → G2 i j = none_) (b1 : ∀ i j, ¬ G1 i j b) (b2 : ∀ i j, ¬ G2 i j b)
    (d1 : ∀ i j i' j' k, G1 i j k → G1 i' j' k → i = i' ∧ j = j') (d2 : ∀ i j i' j' k, G2 i j k → G2 i' j' k → i = i' ∧ j = j') (d12 : ∀ i j i' j' k, G1 i j k → ¬ G2 i' j' k) :
    ∃ F, Ow Z w (L + 1) (.slice (some ⟨b, off, none⟩) (R1.length + R2.length) c) (.sl sz (R1 ++ R2)) F ∧ ∀ k, F k → k = b ∨ (∃ i j, G1 i j k) ∨ ∃ i j, G2 i j k := by
  let xs : Nat → Nat → Value := fun i j => if i < R1.length then xs1 i j else xs2 (i - R1.length) j
  let G : Nat → Nat → Fp := fun i j => if i < R1.length then G1 i j else G2 (i - R1.length) j
  have hl : (R1 ++ R2).length = R1.length + R2.length := List.length_append
  have key := Ow.own (Z := Z) (w := w) (l := L) (b := b) (off := off) (c := c) (cs := cs) (e := e) (fr := fr) (rows := R1 ++ R2) (sz := sz) xs G hb hfr (by rw [hl]; exact hc) hoff hmax
    (fun r hr => (List.mem_append.1 hr).elim (hs1 r) (hs2 r)) (fun i j t h => ?_) (fun i j t h => ?_) (fun i j h => ?_) (fun i j => ?_) (fun i j i' j' k h h' => ?_)
  · rw [hl] at key
    refine ⟨_, key, ?_⟩
    rintro k (rfl | ⟨i, j, hk⟩)
    · exact .inl rfl
    · by_cases hi : i < R1.length
      · exact .inr (.inl ⟨i, j, by simpa [G, hi] using hk⟩)
      · exact .inr (.inr ⟨i - R1.length, j, by simpa [G, hi] using hk⟩)
  · rw [cellT_append] at h
    by_cases hi : i < R1.length
    · rw [if_pos hi] at h; simp only [xs, if_pos hi]; exact (h1 i j t h).1
    · rw [if_neg hi] at h
      have := (h2 _ j t h).1
      rw [show R1.length + (i - R1.length) = i by omega] at this
      simp only [xs, if_neg hi]; exact this
  · rw [cellT_append] at h
    by_cases hi : i < R1.length
    · rw [if_pos hi] at h; simp only [xs, G, if_pos hi]; exact (h1 i j t h).2
    · rw [if_neg hi] at h; simp only [xs, G, if_neg hi]; exact (h2 _ j t h).2
  · rw [cellT_append] at h
    by_cases hi : i < R1.length
    · rw [if_pos hi] at h; simp only [G, if_pos hi]; exact n1 i j h
    · rw [if_neg hi] at h; simp only [G, if_neg hi]; exact n2 _ j h
  · by_cases hi : i < R1.length
    · simp only [G, if_pos hi]; exact b1 i j
    · simp only [G, if_neg hi]; exact b2 _ j
  · by_cases hi : i < R1.length
    · simp only [G, if_pos hi] at h
      by_cases hi' : i' < R1.length
      · simp only [G, if_pos hi'] at h'; exact d1 _ _ _ _ k h h'
      · simp only [G, if_neg hi'] at h'; exact (d12 _ _ _ _ k h h').elim
    · simp only [G, if_neg hi] at h
      by_cases hi' : i' < R1.length
      · simp only [G, if_pos hi'] at h'; exact (d12 _ _ _ _ k h' h).elim
      · simp only [G, if_neg hi'] at h'
        obtain ⟨q1, q2⟩ := d2 _ _ _ _ k h h'
        exact ⟨by omega, q2⟩

def flatV (n sz : Nat) (xs : Nat → Nat → Value) : List Value := (List.range (n * sz)).map fun k => xs (k / sz) (k % sz)
theorem flatV_len (n sz : Nat) (xs : Nat → Nat → Value) : (flatV n sz xs).length = n * sz := by simp [flatV]
theorem flatV_get {n sz : Nat} {xs : Nat → Nat → Value} {i j : Nat} (hi : i < n) (hj : j < sz) : (flatV n sz xs)[i * sz + j]? = some (xs i j) := by
  have h1 : i * sz + j < n * sz := by
    have : (i + 1) * sz ≤ n * sz := Nat.mul_le_mul_right _ hi
    rw [Nat.add_mul] at this; omega
  have h2 : (i * sz + j) / sz = i := by rw [Nat.mul_comm, Nat.mul_add_div (by omega)]; rw [Nat.div_eq_of_lt hj]; omega
  have h3 : (i * sz + j) % sz = j := by rw [Nat.mul_comm, Nat.mul_add_mod]; exact Nat.mod_eq_of_lt hj
  simp [flatV, h1, h2, h3]
theorem cell_of_idx {R : List (List T)} {sz k : Nat} (hs : ∀ r ∈ R, r.length = sz) (hz : 0 < sz) (hk : k < R.length * sz) : ∃ t, cellT R (k / sz) (k % sz) = some t := by
  have h1 : k / sz < R.length := Nat.div_lt_of_lt_mul (by rw [Nat.mul_comm]; exact hk)
  have h2 : k % sz < sz := Nat.mod_lt _ hz
  have h3 := hs R[k / sz] (List.getElem_mem h1)
  exact ⟨R[k / sz][k % sz]'(by omega), by simp [cellT, h1, h3, h2]⟩
theorem flatV_cell {R : List (List T)} {sz : Nat} {xs : Nat → Nat → Value} (hs : ∀ r ∈ R, r.length = sz) (hz : 0 < sz) {Q : Value → Nat → Prop} (h : ∀ i j t, cellT R i j = some t → Q (xs i j) (i * sz + j)) :
    ∀ k u, (flatV R.length sz xs)[k]? = some u → Q u k := by
  intro k u hk
  have hlt : k < R.length * sz := by have := (List.getElem?_eq_some_iff.1 hk).1; rwa [flatV_len] at this
  obtain ⟨t, ht⟩ := cell_of_idx hs hz hlt
  have := h _ _ t ht
  rw [Nat.div_add_mod' k sz] at this
  have h2 : u = xs (k / sz) (k % sz) := by
    simp only [flatV, List.getElem?_map, List.getElem?_range hlt] at hk
    simpa using hk.symm
  rw [h2]; exact this
end Go.Proofs.YtipfcgbhaalcdaaGreat.Abs
namespace Go.Proofs.YtipfcgbhaalcdaaGreat.Abs
open Go
set_option linter.unusedVariables false
set_option linter.unusedSimpArgs false
variable {P : Program} {E : Env} {w0 : World} {A : Fp} {ob : Objs} {w : World} {ρ : Nat → Value} {φ : Nat → Fp} {Z : Fp} {sl : Slots} {a : Act}

theorem avr_root {l lvl d sz : Nat} {v : Value} {R : List (List T)} {F : Fp} (ho : Ow Z w l v (.sl sz R) F) (hc : (ob d).c = .tree lvl (.sl sz R)) (hρ : ρ d = v) {n b : Nat} (hn : n = R.length) (hb : b = (ob d).birth) : AVR w ob ρ (.h d b 0 [] sz 0 n) v := by
  subst hn
  subst hb
  have hs : ∃ a c, v = .slice a R.length c ∧ R.length ≤ c ∧ (a = none → c = 0) := by
    cases ho with
    | nil => exact ⟨none, 0, rfl, Nat.le_refl _, fun _ => rfl⟩
    | ro _ hcc => exact ⟨_, _, rfl, hcc, fun h => by cases h⟩
    | own _ _ _ _ hcc => exact ⟨_, _, rfl, hcc, fun h => by cases h⟩
  refine .h ⟨Nat.le_refl _, fun _ h => (h rfl).elim⟩ hs fun _ => ⟨(fun cells h9 => by rw [hc] at h9; exact nomatch h9), fun lvl' t' hc' => ?_⟩
  rw [hc] at hc'
  cases hc'
  refine ⟨v, R, by rw [hρ]; exact .here, by omega, ?_⟩
  cases ho with
  | nil => exact .inl ⟨rfl, rfl, rfl, rfl⟩
  | @ro a c _ _ xs hcc => exact .inr ⟨a, _, c, 0, c, rfl, by simp [Addr.add], hcc, by omega, Nat.le_refl _, fun _ => rfl⟩
  | @own l b off c _ _ _ _ _ xs F hb hfr hcc => exact .inr ⟨_, _, c, 0, c, rfl, by simp [Addr.add], hcc, by omega, Nat.le_refl _, fun _ => rfl⟩

theorem upds_birth (ob : Objs) (ss : List (Nat × Ob)) (h : ∀ q ∈ ss, q.2.birth = (ob q.1).birth) (d : Nat) : (upds ob ss d).birth = (ob d).birth := by
  have key : ∀ (ss : List (Nat × Ob)) (ob1 : Objs), (∀ o, (ob1 o).birth = (ob o).birth) → (∀ q ∈ ss, q.2.birth = (ob q.1).birth) → (upds ob1 ss d).birth = (ob d).birth := by
    intro ss
    induction ss with
    | nil => intro ob1 h1 _; exact h1 d
    | cons q ss ih =>
      intro ob1 h1 h2
      obtain ⟨n, x⟩ := q
      refine ih (upd ob1 n x) (fun o => ?_) (fun q hq => h2 q (List.mem_cons_of_mem _ hq))
      by_cases he : o = n
      · subst he; rw [upd_same]; exact h2 (o, x) List.mem_cons_self
      · rw [upd_ne _ _ he]; exact h1 o
  exact key ss ob (fun _ => rfl) h

theorem drew_keep (w : World) : Keep none_ w w.drew := ⟨rfl, rfl, rfl, Nat.le_refl _, fun _ _ _ => rfl⟩
theorem grown_keep (w : World) (cs : Array Value) (e : TypeId) : Keep none_ w (w.drew.alloc (.cells cs e)) :=
  (drew_keep w).trans (push_keep w.drew cs e) (fun _ _ h => h.elim)
theorem grown_new (w : World) (cs : Array Value) (e : TypeId) : (w.drew.alloc (.cells cs e)).heap[w.heap.size]? = some (.cells cs e (0, 0)) := push_new w.drew cs e

theorem fresh_node {L sz cap : Nat} {e : TypeId} {R1 R2 : List (List T)} {xs1 xs2 : Nat → Nat → Value} {G1 G2 : Nat → Nat → Fp} {zs : Array Value} (hsz : 0 < sz)
    (hs1 : ∀ r ∈ R1, r.length = sz) (hs2 : ∀ r ∈ R2, r.length = sz) (hcap : R1.length + R2.length ≤ cap) (hmax : cap ≤ maxLen) (hzs : zs.size = (cap - (R1.length + R2.length)) * sz)
    (h1 : ∀ i j t, cellT R1 i j = some t → Ow Z w L (xs1 i j) t (G1 i j)) (h2 : ∀ i j t, cellT R2 i j = some t → Ow Z w L (xs2 i j) t (G2 i j))
    (n1 : ∀ i j, cellT R1 i j = none → G1 i j = none_) (n2 : ∀ i j, cellT R2 i j = none → G2 i j = none_) (b1 : ∀ i j k, G1 i j k → k < w.heap.size) (b2 : ∀ i j k, G2 i j k → k < w.heap.size) (bZ : ∀ k, Z k → k < w.heap.size)
    (d1 : ∀ i j i' j' k, G1 i j k → G1 i' j' k → i = i' ∧ j = j') (d2 : ∀ i j i' j' k, G2 i j k → G2 i' j' k → i = i' ∧ j = j') (d12 : ∀ i j i' j' k, G1 i j k → ¬ G2 i' j' k) :
    ∃ F, Ow Z (w.drew.alloc (.cells ((flatV R1.length sz xs1).toArray ++ (flatV R2.length sz xs2).toArray ++ zs) e)) (L + 1) (.slice (some ⟨w.heap.size, 0, none⟩) (R1.length + R2.length) cap) (.sl sz (R1 ++ R2)) F ∧
      ∀ k, F k → k = w.heap.size ∨ (∃ i j, G1 i j k) ∨ ∃ i j, G2 i j k := by
  have hk := grown_keep w ((flatV R1.length sz xs1).toArray ++ (flatV R2.length sz xs2).toArray ++ zs) e
  have hfr1 : ∀ i j t, cellT R1 i j = some t → Ow Z (w.drew.alloc (.cells ((flatV R1.length sz xs1).toArray ++ (flatV R2.length sz xs2).toArray ++ zs) e)) L (xs1 i j) t (G1 i j) :=
    fun i j t h => (h1 i j t h).frame (fun k hz => hk.block k (bZ k hz) id) (fun k hg => hk.block k (b1 i j k hg) id)
  have hfr2 : ∀ i j t, cellT R2 i j = some t → Ow Z (w.drew.alloc (.cells ((flatV R1.length sz xs1).toArray ++ (flatV R2.length sz xs2).toArray ++ zs) e)) L (xs2 i j) t (G2 i j) :=
    fun i j t h => (h2 i j t h).frame (fun k hz => hk.block k (bZ k hz) id) (fun k hg => hk.block k (b2 i j k hg) id)
  refine assemble (off := 0) (fr := (0, 0)) xs1 xs2 G1 G2 (grown_new w _ e) (fun k _ h => Nat.not_lt_zero _ h.2) hcap ?_ hmax hs1 hs2 (fun i j t h => ⟨?_, hfr1 i j t h⟩) (fun i j t h => ⟨?_, hfr2 i j t h⟩) n1 n2
    (fun i j h => Nat.lt_irrefl _ (b1 i j _ h)) (fun i j h => Nat.lt_irrefl _ (b2 i j _ h)) d1 d2 d12
  · have : (R1.length + R2.length) * sz + (cap - (R1.length + R2.length)) * sz = cap * sz := by rw [← Nat.add_mul]; congr 1; omega
    simp only [Array.size_append, List.size_toArray, flatV_len, hzs]
    rw [Nat.add_mul] at this; omega
  · have hi := cellT_lt h
    have hj := cellT_wide hs1 h
    have hlt : i * sz + j < R1.length * sz := by
      have : (i + 1) * sz ≤ R1.length * sz := Nat.mul_le_mul_right _ hi
      rw [Nat.add_mul] at this; omega
    rw [Nat.zero_add, Array.getElem?_append_left (by simp [flatV_len]; omega), Array.getElem?_append_left (by simpa [flatV_len] using hlt)]
    simpa using flatV_get hi hj
  · have hi := cellT_lt h
    have hj := cellT_wide hs2 h
    have hlt : i * sz + j < R2.length * sz := by
      have : (i + 1) * sz ≤ R2.length * sz := Nat.mul_le_mul_right _ hi
      rw [Nat.add_mul] at this; omega
    have e1 : (R1.length + i) * sz + j = R1.length * sz + (i * sz + j) := by rw [Nat.add_mul]; omega
    rw [Nat.zero_add, e1, Array.getElem?_append_left (by simp [flatV_len]; omega), Array.getElem?_append_right (by simp [flatV_len])]
    have e2 : R1.length * sz + (i * sz + j) - (flatV R1.length sz xs1).toArray.size = i * sz + j := by simp [flatV_len]
    rw [e2]
    simpa using flatV_get hi hj
theorem zeroCells_size (z : Array Value) (n : Nat) : (Builtin.zeroCells z n).size = n * z.size := by simp [Builtin.zeroCells]

theorem append_done (h : OInv w0 A ob w ρ φ Z) {ob3 : Objs} {w1 : World} {ρ3 : Nat → Value} {φ3 : Nat → Fp} {Z3 : Fp} (hst : Step w0 A ob w ρ ob3 w1 ρ3 φ3 Z3) {d lvl sz : Nat} {v : Value} {R : List (List T)} {F : Fp}
    (ho : Ow Z3 w1 lvl v (.sl sz R) F) (hF : ∀ k, F k → ¬ Z3 k ∧ (∀ o', ¬ φ3 o' k) ∧ (k < w0.heap.size → A k)) (hb : (ob3 d).birth = (ob d).birth) {n : Nat} (hn : n = R.length) :
    ∃ ρ' φ', Step w0 A ob w ρ (upd ob3 d ⟨(ob d).birth + 1, 0, false, .tree lvl (.sl sz R)⟩) w1 ρ' φ' Z3 ∧ AVR w1 (upd ob3 d ⟨(ob d).birth + 1, 0, false, .tree lvl (.sl sz R)⟩) ρ' (.h d ((ob d).birth + 1) 0 [] sz 0 n) v := by
  have h4 := hst.inv.newTree d lvl v (.sl sz R) F ho hF
  rw [hb] at h4
  exact ⟨_, _, hst.trans h4, avr_root ho (by rw [upd_same]) (by rw [upd_same]) hn (by rw [upd_same])⟩
end Go.Proofs.YtipfcgbhaalcdaaGreat.Abs
namespace Go.Proofs.YtipfcgbhaalcdaaGreat.Abs
open Go
set_option linter.unusedVariables false
set_option linter.unusedSimpArgs false
variable {P : Program} {E : Env} {w0 : World} {A : Fp} {ob : Objs} {w : World} {ρ : Nat → Value} {φ : Nat → Fp} {Z : Fp} {sl : Slots} {a : Act}

theorem wide_mem {sz : Nat} {rows : List (List T)} (h : wide sz rows = true) : ∀ r ∈ rows, r.length = sz := fun r hr => by simpa using List.all_eq_true.1 h r hr

theorem append_nl (h : OInv w0 A ob w ρ φ Z) {t ty e : TypeId} {i : TypeInfo} {z : Value} (ht : P.underlying t = some (.slice e)) (hi : P.info? e = some i) (hz : i.zero = some z) {sz bytes : Nat} (hsz : i.size = sz) (hzs : z.cells.size = sz) (hby : i.bytes = bytes) (hpos : 0 < sz)
    {d lv : Nat} {xv : Value} {tail : List (List T)} (hw : wide sz tail = true) (hlim : lim tail.length bytes = true) {ob2 : Objs} {φ2 : Nat → Fp} {Z2 : Fp} {xs : Nat → Nat → Value} {G : Nat → Nat → Fp}
    (hst : Step w0 A ob w ρ ob2 w ρ φ2 Z2) (hT : TailAt w sz tail xs xv) (hL : Loose w0 A w φ2 Z2 lv tail xs G) (hb : (ob2 d).birth = (ob d).birth) :
    ∃ v' w' ρ' φ' Z', (Builtin.append_ #[t, t] ty #[.slice none 0 0, xv]).run P w = .ok v' w' ∧
      Step w0 A ob w ρ (upd ob2 d ⟨(ob d).birth + 1, 0, false, .tree (lv + 1) (.sl sz tail)⟩) w' ρ' φ' Z' ∧ AVR w' (upd ob2 d ⟨(ob d).birth + 1, 0, false, .tree (lv + 1) (.sl sz tail)⟩) ρ' (.h d ((ob d).birth + 1) 0 [] sz 0 tail.length) v' := by
  have hws := wide_mem hw
  simp only [lim, decide_eq_true_eq] at hlim
  by_cases h0 : tail.length = 0
  · obtain rfl : tail = [] := List.length_eq_zero_iff.1 h0
    have hrun : (Builtin.append_ #[t, t] ty #[.slice none 0 0, xv]).run P w = .ok (.slice none 0 0) w := by
      rcases hT with ⟨_, rfl⟩ | ⟨a0, c, rfl, _, _⟩
      · exact append_nothing w t ty e i ht hi none none 0 0 0 (Nat.le_refl _)
      · exact append_nothing w t ty e i ht hi none (some a0) 0 0 c (Nat.le_refl _)
    obtain ⟨ρ', φ', h1, h2⟩ := append_done (d := d) (lvl := lv + 1) (sz := sz) (n := 0) h hst (v := .slice none 0 0) (R := []) (F := none_) .nil (fun k hk => hk.elim) hb rfl
    exact ⟨_, _, ρ', φ', Z2, hrun, h1, h2⟩
  · rcases hT with ⟨h1, _⟩ | ⟨a0, c, rfl, hc, hcells⟩
    · exact absurd (by rw [h1]; rfl) h0
    · have hrun := run_append_nil (P := P) w t ty e i z ht hi hz a0 tail.length c (flatV tail.length sz xs) (by rw [flatV_len, hsz]) (flatV_cell hws hpos (Q := fun u k => w.cell? (a0.add k) = some u) hcells) (by omega) (by omega) (by rw [hby]; omega)
      have hcap := grownCap_ge w tail.length 0 e
      have hmax := grownCap_le_maxLen w tail.length 0 e (by unfold maxLen; omega)
      obtain ⟨F, hF, hFk⟩ := fresh_node (w := w) (Z := Z2) (L := lv) (sz := sz) (cap := grownCap w tail.length 0 e) (e := e) (R1 := []) (R2 := tail) (xs1 := xs) (xs2 := xs) (G1 := fun _ _ => none_) (G2 := G)
        (zs := Builtin.zeroCells z.cells (grownCap w tail.length 0 e - tail.length)) hpos (fun r hr => by cases hr) hws (by simpa using hcap) hmax (by rw [zeroCells_size, hzs]; simp) (fun i j t h => by simp [cellT] at h) hL.ow
        (fun _ _ _ => rfl) hL.none (fun _ _ _ h => h.elim) (fun i j k hk => (hL.free i j k hk).2.2.2) (fun k hk => hst.inv.zlt k hk) (fun _ _ _ _ _ h => h.elim) hL.dis (fun _ _ _ _ _ h => h.elim)
      have earr : (flatV ([] : List (List T)).length sz xs).toArray ++ (flatV tail.length sz xs).toArray ++ Builtin.zeroCells z.cells (grownCap w tail.length 0 e - tail.length) = (flatV tail.length sz xs).toArray ++ Builtin.zeroCells z.cells (grownCap w tail.length 0 e - tail.length) := by
        have : flatV ([] : List (List T)).length sz xs = [] := by simp [flatV]
        rw [this]; simp
      rw [earr] at hF
      have hst2 := hst.trans (hst.inv.world (grown_keep w ((flatV tail.length sz xs).toArray ++ Builtin.zeroCells z.cells (grownCap w tail.length 0 e - tail.length)) e))
      have hF2 : Ow Z2 (w.drew.alloc (.cells ((flatV tail.length sz xs).toArray ++ Builtin.zeroCells z.cells (grownCap w tail.length 0 e - tail.length)) e)) (lv + 1) (.slice (some ⟨w.heap.size, 0, none⟩) tail.length (grownCap w tail.length 0 e)) (.sl sz tail) F := by
        simpa using hF
      obtain ⟨ρ', φ', h3, h4⟩ := append_done (d := d) (n := tail.length) h hst2 hF2 (fun k hk => by
        rcases hFk k hk with rfl | ⟨i, j, hk⟩ | ⟨i, j, hk⟩
        · exact ⟨fun hz => Nat.lt_irrefl _ (hst.inv.zlt _ hz), fun o' ho => Nat.lt_irrefl _ (hst.inv.lt o' _ ho), fun hlt => absurd hlt (Nat.not_lt.2 h.keep.size)⟩
        · exact hk.elim
        · exact ⟨(hL.free i j k hk).1, (hL.free i j k hk).2.1, (hL.free i j k hk).2.2.1⟩) hb rfl
      exact ⟨_, _, ρ', φ', Z2, hrun, h3, h4⟩

theorem take_old (h : OInv w0 A ob w ρ φ Z) {o b g sz' lo len : Nat} {p : List (Nat × Nat)} {sv : Value} (hx : AVR w ob ρ (.h o b g p sz' lo len) sv) {lvl : Nat} {t : T} (hc : (ob o).c = .tree lvl t) (hv : Valid (ob o) b g p)
    {sz : Nat} {rows : List (List T)} (hat : t.at? p = some (.sl sz rows)) (hp : p.length < lvl) {L : Nat} (hL : L + 1 ≤ lvl - p.length) :
    ∃ φ3 Z3 F2, Step w0 A ob w ρ (upd ob o { ob o with sver := (ob o).sver + 1, dirty := true, c := if p = [] then .dead else .tree lvl (t.put p .hole) }) w ρ φ3 Z3 ∧ (∀ k, Z k → Z3 k) ∧ lo + len ≤ rows.length ∧
      Ow Z3 w (L + 1) sv (.sl sz ((rows.drop lo).take len)) F2 ∧ (∀ k, F2 k → ¬ Z3 k ∧ (∀ o', ¬ φ3 o' k) ∧ (k < w0.heap.size → A k) ∧ k < w.heap.size) ∧ (∀ k, Z3 k → Z k ∨ φ o k) ∧ (∀ k, F2 k → φ o k) ∧ (∀ o' k, φ3 o' k → φ o' k) := by
  obtain ⟨v', F', rfl, hle, hvw, hA, how, hsub, hrep⟩ := view_cells h hx hc hv hat
  obtain ⟨Fv, hFv, hov⟩ := how.view hvw hle
  obtain ⟨F2, hF2, hlow⟩ := hov.lower (L + 1) hL
  -- the object without it
  have hst : ∃ φ3, Step w0 A ob w ρ (upd ob o { ob o with sver := (ob o).sver + 1, dirty := true, c := if p = [] then .dead else .tree lvl (t.put p .hole) }) w ρ φ3 Z ∧ (∀ k, F' k → ∀ o', ¬ φ3 o' k) ∧ (∀ o' k, φ3 o' k → φ o' k) := by
    by_cases hp0 : p = []
    · subst hp0
      obtain ⟨h1, h2⟩ := h.kill o ((ob o).sver + 1) true (Nat.le_succ _)
      refine ⟨_, by simpa using h1, fun k hk o' => (h2 k (hsub k hk)).2.1 o', fun o' k hk => ?_⟩
      by_cases he : o' = o
      · subst he; rw [upd_same] at hk; exact hk.elim
      · rw [upd_ne _ _ he] at hk; exact hk
    · have hres := hrep Z w .hole none_ (fun k hk => hk) (fun k _ => rfl) .hole (fun k hk => hk.elim)
      have := h.upd1 (w' := w) (Z' := Z) o { ob o with sver := (ob o).sver + 1, dirty := true, c := .tree lvl (t.put p .hole) } (ρ o) (fun k => (φ o k ∧ ¬ F' k) ∨ none_ k) none_ (Keep.refl _ _) (fun k hk => hk.elim) (fun k hk => hk) (fun k hk => .inl hk)
        (fun k hk => by
          rcases hk with ⟨hk, _⟩ | hk
          · exact ⟨h.notZ o k hk, fun o' hne ho' => hne (h.disj o' o k ho' hk), h.fresh o k hk⟩
          · exact hk.elim)
        (Same.root (Nat.le_succ _) (fun he => by omega) (fun sz2 lo len x hh => hh.root hc rfl (put_any hp0)) (fun i j x hh => hh.root hc rfl (put_any hp0))) (fun htr => by
          unfold ObOk
          rw [upd_same, upd_same, upd_id]
          exact hres)
      rw [upd_id] at this
      refine ⟨_, by simpa [hp0] using this, fun k hk o' ho' => ?_, fun o' k hk => ?_⟩
      · by_cases he : o' = o
        · subst he; rw [upd_same] at ho'; exact ho'.elim (fun h => h.2 hk) id
        · rw [upd_ne _ _ he] at ho'; exact he (h.disj o' o k ho' (hsub k hk))
      · by_cases he : o' = o
        · subst he; rw [upd_same] at hk; exact hk.elim (fun h => h.1) (fun h => h.elim)
        · rw [upd_ne _ _ he] at hk; exact hk
  obtain ⟨φ3, hst, hfree, hshr⟩ := hst
  have hI := hst.inv.moreZ (fun k => Fv k ∧ ¬ F2 k) (fun k hk => ⟨h.lt o k (hsub k (hFv k hk.1)), hfree k (hFv k hk.1)⟩)
  refine ⟨φ3, _, F2, ⟨hI, hst.same⟩, fun k hk => .inl hk, hle, hlow, fun k hk => ?_, fun k hk => hk.imp id (fun hk => hsub k (hFv k hk.1)), fun k hk => hsub k (hFv k (hF2 k hk)), hshr⟩
  have hφ := hsub k (hFv k (hF2 k hk))
  exact ⟨fun hz => hz.elim (h.notZ o k hφ) (fun hz => hz.2 hk), hfree k (hFv k (hF2 k hk)), h.fresh o k hφ, h.lt o k hφ⟩
end Go.Proofs.YtipfcgbhaalcdaaGreat.Abs
namespace Go.Proofs.YtipfcgbhaalcdaaGreat.Abs
open Go
set_option linter.unusedVariables false
set_option linter.unusedSimpArgs false
variable {P : Program} {E : Env} {w0 : World} {A : Fp} {ob : Objs} {w : World} {ρ : Nat → Value} {φ : Nat → Fp} {Z : Fp} {sl : Slots} {a : Act}

theorem setCells_facts (b : Nat) (e : TypeId) (fr : Nat × Nat) : ∀ (vs : List Value) (o : Nat) (cs : Array Value) (w : World), w.heap[b]? = some (.cells cs e fr) → o + vs.length ≤ cs.size →
    ∃ cs', (w.setCells b o vs).heap[b]? = some (.cells cs' e fr) ∧ Keep (fun n => n = b) w (w.setCells b o vs) ∧ cs'.size = cs.size ∧ (∀ k, k < o ∨ o + vs.length ≤ k → cs'[k]? = cs[k]?) ∧ (∀ k, k < vs.length → cs'[o + k]? = vs[k]?) := by
  intro vs
  induction vs with
  | nil => intro o cs w hb _; exact ⟨cs, hb, Keep.refl _ _, rfl, fun _ _ => rfl, fun k hk => absurd hk (Nat.not_lt_zero _)⟩
  | cons v vs ih =>
    intro o cs w hb hle
    simp only [List.length_cons] at hle
    obtain ⟨cs', h1, h2, h3, h4, h5⟩ := ih (o + 1) (cs.setIfInBounds o v) (w.setCell ⟨b, o, none⟩ v) (setCell_heap w b o cs e fr v hb) (by simp; omega)
    refine ⟨cs', h1, (setCell_keep w b o v).trans h2 (fun n _ h => h), by simpa using h3, fun k hk => ?_, fun k hk => ?_⟩
    · simp only [List.length_cons] at hk
      rw [h4 k (by omega), Array.getElem?_setIfInBounds, if_neg (by omega)]
    · cases k with
      | zero => rw [Nat.add_zero, h4 o (by omega), Array.getElem?_setIfInBounds, if_pos rfl, if_pos (by omega)]; rfl
      | succ k =>
        have := h5 k (by simpa using hk)
        rw [show o + (k + 1) = o + 1 + k by omega]; simpa using this

theorem append_own (h : OInv w0 A ob w ρ φ Z) {t ty e : TypeId} {i : TypeInfo} {z : Value} (ht : P.underlying t = some (.slice e)) (hi : P.info? e = some i) (hz : i.zero = some z) {sz bytes : Nat} (hsz : i.size = sz) (hzs : z.cells.size = sz) (hby : i.bytes = bytes) (hpos : 0 < sz)
    {d L : Nat} {sv xv : Value} {tail V : List (List T)} (hw : wide sz tail = true) (hlim : lim (V.length + tail.length) bytes = true) {ob3 : Objs} {φ3 : Nat → Fp} {Z3 : Fp} {xs : Nat → Nat → Value} {G : Nat → Nat → Fp} {F2 : Fp}
    (hst : Step w0 A ob w ρ ob3 w ρ φ3 Z3) (hT : TailAt w sz tail xs xv) (hL : Loose w0 A w φ3 Z3 L tail xs G) (hold : Ow Z3 w (L + 1) sv (.sl sz V) F2) (hF2 : ∀ k, F2 k → ¬ Z3 k ∧ (∀ o', ¬ φ3 o' k) ∧ (k < w0.heap.size → A k) ∧ k < w.heap.size)
    (hdis : ∀ i j k, G i j k → ¬ F2 k) (hb : (ob3 d).birth = (ob d).birth) :
    ∃ v' w' ρ' φ' Z', (Builtin.append_ #[t, t] ty #[sv, xv]).run P w = .ok v' w' ∧
      Step w0 A ob w ρ (upd ob3 d ⟨(ob d).birth + 1, 0, false, .tree (L + 1) (.sl sz (V ++ tail))⟩) w' ρ' φ' Z' ∧ AVR w' (upd ob3 d ⟨(ob d).birth + 1, 0, false, .tree (L + 1) (.sl sz (V ++ tail))⟩) ρ' (.h d ((ob d).birth + 1) 0 [] sz 0 (V.length + tail.length)) v' := by
  have hws := wide_mem hw
  have hI3 := hst.inv
  cases hold with
  | nil =>
    have := append_nl (ty := ty) h ht hi hz hsz hzs hby hpos (d := d) (lv := L) hw (by simpa using hlim) hst hT hL hb
    simpa using this
  | @own _ b off c cs e' fr _ _ xs1 G1 hbk hfr hc hoff hmax hs1 hx1 ht1 hG1 hnb1 hd1 =>
    simp only [lim, decide_eq_true_eq] at hlim
    have hold' : Ow Z3 w (L + 1) (.slice (some ⟨b, off, none⟩) V.length c) (.sl sz V) (fun k => k = b ∨ ∃ i j, G1 i j k) := .own xs1 G1 hbk hfr hc hoff hmax hs1 hx1 ht1 hG1 hnb1 hd1
    by_cases h0 : tail.length = 0
    · obtain rfl : tail = [] := List.length_eq_zero_iff.1 h0
      have hrun : (Builtin.append_ #[t, t] ty #[.slice (some ⟨b, off, none⟩) V.length c, xv]).run P w = .ok (.slice (some ⟨b, off, none⟩) V.length c) w := by
        rcases hT with ⟨_, rfl⟩ | ⟨a0, c', rfl, _, _⟩
        · exact append_nothing w t ty e i ht hi _ none _ _ 0 hc
        · exact append_nothing w t ty e i ht hi _ (some a0) _ _ c' hc
      obtain ⟨ρ', φ', h1, h2⟩ := append_done (d := d) (n := V.length) h hst hold' (fun k hk => ⟨(hF2 k hk).1, (hF2 k hk).2.1, (hF2 k hk).2.2.1⟩) hb rfl
      exact ⟨_, _, ρ', φ', Z3, hrun, by simpa using h1, by simpa using h2⟩
    · rcases hT with ⟨h1, _⟩ | ⟨a0, c', rfl, hc', hcells⟩
      · exact absurd (by rw [h1]; rfl) h0
      · have hnews := flatV_cell hws hpos (Q := fun u k => w.cell? (a0.add k) = some u) hcells
        have hone : ∀ u ∈ flatV tail.length sz xs, u.oneCell' = true := by
          intro u hu
          obtain ⟨k, hk, rfl⟩ := List.mem_iff_getElem.1 hu
          exact flatV_cell hws hpos (Q := fun u _ => u.oneCell' = true) hL.one k _ (by simp [hk])
        have hbF2 := hF2 b (.inl rfl)
        have hGb : ∀ i j, ¬ G i j b := fun i j hg => hdis i j b hg (.inl rfl)
        by_cases hroom : V.length + tail.length ≤ c
        · -- in place
          have hbound : V.length * sz + tail.length * sz ≤ c * sz := by rw [← Nat.add_mul]; exact Nat.mul_le_mul_right _ hroom
          have hrun := run_append_room_cells (P := P) w t ty e i ht hi b off V.length c a0 tail.length c' (flatV tail.length sz xs) (by rw [flatV_len, hsz]) hnews hone hroom
            (fun j hj => by
              rw [flatV_len] at hj
              have : off + V.length * i.size + j < cs.size := by rw [hsz]; omega
              simp [World.cell?, hbk, this])
            (fun j hj => by
              rw [flatV_len] at hj
              have hlt : off + V.length * i.size + j < cs.size := by rw [hsz]; omega
              have := hfr _ hlt
              obtain ⟨f1, f2⟩ := fr
              simp only [World.frozen?, hbk]
              simp only [Bool.and_eq_false_iff, decide_eq_false_iff_not]
              simp only at this
              by_cases h9 : f1 ≤ off + V.length * i.size + j
              · exact .inr (fun h2 => this ⟨h9, h2⟩)
              · exact .inl h9)
          rw [hsz] at hrun
          obtain ⟨cs', q1, q2, q3, q4, q5⟩ := setCells_facts b e' fr (flatV tail.length sz xs) (off + V.length * sz) cs w hbk (by rw [flatV_len]; omega)
          rw [flatV_len] at q4 q5
          have hst4 := hst.trans (hI3.world' (fun n => n = b) q2 (fun k hk => by rw [hk]; exact ⟨hbF2.1, hbF2.2.1, hbF2.2.2.1⟩))
          have hZk : ∀ m, Z3 m → (w.setCells b (off + V.length * sz) (flatV tail.length sz xs)).heap[m]? = w.heap[m]? := fun m hm => q2.block m (hI3.zlt m hm) (fun he => hbF2.1 (he ▸ hm))
          obtain ⟨F, hF, hFk⟩ := assemble (w := w.setCells b (off + V.length * sz) (flatV tail.length sz xs)) (Z := Z3) (L := L) (off := off) (c := c) (R1 := V) (R2 := tail) xs1 xs G1 G q1 (fun k hk => hfr k (by omega)) hroom (by omega) hmax hs1 hws
            (fun i j t hcell => ⟨by
                have hi1 := cellT_lt hcell
                have hj1 := cellT_wide hs1 hcell
                have : (i + 1) * sz ≤ V.length * sz := Nat.mul_le_mul_right _ hi1
                rw [Nat.add_mul] at this
                rw [q4 _ (by omega)]; exact hx1 i j t hcell,
              (ht1 i j t hcell).frame hZk (fun m hm => q2.block m (hF2 m (.inr ⟨i, j, hm⟩)).2.2.2 (fun he => hnb1 i j (he ▸ hm)))⟩)
            (fun i j t hcell => ⟨by
                have hi1 := cellT_lt hcell
                have hj1 := cellT_wide hws hcell
                have : (i + 1) * sz ≤ tail.length * sz := Nat.mul_le_mul_right _ hi1
                rw [Nat.add_mul] at this
                have h9 := q5 (i * sz + j) (by omega)
                rw [flatV_get hi1 hj1] at h9
                rw [← h9]; congr 1; rw [Nat.add_mul]; omega,
              (hL.ow i j t hcell).frame hZk (fun m hm => q2.block m (hL.free i j m hm).2.2.2 (fun he => hGb i j (he ▸ hm)))⟩)
            hG1 hL.none hnb1 hGb hd1 hL.dis (fun i j i' j' k h1 h2 => hdis i' j' k h2 (.inr ⟨i, j, h1⟩))
          obtain ⟨ρ', φ', h3, h4⟩ := append_done (d := d) (n := V.length + tail.length) h hst4 hF (fun k hk => by
            rcases hFk k hk with rfl | ⟨i, j, hk⟩ | ⟨i, j, hk⟩
            · exact ⟨hbF2.1, hbF2.2.1, hbF2.2.2.1⟩
            · have := hF2 k (.inr ⟨i, j, hk⟩); exact ⟨this.1, this.2.1, this.2.2.1⟩
            · have := hL.free i j k hk; exact ⟨this.1, this.2.1, this.2.2.1⟩) hb (by simp)
          exact ⟨_, _, ρ', φ', Z3, hrun, h3, h4⟩
        · -- a new block
          have hcap := grownCap_ge w (V.length + tail.length) c e
          have hmaxc := grownCap_le_maxLen w (V.length + tail.length) c e (by unfold maxLen; omega)
          have holds := flatV_cell hs1 hpos (Q := fun u k => w.cell? ((⟨b, off, none⟩ : Addr).add k) = some u) (xs := xs1) (fun i j t hcell => by rw [own_cell hbk]; exact hx1 i j t hcell)
          have hnext := nextslicecap_le (need := V.length + tail.length) (old := c) (by omega)
          have hrun := run_append_grow (P := P) w t ty e i z ht hi hz ⟨b, off, none⟩ V.length c (flatV V.length sz xs1) (by rw [flatV_len, hsz]) holds a0 tail.length c' (flatV tail.length sz xs) (by rw [flatV_len, hsz]) hnews (by omega) (by omega)
            (by
              rw [hby]
              have h1 := Nat.mul_le_mul_right bytes hnext
              rw [Nat.mul_assoc] at h1
              omega)
          obtain ⟨F, hF, hFk⟩ := fresh_node (w := w) (Z := Z3) (L := L) (sz := sz) (cap := grownCap w (V.length + tail.length) c e) (e := e) (R1 := V) (R2 := tail) (xs1 := xs1) (xs2 := xs) (G1 := G1) (G2 := G)
            (zs := Builtin.zeroCells z.cells (grownCap w (V.length + tail.length) c e - (V.length + tail.length))) hpos hs1 hws hcap hmaxc (by rw [zeroCells_size, hzs]) ht1 hL.ow hG1 hL.none
            (fun i j k hk => (hF2 k (.inr ⟨i, j, hk⟩)).2.2.2) (fun i j k hk => (hL.free i j k hk).2.2.2) (fun k hk => hI3.zlt k hk) hd1 hL.dis (fun i j i' j' k h1 h2 => hdis i' j' k h2 (.inr ⟨i, j, h1⟩))
          have hst4 := hst.trans (hI3.world (grown_keep w ((flatV V.length sz xs1).toArray ++ (flatV tail.length sz xs).toArray ++ Builtin.zeroCells z.cells (grownCap w (V.length + tail.length) c e - (V.length + tail.length))) e))
          obtain ⟨ρ', φ', h3, h4⟩ := append_done (d := d) (n := V.length + tail.length) h hst4 hF (fun k hk => by
            rcases hFk k hk with rfl | ⟨i, j, hk⟩ | ⟨i, j, hk⟩
            · exact ⟨fun hz => Nat.lt_irrefl _ (hI3.zlt _ hz), fun o' ho => Nat.lt_irrefl _ (hI3.lt o' _ ho), fun hlt => absurd hlt (Nat.not_lt.2 h.keep.size)⟩
            · have := hF2 k (.inr ⟨i, j, hk⟩); exact ⟨this.1, this.2.1, this.2.2.1⟩
            · have := hL.free i j k hk; exact ⟨this.1, this.2.1, this.2.2.1⟩) hb (by simp)
          exact ⟨_, _, ρ', φ', Z3, hrun, h3, h4⟩
end Go.Proofs.YtipfcgbhaalcdaaGreat.Abs
namespace Go.Proofs.YtipfcgbhaalcdaaGreat.Abs
open Go
set_option linter.unusedVariables false
set_option linter.unusedSimpArgs false
variable {P : Program} {E : Env} {w0 : World} {A : Fp} {ob : Objs} {w : World} {ρ : Nat → Value} {φ : Nat → Fp} {Z : Fp} {sl : Slots} {a : Act}

theorem mk_run {d : Nat} {c : Cont} {k : Nat → AV} {ss : List (Nat × Ob)} {out : Out} (h : (mk d c k ss).run ob = some out) :
    out = ⟨k ((ob d).birth + 1), ss ++ [(d, ⟨(ob d).birth + 1, 0, false, c⟩)]⟩ := by
  simp only [mk, Rd.run, Option.some.injEq] at h; exact h.symm

theorem append_sound (h : OInv w0 A ob w ρ φ Z) {t ty e : TypeId} {i : TypeInfo} {z : Value} (ht : P.underlying t = some (.slice e)) (hi : P.info? e = some i) (hz : i.zero = some z) {sz : Nat} (hsz : i.size = sz) (hzs : z.cells.size = sz) {ti : TyI} (hby : i.bytes = ti.bytes)
    {d : Nat} {s x : AV} {sv xv : Value} (hs : AVR w ob ρ s sv) (hx : AVR w ob ρ x xv) {out : Out} (hr : (exAppend E d ti sz s x).run ob = some out) :
    ∃ v' w' ρ' φ' Z', (Builtin.append_ #[t, t] ty #[sv, xv]).run P w = .ok v' w' ∧ Step w0 A ob w ρ (upds ob out.sets) w' ρ' φ' Z' ∧ AVR w' (upds ob out.sets) ρ' out.v v' := by
  unfold exAppend at hr
  obtain ⟨tail, lv, ss, hk, hss, htail⟩ := tail_sound h hx hr
  clear hr
  split at hk
  · rename_i hw
    obtain ⟨hw, hpos⟩ := hw
    split at hk
    · rename_i sz'
      split at hk
      · rename_i hlim
        have hout := mk_run hk
        subst hout
        obtain ⟨φ2, Z2, xs, G, h1, h2, h3⟩ := htail sz lv hw (Nat.le_refl _)
        cases hs
        have hb := upds_birth ob ss (fun q hq => (hss q hq).2) d
        obtain ⟨v', w', ρ', φ', Z', r1, r2, r3⟩ := append_nl (ty := ty) h ht hi hz hsz hzs hby hpos (d := d) (lv := lv) hw hlim h1 h2 h3 hb
        refine ⟨v', w', ρ', φ', Z', r1, ?_, ?_⟩
        · rw [upds_append]; exact r2
        · rw [upds_append]; exact r3
      · simp [Rd.run] at hk
    · rename_i o b g p sz' lo len
      obtain ⟨lvl, t', sz2, rows, hc, hv, hat, hk'⟩ := look_run (k := fun ob lvl t sz rows => _) hk
      clear hk
      split at hk'
      · rename_i hcond
        obtain ⟨hpl, hlim, hsz2, hnot⟩ := hcond
        subst hsz2
        have hout := mk_run hk'
        subst hout
        have hlv : min (lvl - p.length) (lv + 1) = min (lvl - p.length) (lv + 1) - 1 + 1 := by omega
        generalize hLdef : min (lvl - p.length) (lv + 1) - 1 = L at hlv
        obtain ⟨φ2, Z2, xs, G, h1, h2, h3⟩ := htail sz2 L hw (by omega)
        have hob2 : upds ob ss o = ob o := by
          rcases hnot with hnot | hnot
          · exact upds_not _ _ _ (fun q hq he => by
              have := (hss q hq).1
              unfold notOb at this hnot
              split at hnot
              · rename_i o9 _ _ _ _ _ _
                simp only at this
                rw [he] at this
                rw [this] at hnot; cases hnot
              · simp at this)
          · have : ss = [] := by cases ss with
              | nil => rfl
              | cons _ _ => cases hnot
            rw [this]; rfl
        have hs2 := h1.same _ _ hs
        obtain ⟨φ3, Z3, F2, k1, k2, k3, k4, k5, k6, k7, k8⟩ := take_old h1.inv (lvl := lvl) (t := t') (sz := sz2) (rows := rows) (L := L) hs2 (by rw [hob2]; exact hc) (by rw [hob2]; exact hv) hat hpl (by omega)
        rw [hob2] at k1
        have hst := h1.trans k1
        have hL3 : Loose w0 A w φ3 Z3 L tail xs G := ⟨fun i j t hc => (h3.ow i j t hc).monoZ k2, h3.none, fun i j k hk => by
          obtain ⟨f1, f2, f3, f4⟩ := h3.free i j k hk
          exact ⟨fun hz => (k6 k hz).elim f1 (f2 o), fun o' ho' => f2 o' (k8 o' k ho'), f3, f4⟩, h3.dis, h3.one⟩
        have hb : (upd (upds ob ss) o { ob o with sver := (ob o).sver + 1, dirty := true, c := if p = [] then .dead else .tree lvl (t'.put p .hole) } d).birth = (ob d).birth := by
          by_cases he : d = o
          · subst he; rw [upd_same]
          · rw [upd_ne _ _ he]; exact upds_birth ob ss (fun q hq => (hss q hq).2) d
        have hlen := drop_take_len k3
        obtain ⟨v', w', ρ', φ', Z', r1, r2, r3⟩ := append_own (ty := ty) h ht hi hz hsz hzs hby hpos (d := d) (V := (rows.drop lo).take len) hw (by rw [hlen]; exact hlim) hst h2 hL3 k4 k5 (fun i j k hk hf => (h3.free i j k hk).2.1 o (k7 k hf)) hb
        rw [hlen] at r3
        refine ⟨v', w', ρ', φ', Z', r1, ?_, ?_⟩
        · rw [upds_append, upds_append, hlv]; exact r2
        · rw [upds_append, upds_append, hlv]; exact r3
      · simp [Rd.run] at hk'
    · simp [Rd.run] at hk
  · simp [Rd.run] at hk
end Go.Proofs.YtipfcgbhaalcdaaGreat.Abs
namespace Go.Proofs.YtipfcgbhaalcdaaGreat.Abs
open Go
set_option linter.unusedVariables false
set_option linter.unusedSimpArgs false
variable {P : Program} {E : Env} {w0 : World} {A : Fp} {ob : Objs} {w : World} {ρ : Nat → Value} {φ : Nat → Fp} {Z : Fp} {sl : Slots} {a : Act}

def Snd (P : Program) (w0 : World) (A : Fp) (ob : Objs) (w : World) (ρ : Nat → Value) (o : Oper) (a : Act) (out : Out) : Prop :=
  OpSound P o a w (Done w0 A ob w ρ out)

theorem snd_val (h : OInv w0 A ob w ρ φ Z) {o : Oper} {x : AV} {v : Value} (hr : (execOp a.eval o).run P w = .ok (.value v) w) (hx : AVR w ob ρ x v) : Snd P w0 A ob w ρ o a ⟨x, []⟩ :=
  opSound_value hr (done_val h hx)
theorem exec_v {o : Oper} {f : Operand → Value} {s : Sem Value} {v : Value} {w' : World} (h : execOp f o = (do pure (.value (← s)) : Sem Next)) (hs : s.run P w = .ok v w') : (execOp f o).run P w = .ok (.value v) w' := by
  rw [h]; simp [Sem.run_bind, hs, Sem.run, Result.andThen, pure]

theorem val_out {x : AV} {out : Out} (h : (val x).run ob = some out) : out = ⟨x, []⟩ := by simp only [val, Rd.run, Option.some.injEq] at h; exact h.symm
theorem opt_out {x : Option AV} {out : Out} (h : (opt x).run ob = some out) : ∃ y, x = some y ∧ out = ⟨y, []⟩ := by
  cases x with
  | none => simp [opt, Rd.run] at h
  | some y => simp only [opt, Rd.run, Option.some.injEq] at h; exact ⟨y, rfl, h.symm⟩

theorem snd_move (h : OInv w0 A ob w ρ φ Z) (hsl : ∀ n, AVR w ob ρ (sl n) (a.tmps.getD n undef)) {o : Oper} {x : Operand} (ho : o.op = .move x ∨ o.op = .assign x) : Snd P w0 A ob w ρ o a ⟨evT E sl o.type x, []⟩ := by
  refine snd_val h ?_ (evT_sound hsl o.type x)
  rcases ho with ho | ho <;> simp [execOp, ho, Sem.run, pure]

theorem snd_pick (h : OInv w0 A ob w ρ φ Z) (hsl : ∀ n, AVR w ob ρ (sl n) (a.tmps.getD n undef)) {o : Oper} {c x y : Operand} {t : Bool} (ho : o.op = .pick c x y) (hc : ev sl c = .s (.bool t)) :
    Snd P w0 A ob w ρ o a ⟨if t then ev sl x else ev sl y, []⟩ := by
  have h1 := ev_sound (a := a) hsl c
  rw [hc] at h1
  have h2 : a.eval c = .bool t := by
    generalize a.eval c = v at h1
    cases h1; rfl
  refine snd_val (v := if t then a.eval x else a.eval y) h ?_ ?_
  · simp only [execOp, ho, h2, asBool, Sem.run_bind]
    cases t <;> simp [Sem.run, Result.andThen, pure]
  · cases t
    · simpa using ev_sound (a := a) hsl y
    · simpa using ev_sound (a := a) hsl x

theorem newBox_sound (h : OInv w0 A ob w ρ φ Z) (d : Nat) (l : List AV) (cs : Array Value) (e : TypeId) (hl : l.length = cs.size) (hc : ∀ i x, l[i]? = some x → AVR w ob ρ x (cs.getD i undef)) {out : Out}
    (hr : (mk d (.box l) (fun b => .pt d b 0 [] 0 0) []).run ob = some out) : Done w0 A ob w ρ out (.pointer (some ⟨w.heap.size, 0, none⟩)) (push w cs e) := by
  have := mk_run hr
  subst this
  have hst := h.newBox d l cs e hl hc
  refine ⟨_, _, _, by simpa [upds] using hst, ?_⟩
  simp only [List.nil_append, upds]
  refine .pt ⟨by rw [upd_same]; exact Nat.le_refl _, fun _ hp => (hp rfl).elim⟩ ⟨_, rfl⟩ fun _ => ⟨fun lvl t hc => ?_, fun cells hc _ => ?_⟩
  · rw [upd_same] at hc; cases hc
  · exact ⟨w.heap.size, by rw [upd_same], by simp [Addr.add]⟩

theorem zero_cells {t : TypeId} {ti : TyI} (hT : TyOk P t ti) : ∃ i z, P.info? t = some i ∧ i.zero = some z ∧ i.size = ti.cells.length ∧ z.cells.size = ti.cells.length ∧ ∀ (w : World) (ob : Objs) (ρ : Nat → Value) k x, ti.cells[k]? = some x → AVR w ob ρ x (z.cells.getD k undef) := by
  obtain ⟨i, z, h1, h2, h3, h4, h5⟩ := hT.info
  refine ⟨i, z, h1, h2, h3, h4, fun w ob ρ k x hk => ?_⟩
  rcases h5 k x hk with ⟨y, rfl, hs, he⟩ | ⟨n, rfl, he⟩
  · rw [he]; exact .s hs
  · rw [he]; exact .nl

theorem snd_alloc (h : OInv w0 A ob w ρ φ Z) {o : Oper} {t : TypeId} {ti : TyI} (hT : TyOk P t ti) (ho : o.op = .alloc t) {out : Out} (hr : (mk (o.dst.getD 0) (.box ti.cells) (fun b => .pt (o.dst.getD 0) b 0 [] 0 0) []).run ob = some out) :
    Snd P w0 A ob w ρ o a out := by
  obtain ⟨i, z, h1, h2, h3, h4, h5⟩ := zero_cells hT
  refine opSound_value (exec_v (s := Instr.alloc t true (.tuple #[])) (by simp [execOp, ho]) (v := .pointer (some ⟨w.heap.size, 0, none⟩)) (w' := push w z.cells t) ?_) (newBox_sound h _ _ _ t h4.symm (h5 w ob ρ) hr)
  simp [Instr.alloc, Sem.run_bind, zeroValue, typeInfo, h1, h2, Sem.run, Result.andThen, newVar, newRow, newObj, pure, push]

theorem snd_box (h : OInv w0 A ob w ρ φ Z) (hsl : ∀ n, AVR w ob ρ (sl n) (a.tmps.getD n undef)) {o : Oper} {t : TypeId} {x : Operand} {l : List AV} (ho : o.op = .box t x) (hl : (evT E sl t x).cells? = some l) {out : Out}
    (hr : (mk (o.dst.getD 0) (.box l) (fun b => .pt (o.dst.getD 0) b 0 [] 0 0) []).run ob = some out) : Snd P w0 A ob w ρ o a out := by
  obtain ⟨h1, h2⟩ := cells_sound hl (evT_sound (E := E) hsl t x)
  refine opSound_value (exec_v (s := Instr.box t (a.eval x)) (by simp [execOp, ho]) (v := .pointer (some ⟨w.heap.size, 0, none⟩)) (w' := push w (a.eval x).cells t) ?_) (newBox_sound h _ _ _ t h1 h2 hr)
  simp [Instr.box, Sem.run_bind, Sem.run, Result.andThen, newVar, newRow, newObj, pure, push]

theorem snd_load (h : OInv w0 A ob w ρ φ Z) (hsl : ∀ n, AVR w ob ρ (sl n) (a.tmps.getD n undef)) {o : Oper} {t : TypeId} {ti : TyI} (hT : TyOk P t ti) {x : Operand} (ho : o.op = .load t x) {out : Out} (hr : (exLoad E ti (ev sl x)).run ob = some out) :
    Snd P w0 A ob w ρ o a out := by
  obtain ⟨v, h1, h2, h3⟩ := load_sound hT h (ev_sound (a := a) hsl x) hr
  obtain ⟨ov, os⟩ := out
  simp only at h2 h3
  subst h2
  exact snd_val h (exec_v (s := Instr.loadAt t (a.eval x)) (by simp [execOp, ho]) h1) h3

theorem snd_nilCheck (h : OInv w0 A ob w ρ φ Z) (hsl : ∀ n, AVR w ob ρ (sl n) (a.tmps.getD n undef)) {o : Oper} {x : Operand} (ho : o.op = .nilCheck x) {q b g i j : Nat} {p : List (Nat × Nat)} (hx : ev sl x = .pt q b g p i j) :
    Snd P w0 A ob w ρ o a ⟨.pt q b g p i j, []⟩ := by
  have h1 := ev_sound (a := a) hsl x
  rw [hx] at h1
  refine snd_val (v := a.eval x) h ?_ h1
  obtain ⟨y, hy⟩ : ∃ y, a.eval x = .pointer (some y) := by
    generalize a.eval x = v at h1
    cases h1 with | pt _ hs _ => exact hs
  simp [execOp, ho, hy, Sem.run, pure]
end Go.Proofs.YtipfcgbhaalcdaaGreat.Abs
namespace Go.Proofs.YtipfcgbhaalcdaaGreat.Abs
open Go
set_option linter.unusedVariables false
set_option linter.unusedSimpArgs false
variable {P : Program} {E : Env} {w0 : World} {A : Fp} {ob : Objs} {w : World} {ρ : Nat → Value} {φ : Nat → Fp} {Z : Fp} {sl : Slots} {a : Act}

theorem ev_s (hsl : ∀ n, AVR w ob ρ (sl n) (a.tmps.getD n undef)) {x : Operand} {v : Value} (h : ev sl x = .s v) : a.eval x = v ∧ scalar v = true := by
  have h1 := ev_sound (a := a) hsl x
  rw [h] at h1
  generalize a.eval x = y at h1
  cases h1 with | s hs => exact ⟨rfl, hs⟩

theorem snd_scalar (h : OInv w0 A ob w ρ φ Z) {o : Oper} {v : Value} (hs : scalar v = true) (hr : (execOp a.eval o).run P w = .ok (.value v) w) : Snd P w0 A ob w ρ o a ⟨.s v, []⟩ := snd_val h hr (.s hs)

theorem snd_field (h : OInv w0 A ob w ρ φ Z) (hsl : ∀ n, AVR w ob ρ (sl n) (a.tmps.getD n undef)) {o : Oper} {t : TypeId} {ti : TyI} (hT : TyOk P t ti) {x : Operand} {f : Nat} (ho : o.op = .fieldAddr t x f) {q b g i j : Nat} {p : List (Nat × Nat)} (hx : ev sl x = .pt q b g p i j)
    {k : Nat × Nat} (hk : ti.offs[f]? = some k) : Snd P w0 A ob w ρ o a ⟨.pt q b g p i (j + k.1), []⟩ := by
  have h1 := ev_sound (a := a) hsl x
  rw [hx] at h1
  obtain ⟨fields, fd, fi, e1, e2, e3, e4, e5, e6⟩ := hT.offs f k hk
  obtain ⟨y, hy⟩ : ∃ y, a.eval x = .pointer (some y) := by
    generalize a.eval x = v at h1
    cases h1 with | pt _ hs _ => exact hs
  rw [hy] at h1
  refine snd_val (v := .pointer (some (y.add k.1))) h (exec_v (s := Instr.fieldAt t (a.eval x) f) (by simp [execOp, ho]) ?_) ?_
  · rw [hy]
    have e6' : ¬ fi.size = 0 := by omega
    simp [Instr.fieldAt, Sem.run_bind, underlying, e1, e2, Instr.sureAddr, fieldPlace, sizeOf, typeInfo, e4, e6', e3, Sem.run, Result.andThen, pure]
  · cases h1 with
    | pt hb hs hv =>
      refine .pt hb ⟨_, rfl⟩ fun hval => ⟨fun lvl t hc => ?_, fun cells hc hp => ?_⟩
      · obtain ⟨a0, n, c, sz, rows, hA, hi, he⟩ := (hv hval).1 lvl t hc
        cases he
        exact ⟨a0, n, c, sz, rows, hA, hi, by rw [add_add, Nat.add_assoc]⟩
      · obtain ⟨b', hρ, he⟩ := (hv hval).2 cells hc hp
        cases he
        exact ⟨b', hρ, by rw [add_add]⟩

theorem snd_index (h : OInv w0 A ob w ρ φ Z) (hsl : ∀ n, AVR w ob ρ (sl n) (a.tmps.getD n undef)) {o : Oper} {t : TypeId} {ti : TyI} (hT : TyOk P t ti) {x ix : Operand} (ho : o.op = .indexAddr t x ix) {q b g sz l n : Nat} {p : List (Nat × Nat)} (hx : ev sl x = .h q b g p sz l n)
    {k : IntKind} {i : Int} (hi : ev sl ix = .s (.int k i)) (h0 : 0 ≤ i) (hn : i < n) (hsz : sz = ti.esz) {e : TypeId} (he : ti.elem = some e) : Snd P w0 A ob w ρ o a ⟨.pt q b g p (l + i.toNat) 0, []⟩ := by
  have h1 := ev_sound (a := a) hsl x
  rw [hx] at h1
  obtain ⟨h2, _⟩ := ev_s hsl hi
  obtain ⟨e1, ei, e2, e3, _⟩ := hT.elem e he
  obtain ⟨y, c, hy, hnc⟩ : ∃ y c, a.eval x = .slice (some y) n c ∧ n ≤ c := by
    generalize a.eval x = v at h1
    cases h1 with
    | h _ hs _ =>
      obtain ⟨ao, c, rfl, h3, h4⟩ := hs
      cases ao with
      | none => have := h4 rfl; omega
      | some y => exact ⟨y, c, rfl, h3⟩
  rw [hy] at h1
  refine snd_val (v := .pointer (some (y.add (i.toNat * ti.esz)))) h (exec_v (s := Instr.indexAt t (a.eval x) (a.eval ix)) (by simp [execOp, ho]) ?_) ?_
  · rw [hy, h2]
    simp [Instr.indexAt, Sem.run_bind, underlying, e1, asIntOf, sizeOf, typeInfo, e2, e3, h0, hn, Sem.run, Result.andThen, pure]
  · cases h1 with
    | h hb hs hv =>
      refine .pt hb ⟨_, rfl⟩ fun hval => ⟨fun lvl t hc => ?_, fun cells hc hp => ?_⟩
      · obtain ⟨v', rows, hA, hle, hvw⟩ := (hv hval).2 lvl t hc
        rcases hvw with ⟨_, _, h5, _⟩ | ⟨a0, n0, c0, q0, c', rfl, h5, h6, h7, h8, h9⟩
        · omega
        · cases h5
          obtain rfl := h9 (by omega)
          exact ⟨a0, n0, c0, sz, rows, hA, by omega, by rw [add_add, hsz, Nat.add_zero, Nat.add_mul]⟩
      · exact ((hv hval).1 cells hc).elim
end Go.Proofs.YtipfcgbhaalcdaaGreat.Abs
namespace Go.Proofs.YtipfcgbhaalcdaaGreat.Abs
open Go
set_option linter.unusedVariables false
set_option linter.unusedSimpArgs false
variable {P : Program} {E : Env} {w0 : World} {A : Fp} {ob : Objs} {w : World} {ρ : Nat → Value} {φ : Nat → Fp} {Z : Fp} {sl : Slots} {a : Act}

theorem bin_str {op : BinOp} {m n : ByteArray} {x : Value} (h : binStr op m n = some x) (t : TypeId) (xo yo : Operand) :
    (do eqGuard op t xo yo (.string m) (.string n); binOp op t (.string m) (.string n) : Sem Value).run P w = .ok x w ∧ scalar x = true := by
  cases op <;> simp only [binStr] at h <;> first
    | (simp at h; done)
    | (split at h
       case isFalse => (simp at h; done)
       rename_i hl
       simp only [Option.some.injEq] at h; subst h
       have h2 : ¬ (((m.size + n.size : Nat) : Int) > IntKind.i64.max) := by simp [IntKind.max, IntKind.bits, IntKind.signed]; omega
       refine ⟨?_, rfl⟩
       simp only [eqGuard, binOp, Op.stringOp, if_neg h2]
       simp [Bind.bind, Sem.bind, Sem.run, pure]; done)
    | (simp only [Option.some.injEq] at h; subst h; refine ⟨?_, rfl⟩; simp [eqGuard, binOp, Op.stringOp, Bind.bind, Sem.bind, Sem.run, pure]; done)
    | skip
theorem equalIn_bool (d : Nat) (p q : Bool) (t : TypeId) (ht : P.underlying t = some .bool) : (Op.equalIn (d + 1) t (.bool p) (.bool q)).run P w = .ok (p == q) w := by
  rw [Op.equalIn]; simp [underlying, ht, Sem.run_bind, Sem.run, Result.andThen, pure]
theorem bin_bool (p q : Bool) (t : TypeId) (ht : P.underlying t = some .bool) (xo yo : Operand) :
    (do eqGuard .eql t xo yo (.bool p) (.bool q); binOp .eql t (.bool p) (.bool q) : Sem Value).run P w = .ok (.bool (p == q)) w ∧
    (do eqGuard .neq t xo yo (.bool p) (.bool q); binOp .neq t (.bool p) (.bool q) : Sem Value).run P w = .ok (.bool (!(p == q))) w := by
  have h1 := equalIn_bool (P := P) (w := w) 9999 p q t ht
  have h2 : (Op.equal t (.bool p) (.bool q)).run P w = .ok (p == q) w := h1
  constructor <;> simp [eqGuard, binOp, h2, Sem.run_bind, Sem.run, Result.andThen, pure]

theorem exec_bin {o : Oper} {op : BinOp} {t : TypeId} {x y : Operand} {yt : TypeId} (ho : o.op = .binOp op t x y yt) (f : Operand → Value) :
    execOp f o = (do pure (.value (← (do eqGuard op t x y (f x) (f y); binOp op t (f x) (f y) : Sem Value))) : Sem Next) := by simp [execOp, ho]

theorem snd_not (h : OInv w0 A ob w ρ φ Z) (hsl : ∀ n, AVR w ob ρ (sl n) (a.tmps.getD n undef)) {o : Oper} {t : TypeId} {x : Operand} (ho : o.op = .unOp .not t x) {b : Bool} (hx : ev sl x = .s (.bool b)) :
    Snd P w0 A ob w ρ o a ⟨.s (.bool (!b)), []⟩ := by
  obtain ⟨h1, _⟩ := ev_s hsl hx
  exact snd_scalar h rfl (exec_v (s := Op.unary .not (a.eval x)) (by simp [execOp, ho]) (by rw [h1]; simp [Op.unary, Sem.run, pure]))
theorem snd_neg (h : OInv w0 A ob w ρ φ Z) (hsl : ∀ n, AVR w ob ρ (sl n) (a.tmps.getD n undef)) {o : Oper} {t : TypeId} {x : Operand} (ho : o.op = .unOp .neg t x) {k : IntKind} {n : Int} (hx : ev sl x = .s (.int k n)) :
    Snd P w0 A ob w ρ o a ⟨.s (.int k (k.wrap (0 - n))), []⟩ := by
  obtain ⟨h1, _⟩ := ev_s hsl hx
  exact snd_scalar h rfl (exec_v (s := Op.unary .neg (a.eval x)) (by simp [execOp, ho]) (by rw [h1]; simp [Op.unary, Op.intArith, Sem.run, pure]))
theorem snd_binInt (h : OInv w0 A ob w ρ φ Z) (hsl : ∀ n, AVR w ob ρ (sl n) (a.tmps.getD n undef)) {o : Oper} {op : BinOp} {t yt : TypeId} {x y : Operand} (ho : o.op = .binOp op t x y yt) {k : IntKind} {m n : Int} (hx : ev sl x = .s (.int k m)) (hy : ev sl y = .s (.int k n))
    {v : Value} (hv : binInt op k m n = some v) : Snd P w0 A ob w ρ o a ⟨.s v, []⟩ := by
  obtain ⟨h1, _⟩ := ev_s hsl hx
  obtain ⟨h2, _⟩ := ev_s hsl hy
  obtain ⟨h3, h4⟩ := bin_int (P := P) (w := w) hv t x y
  exact snd_scalar h h4 (exec_v (exec_bin ho a.eval) (by rw [h1, h2]; exact h3))

theorem snd_extract (h : OInv w0 A ob w ρ φ Z) (hsl : ∀ n, AVR w ob ρ (sl n) (a.tmps.getD n undef)) {o : Oper} {t : Operand} {i : Nat} (ho : o.op = .extract t i) {l : List AV} (hx : ev sl t = .tu l) {y : AV} (hy : l[i]? = some y) : Snd P w0 A ob w ρ o a ⟨y, []⟩ := by
  have h1 := ev_sound (a := a) hsl t
  rw [hx] at h1
  generalize hq : a.eval t = v at h1
  cases h1 with
  | @tu l cs hl hc =>
    have hlt : i < cs.size := by have := (List.getElem?_eq_some_iff.1 hy).1; omega
    refine snd_val h (exec_v (s := Instr.extract (a.eval t) i) (by simp [execOp, ho]) (v := cs.getD i undef) ?_) (hc i y hy)
    rw [hq]
    simp [Instr.extract, hlt, Sem.run, pure, Array.getD]

theorem snd_len (h : OInv w0 A ob w ρ φ Z) (hsl : ∀ n, AVR w ob ρ (sl n) (a.tmps.getD n undef)) {o : Oper} {c : Call} (ho : o.op = .call c) (hcal : c.callee = .builtin .len) {x : Operand} (hargs : c.args.toList = [x]) {t : TypeId} (hts : c.argTypes.toList = [t]) {ti : TyI} (hT : TyOk P t ti) {n : Nat}
    (hx : ((∃ q b g p sz l, ev sl x = .h q b g p sz l n) ∧ ti.elem.isSome = true) ∨ ((∃ sz, ev sl x = .nl sz) ∧ n = 0 ∧ ti.elem.isSome = true) ∨ (∃ s, ev sl x = .s (.string s) ∧ n = s.size ∧ isStr ti = true)) : Snd P w0 A ob w ρ o a ⟨.s (.int .i64 n), []⟩ := by
  have h1 := ev_sound (a := a) hsl x
  have ha : c.args = #[x] := by rw [← Array.toList_inj]; simpa using hargs
  have ht : c.argTypes = #[t] := by rw [← Array.toList_inj]; simpa using hts
  refine snd_scalar h rfl ?_
  have key : ∀ (v : Value), a.eval x = v → (Builtin.len_ #[t] o.type #[v]).run P w = .ok (.int .i64 n) w → (execOp a.eval o).run P w = .ok (.value (.int .i64 n)) w := by
    intro v hv hr
    simp [execOp, ho, resolve, hcal, ha, ht, hv, Sem.run_bind, Sem.run, Result.andThen, pure, invoke, builtin, hr]
  have hsli : ti.elem.isSome = true → ∃ e, P.underlying t = some (.slice e) := fun hs => by
    obtain ⟨e, he⟩ := Option.isSome_iff_exists.1 hs
    exact ⟨e, (hT.elem e he).1⟩
  rcases hx with ⟨⟨q, b, g, p, sz, l, hx⟩, hs⟩ | ⟨⟨sz, hx⟩, rfl, hs⟩ | ⟨s, hx, rfl, hs⟩
  · obtain ⟨e, he⟩ := hsli hs
    rw [hx] at h1
    generalize hq : a.eval x = v at h1
    cases h1 with
    | h _ hs _ => obtain ⟨ao, c', rfl, _⟩ := hs; exact key _ hq (by simp [Builtin.len_, underlying, he, Sem.run_bind, Sem.run, Result.andThen, pure, goInt])
  · obtain ⟨e, he⟩ := hsli hs
    rw [hx] at h1
    generalize hq : a.eval x = v at h1
    cases h1; exact key _ hq (by simp [Builtin.len_, underlying, he, Sem.run_bind, Sem.run, Result.andThen, pure, goInt])
  · have hst : P.underlying t = some .string := by
      unfold isStr at hs
      split at hs
      · rename_i s' hc; exact hT.str s' hc
      · cases hs
    rw [hx] at h1
    generalize hq : a.eval x = v at h1
    cases h1; exact key _ hq (by simp [Builtin.len_, underlying, hst, Sem.run_bind, Sem.run, Result.andThen, pure, goInt])

theorem snd_append (h : OInv w0 A ob w ρ φ Z) (hsl : ∀ n, AVR w ob ρ (sl n) (a.tmps.getD n undef)) {o : Oper} {c : Call} (ho : o.op = .call c) (hcal : c.callee = .builtin .append) {s x : Operand} (hargs : c.args.toList = [s, x]) {t : TypeId} (hts : c.argTypes.toList = [t, t])
    {ti i : TyI} (hT : TyOk P t ti) {e : TypeId} (he : ti.elem = some e) (hTe : TyOk P e i) {d : Nat} {out : Out} (hr : (exAppend E d { i with bytes := ti.bytes } i.cells.length (ev sl s) (ev sl x)).run ob = some out) : Snd P w0 A ob w ρ o a out := by
  obtain ⟨e1, ei, e2, e3, e4⟩ := hT.elem e he
  obtain ⟨i', z, f1, f2, f3, f4, _⟩ := hTe.info
  rw [e2] at f1
  cases f1
  obtain ⟨v', w', ρ', φ', Z', r1, r2, r3⟩ := append_sound (ty := o.type) h e1 e2 f2 f3 f4 (ti := { i with bytes := ti.bytes }) e4 (ev_sound (a := a) hsl s) (ev_sound (a := a) hsl x) hr
  have ha : c.args = #[s, x] := by rw [← Array.toList_inj]; simpa using hargs
  have ht : c.argTypes = #[t, t] := by rw [← Array.toList_inj]; simpa using hts
  refine opSound_value (v := v') (w' := w') ?_ ⟨ρ', φ', Z', r2, r3⟩
  simp [execOp, ho, resolve, hcal, ha, ht, Sem.run_bind, Sem.run, Result.andThen, pure, invoke, builtin, r1]
end Go.Proofs.YtipfcgbhaalcdaaGreat.Abs
namespace Go.Proofs.YtipfcgbhaalcdaaGreat.Abs
open Go
set_option linter.unusedVariables false
set_option linter.unusedSimpArgs false
variable {P : Program} {E : Env} {w0 : World} {A : Fp} {ob : Objs} {w : World} {ρ : Nat → Value} {φ : Nat → Fp} {Z : Fp} {sl : Slots} {a : Act}

theorem view_cut {sz lo n l hh : Nat} {v x : Value} (hv : View sz v lo n x) (h1 : l ≤ hh) (h2 : hh ≤ n) :
    ∃ ao c', x = .slice ao n c' ∧ View sz v (lo + l) (hh - l) (.slice (if c' = l then ao else ao.map (·.add (l * sz))) (hh - l) (c' - l)) := by
  rcases hv with ⟨rfl, rfl, rfl, rfl⟩ | ⟨a, n0, c, q, c', rfl, rfl, h3, h4, h5, h6⟩
  · obtain rfl : hh = 0 := by omega
    obtain rfl : l = 0 := by omega
    exact ⟨none, 0, rfl, .inl ⟨rfl, rfl, rfl, by simp⟩⟩
  · refine ⟨some (a.add (q * sz)), c', rfl, .inr ⟨a, n0, c, if c' = l then q else q + l, c' - l, rfl, ?_, by omega, by omega, ?_, ?_⟩⟩
    · by_cases he : c' = l
      · simp [he]
      · simp only [he, if_false, Option.map_some, add_add, Nat.add_mul]
    · split <;> omega
    · intro hc
      have : ¬ c' = l := by omega
      rw [if_neg this]
      have := h6 (by omega)
      omega

theorem cut_avr {o b g sz lo n l hh : Nat} {p : List (Nat × Nat)} {x : Value} (hx : AVR w ob ρ (.h o b g p sz lo n) x) (h1 : l ≤ hh) (h2 : hh ≤ n) :
    ∃ ao c', x = .slice ao n c' ∧ n ≤ c' ∧ AVR w ob ρ (.h o b g p sz (lo + l) (hh - l)) (.slice (if c' = l then ao else ao.map (·.add (l * sz))) (hh - l) (c' - l)) := by
  cases hx with
  | h hb hs hv =>
    obtain ⟨ao, c', rfl, h3, h4⟩ := hs
    refine ⟨ao, c', rfl, h3, .h hb ⟨_, _, rfl, by omega, fun hn => ?_⟩ fun hval => ⟨(hv hval).1, fun lvl t hc => ?_⟩⟩
    · by_cases he : c' = l
      · omega
      · rw [if_neg he] at hn
        cases ao with
        | none => have := h4 rfl; omega
        | some y => cases hn
    · obtain ⟨v', rows, hA, hle, hvw⟩ := (hv hval).2 lvl t hc
      obtain ⟨ao2, c2, e, hv2⟩ := view_cut hvw h1 h2
      cases e
      exact ⟨v', rows, hA, by omega, hv2⟩

theorem snd_slice (h : OInv w0 A ob w ρ φ Z) (hsl : ∀ n, AVR w ob ρ (sl n) (a.tmps.getD n undef)) {o : Oper} {t : TypeId} {ti : TyI} (hT : TyOk P t ti) {x : Operand} {lo hi : Option Operand} (ho : o.op = .slice t x lo hi none)
    {q b g sz l n : Nat} {p : List (Nat × Nat)} (hx : ev sl x = .h q b g p sz l n) {m k : Nat} (hlo : (lo = none ∧ m = 0) ∨ ∃ y kk, lo = some y ∧ ev sl y = .s (.int kk m)) (hhi : (hi = none ∧ k = n) ∨ ∃ y kk, hi = some y ∧ ev sl y = .s (.int kk k))
    (hmk : m ≤ k) (hkn : k ≤ n) (hel : ti.elem.isSome = true) (hsz : ti.esz = sz) : Snd P w0 A ob w ρ o a ⟨.h q b g p sz (l + m) (k - m), []⟩ := by
  have h1 := ev_sound (a := a) hsl x
  rw [hx] at h1
  obtain ⟨e, he⟩ := Option.isSome_iff_exists.1 hel
  obtain ⟨e1, ei, e2, e3, _⟩ := hT.elem e he
  obtain ⟨ao, c', hxx, hnc, hr⟩ := cut_avr h1 hmk hkn
  refine snd_val h (exec_v (s := Instr.sliceAt t (a.eval x) (lo.map a.eval) (hi.map a.eval) none) (by simp [execOp, ho]) ?_) hr
  rw [hxx]
  have b1 : (0 : Int) ≤ (k : Int) := Int.natCast_nonneg _
  have b2 : (k : Int) ≤ (c' : Int) := by omega
  have b3 : (0 : Int) ≤ (m : Int) := Int.natCast_nonneg _
  have b4 : (m : Int) ≤ (k : Int) := by omega
  have hbounds : (Instr.sliceBounds true n c' (lo.map a.eval) (hi.map a.eval) none).run P w = .ok (m, k, c') w := by
    rcases hlo with ⟨rfl, rfl⟩ | ⟨y, kk, rfl, hy⟩
    · rcases hhi with ⟨rfl, rfl⟩ | ⟨y2, kk2, rfl, hy2⟩
      · simp [Instr.sliceBounds, Sem.run_bind, Sem.run, Result.andThen, pure]
      · rw [show (some y2).map a.eval = some (.int kk2 (k : Int)) from by rw [Option.map_some, (ev_s hsl hy2).1]]
        simp [Instr.sliceBounds, Sem.run_bind, Sem.run, Result.andThen, pure, run_sliceBound w kk2 (k : Int) c' _ b1 b2]
    · rcases hhi with ⟨rfl, rfl⟩ | ⟨y2, kk2, rfl, hy2⟩
      · rw [show (some y).map a.eval = some (.int kk (m : Int)) from by rw [Option.map_some, (ev_s hsl hy).1]]
        simp [Instr.sliceBounds, Sem.run_bind, Sem.run, Result.andThen, pure, run_sliceBound w kk (m : Int) k _ b3 b4]
      · rw [show (some y).map a.eval = some (.int kk (m : Int)) from by rw [Option.map_some, (ev_s hsl hy).1], show (some y2).map a.eval = some (.int kk2 (k : Int)) from by rw [Option.map_some, (ev_s hsl hy2).1]]
        simp [Instr.sliceBounds, Sem.run_bind, Sem.run, Result.andThen, pure, run_sliceBound w kk2 (k : Int) c' _ b1 b2, run_sliceBound w kk (m : Int) k _ b3 b4]
  simp [Instr.sliceAt, Instr.slice, underlying, e1, Sem.run_bind, Sem.run, Result.andThen, pure, hbounds, sizeOf, typeInfo, e2, e3, hsz]

theorem snd_minmax (h : OInv w0 A ob w ρ φ Z) (hsl : ∀ n, AVR w ob ρ (sl n) (a.tmps.getD n undef)) {o : Oper} {c : Call} (ho : o.op = .call c) {x y : Operand} (hargs : c.args.toList = [x, y]) {m n : Int} (hx : ev sl x = .s (.int .i64 m)) (hy : ev sl y = .s (.int .i64 n)) :
    (c.callee = .builtin .min → Snd P w0 A ob w ρ o a ⟨.s (.int .i64 (if n < m then n else m)), []⟩) ∧ (c.callee = .builtin .max → Snd P w0 A ob w ρ o a ⟨.s (.int .i64 (if m < n then n else m)), []⟩) := by
  have ha : c.args = #[x, y] := by rw [← Array.toList_inj]; simpa using hargs
  obtain ⟨h1, _⟩ := ev_s hsl hx
  obtain ⟨h2, _⟩ := ev_s hsl hy
  constructor <;> intro hcal <;> refine snd_scalar h rfl ?_
  · simp [execOp, ho, resolve, hcal, ha, h1, h2, Sem.run_bind, Sem.run, Result.andThen, pure, invoke, builtin, Builtin.min_, Builtin.min2]
  · simp [execOp, ho, resolve, hcal, ha, h1, h2, Sem.run_bind, Sem.run, Result.andThen, pure, invoke, builtin, Builtin.max_, Builtin.max2]

theorem snd_convert (h : OInv w0 A ob w ρ φ Z) (hsl : ∀ n, AVR w ob ρ (sl n) (a.tmps.getD n undef)) {o : Oper} {s t : TypeId} {ti ts : TyI} (hT : TyOk P t ti) (hTs : TyOk P s ts) {x : Operand} (ho : o.op = .convert s t x) {k k' k2 : IntKind} {n m m2 : Int} (hx : ev sl x = .s (.int k n)) (hc : ti.cells = [.s (.int k' m)]) (hcs : ts.cells = [.s (.int k2 m2)]) :
    Snd P w0 A ob w ρ o a ⟨.s (.int k' (k'.wrap n)), []⟩ := by
  obtain ⟨h1, _⟩ := ev_s hsl hx
  have h2 := hT.kind k' m hc
  have h3 := hTs.kind k2 m2 hcs
  exact snd_scalar h rfl (exec_v (s := convert s t (a.eval x)) (by simp [execOp, ho]) (by rw [h1]; simp [convert, underlying, h2, h3, Sem.run_bind, Sem.run, Result.andThen, pure, Conv.intToInt]))

theorem snd_makeFunc (h : OInv w0 A ob w ρ φ Z) (hsl : ∀ n, AVR w ob ρ (sl n) (a.tmps.getD n undef)) {o : Oper} {f : FuncId} {first cap : Array Operand} (ho : o.op = .makeFunc (.func f) first cap) (h0 : first.size = 0) : Snd P w0 A ob w ρ o a ⟨.fn f (cap.toList.map (ev sl)), []⟩ := by
  have hf : first = #[] := Array.eq_empty_of_size_eq_zero h0
  refine snd_val (v := .func (.func f) #[] (cap.map a.eval)) h (exec_v (s := Instr.makeFunc (.func f) (first.map a.eval) (cap.map a.eval)) (by simp [execOp, ho]) (by rw [hf]; simp [Instr.makeFunc, Sem.run, pure])) ?_
  refine .fn (by simp) fun i y hy => ?_
  rw [List.getElem?_map] at hy
  cases hc : cap.toList[i]? with
  | none => simp [hc] at hy
  | some z =>
    simp only [hc, Option.map_some, Option.some.injEq] at hy
    subst hy
    have hi : i < cap.size := by have := (List.getElem?_eq_some_iff.1 hc).1; simpa using this
    have : (cap.map a.eval).getD i undef = a.eval z := by
      have : cap[i] = z := by simpa [hi] using hc
      simp [Array.getD, hi, this]
    rw [this]; exact ev_sound hsl z

theorem snd_store (h : OInv w0 A ob w ρ φ Z) (hsl : ∀ n, AVR w ob ρ (sl n) (a.tmps.getD n undef)) {o : Oper} {t : TypeId} {ti : TyI} (hT : TyOk P t ti) {x y : Operand} (ho : o.op = .store t x y) {out : Out}
    (hr : (if isRecut (ev sl x) (evT E sl t y) then (if ti.cells.length = 1 then exRecut (ev sl x) (evT E sl t y) else .fail) else exStore ti.cells.length (ev sl x) (evT E sl t y)).run ob = some out) : Snd P w0 A ob w ρ o a out := by
  have hx := ev_sound (a := a) hsl x
  have hy := evT_sound (E := E) (a := a) hsl t y
  have hex : ∀ {w' : World}, (Instr.storeAt t (a.eval x) (a.eval y)).run P w = .ok () w' → (execOp a.eval o).run P w = .ok .skip w' := by
    intro w' hs
    simp [execOp, ho, Sem.run_bind, hs, Sem.run, Result.andThen, pure]
  split at hr
  · split at hr
    · rename_i h1
      obtain ⟨w', ρ', φ', Z', r1, r2, r3⟩ := recut_sound hT h1 h hx hy hr
      exact opSound_skip (hex r1) ⟨ρ', φ', Z', r2, by rw [r3]; exact .u⟩
    · simp [Rd.run] at hr
  · generalize ev sl x = ax at hx hr
    generalize evT E sl t y = ay at hy hr
    unfold exStore at hr
    split at hr
    · rename_i q b g p i j
      simp only [Rd.run] at hr
      cases hc : (ob q).c with
      | dead => simp [hc, Rd.run] at hr
      | box cells =>
        simp only [hc] at hr
        split at hr
        · rename_i l hl
          split at hr
          · rename_i hcond
            obtain ⟨c1, rfl, c3, c4, c5⟩ := hcond
            simp only [Rd.run, Option.some.injEq] at hr
            subst hr
            obtain ⟨w', r1, r2⟩ := storeBox_sound hT h hx hy hl hc c1 c3 c4 c5
            exact opSound_skip (hex r1) ⟨ρ, φ, Z, by simpa [upds] using r2, .u⟩
          · simp [Rd.run] at hr
        · simp [Rd.run] at hr
      | tree lvl t' =>
        simp only [hc] at hr
        split at hr
        · rename_i hcond
          obtain ⟨c1, c2, c3⟩ := hcond
          split at hr
          · rename_i sz rows hat
            split at hr
            · rename_i r hri
              split at hr
              · rename_i l hl
                obtain ⟨ts, lv, ss, hG, hr2⟩ := grab_run l [q] _ _ hr
                split at hr2
                · rename_i hc2
                  simp only [Rd.run, Option.some.injEq] at hr2
                  subst hr2
                  obtain ⟨w', ρ', φ', Z', r1, r2⟩ := storeTree_sound hT h hx hy hl hc ⟨c1, c2⟩ c3 hat hri hG hc2.1 hc2.2.1 hc2.2.2
                  exact opSound_skip (hex r1) ⟨ρ', φ', Z', r2, .u⟩
                · simp [Rd.run] at hr2
              · simp [Rd.run] at hr
            · simp [Rd.run] at hr
          · simp [Rd.run] at hr
        · simp [Rd.run] at hr
    · simp [Rd.run] at hr
end Go.Proofs.YtipfcgbhaalcdaaGreat.Abs
