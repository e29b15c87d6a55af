/-
  A part of the proof that FabricPads answers true at every input. No condition.
-/
import Derived.Calls
import Derived.Orders
import Derived.LoopN
import Derived.Below
import Derived.Eval
import Derived.WalkKit
section
namespace Go.Vm
inductive Tag where
  | bor | frz | new
  deriving DecidableEq
inductive Leaf where
  | bool
  | int (k : IntKind)
  | str
  | sl (e : TypeId)
  | fn
  | ptr
  | mp
  deriving DecidableEq
inductive V where
  | undef
  | bool (b : Bool)
  | int (k : IntKind) (n : Int)
  | str (s : ByteArray)
  | ints (t : Tag) (k : IntKind) (l : List Int)
  | bools (t : Tag) (l : List Bool)
  | vals (t : Tag) (e : TypeId) (l : List V)
  | own (id : Nat)
  | owns (id off len : Nat)
  | ptr (id off : Nat)
  | elem (id idx off : Nat)
  | ro (l : List V)
  | nilp
  | agg (l : List V)
  | tup (l : List V)
  | fn (f : FuncId) (first captured : List V)
  | nilfn
  | nils
  | mp (id : Nat)
  | nilmp
  deriving Inhabited
inductive Obj where
  | cells (l : List V)
  | ints (k : IntKind) (l : List Int)
  | bools (l : List Bool)
  | vals (e : TypeId) (l : List V)
  | map (kt et : TypeId) (l : List (V × V × Nat)) (clock : Nat)
  deriving Inhabited
structure TyI where
  leaves : List Leaf
  agg : Bool := false
  bytes : Nat
  elem : TypeId := 0
  alen : Nat := 0
  fields : List (Nat × TypeId) := []
  plain : Bool := false
def get {α : Type} (n : Nat) : List (Nat × α) → Option α
  | [] => none
  | p :: r => bif Nat.beq n p.1 then some p.2 else get n r
def ins {α : Type} (n : Nat) (a : α) : List (Nat × α) → List (Nat × α)
  | [] => [(n, a)]
  | p :: r => bif Nat.beq n p.1 then (n, a) :: r else bif Nat.blt n p.1 then (n, a) :: p :: r else p :: ins n a r
def del {α : Type} (n : Nat) : List (Nat × α) → List (Nat × α)
  | [] => []
  | p :: r => bif Nat.beq n p.1 then del n r else p :: del n r
def has (n : Nat) : List Nat → Bool
  | [] => false
  | m :: r => bif Nat.beq n m then true else has n r
abbrev Heap := List (Nat × Obj)
structure St where
  t : List (Nat × V)
  h : Heap
  fz : List Nat
  nx : Nat
  lo : Nat
def addI (k : IntKind) (a b : Int) : Int := k.wrap (a + b)
def subI (k : IntKind) (a b : Int) : Int := k.wrap (a - b)
def mulI (k : IntKind) (a b : Int) : Int := k.wrap (a * b)
def quoI (k : IntKind) (a b : Int) : Int := k.wrap (a.tdiv b)
def remI (a b : Int) : Int := a.tmod b
def andI (k : IntKind) (a b : Int) : Int := k.wrap (BitVec.ofInt k.bits a &&& BitVec.ofInt k.bits b).toNat
def orI (k : IntKind) (a b : Int) : Int := k.wrap (BitVec.ofInt k.bits a ||| BitVec.ofInt k.bits b).toNat
def xorI (k : IntKind) (a b : Int) : Int := k.wrap (BitVec.ofInt k.bits a ^^^ BitVec.ofInt k.bits b).toNat
def andNotI (k : IntKind) (a b : Int) : Int := k.wrap (BitVec.ofInt k.bits a &&& ~~~ BitVec.ofInt k.bits b).toNat
def shlI (k : IntKind) (a b : Int) : Int := k.wrap (a * 2 ^ (min b.toNat k.bits))
def shrI (k : IntKind) (a b : Int) : Int := a.fdiv (2 ^ (min b.toNat k.bits))
def convI (k : IntKind) (a : Int) : Int := k.wrap a
def ltI (a b : Int) : Bool := decide (a < b)
def leI (a b : Int) : Bool := decide (a ≤ b)
def eqI (a b : Int) : Bool := a == b
def neI (a b : Int) : Bool := a != b
def nzI (a : Int) : Bool := a != 0
def posI (a : Int) : Bool := decide (0 ≤ a)
def inR (i : Int) (n : Nat) : Bool := decide (0 ≤ i ∧ i < (n : Int))
def inS (i j : Int) (n : Nat) : Bool := decide (0 ≤ i ∧ i ≤ j ∧ j ≤ (n : Int))
def lim : Nat := 4294967296
def okL (n : Nat) : Bool := decide (n ≤ lim)
def lenI (n : Nat) : Int := (n : Int)
def notB (b : Bool) : Bool := !b
def eqB (a b : Bool) : Bool := a == b
def neB (a b : Bool) : Bool := a != b
def V.toInt : V → Int | .int _ n => n | _ => 0
def V.toBool : V → Bool | .bool b => b | _ => false
def V.toStr : V → ByteArray | .str s => s | _ => default
def V.toInts : V → List Int | .ints _ _ l => l | _ => []
def V.toBools : V → List Bool | .bools _ l => l | _ => []
def V.toVals : V → List V | .vals _ _ l => l | _ => []
def V.cell : V → Nat → V
  | .agg l, i => l.getD i .undef
  | v, 0 => v
  | _, _ => .undef
def V.flat : V → List V
  | .agg l => l
  | v => [v]
def pack (agg : Bool) (l : List V) : V := bif agg then .agg l else l.headD .undef
abbrev Tys := List TyI
def tyAt (ty : Tys) (t : TypeId) : Option TyI := ty[t]?
def IntKind.same : IntKind → IntKind → Bool
  | .i8, .i8 | .i16, .i16 | .i32, .i32 | .i64, .i64 | .u8, .u8 | .u16, .u16 | .u32, .u32 | .u64, .u64 => true
  | _, _ => false
inductive Sh where
  | ints (k : IntKind)
  | bools
  | vals
def shOf (ty : Tys) (e : TypeId) : Option Sh :=
  match tyAt ty e with
  | some i => match i.agg, i.leaves with
    | false, [.int k] => some (.ints k)
    | false, [.bool] => some .bools
    | _, _ :: _ => some .vals
    | _, [] => none
  | none => none
def slProj (ty : Tys) (tag : Tag) (e : TypeId) (c : V) : V :=
  match shOf ty e with
  | some (.ints k) => .ints tag k c.toInts
  | some .bools => .bools tag c.toBools
  | _ => .vals tag e c.toVals
def leafProj (ty : Tys) (tag : Tag) (l : Leaf) (c : V) : V :=
  match l with
  | .bool => .bool c.toBool
  | .int k => .int k c.toInt
  | .str => .str c.toStr
  | .sl e => slProj ty tag e c
  | _ => c
def projL (ty : Tys) (tag : Tag) : List Leaf → Nat → V → List V
  | [], _, _ => []
  | l :: r, i, v => leafProj ty tag l (v.cell i) :: projL ty tag r (i + 1) v
def proj (ty : Tys) (tag : Tag) (i : TyI) (v : V) : V := pack i.agg (projL ty tag i.leaves 0 v)
def Tag.same : Tag → Tag → Bool
  | .bor, .bor | .frz, .frz | .new, .new => true
  | _, _ => false
def slOk (ty : Tys) (tag : Tag) (e : TypeId) (c : V) : Bool :=
  match shOf ty e, c with
  | some (.ints k), .ints t k' _ => t.same tag && IntKind.same k k'
  | some .bools, .bools t _ => t.same tag
  | some .vals, .vals t e' _ => t.same tag && Nat.beq e e'
  | _, _ => false
def leafOk (ty : Tys) (tag : Tag) (l : Leaf) (c : V) : Bool :=
  match l, c with
  | .bool, .bool _ => true
  | .int k, .int k' _ => IntKind.same k k'
  | .str, .str _ => true
  | .sl e, c => slOk ty tag e c
  | _, _ => false
def leavesOk (ty : Tys) (tag : Tag) : List Leaf → List V → Bool
  | [], [] => true
  | l :: r, c :: s => leafOk ty tag l c && leavesOk ty tag r s
  | _, _ => false
def okV (ty : Tys) (tag : Tag) (i : TyI) (v : V) : Bool :=
  match i.agg, v with
  | true, .agg l => leavesOk ty tag i.leaves l
  | true, _ => false
  | false, .agg _ => false
  | false, v => leavesOk ty tag i.leaves [v]
def ofConst : Value → Option V
  | .bool b => some (.bool b)
  | .int k n => some (.int k n)
  | .string s => some (.str s)
  | .pointer none => some .nilp
  | .slice none 0 0 => some .nils
  | .map none => some .nilmp
  | .nilFunc => some .nilfn
  | _ => none
def evalO (t : List (Nat × V)) : Operand → Option V
  | .tmp n => get n t
  | .const v => ofConst v
  | .func f => some (.fn f [] [])
  | .global _ => none
def evalAll (t : List (Nat × V)) : List Operand → Option (List V)
  | [] => some []
  | o :: r => match evalO t o, evalAll t r with
    | some v, some l => some (v :: l)
    | _, _ => none
structure Res where
  ok : Bool := true
  v : V
  objs : List Obj := []
  fz : List Nat := []
def emptyObj (ty : Tys) (e : TypeId) : Option Obj :=
  match shOf ty e with
  | some (.ints k) => some (.ints k [])
  | some .bools => some (.bools [])
  | some .vals => some (.vals e [])
  | none => none
def zeroCells (ty : Tys) : List Leaf → Nat → Option (List V × List Obj)
  | [], _ => some ([], [])
  | l :: r, nx =>
    match l with
    | .sl e => match emptyObj ty e, zeroCells ty r (nx + 1) with
      | some o, some (vs, os) => some (.own nx :: vs, o :: os)
      | _, _ => none
    | .bool => (zeroCells ty r nx).map fun p => (.bool false :: p.1, p.2)
    | .int k => (zeroCells ty r nx).map fun p => (.int k 0 :: p.1, p.2)
    | .fn => (zeroCells ty r nx).map fun p => (.nilfn :: p.1, p.2)
    | .ptr => (zeroCells ty r nx).map fun p => (.nilp :: p.1, p.2)
    | .mp => (zeroCells ty r nx).map fun p => (.nilmp :: p.1, p.2)
    | .str => none
def zeroFixed (ty : Tys) : List Leaf → Option (List V)
  | [] => some []
  | l :: r =>
    match (match l with
      | .sl e => match shOf ty e with
        | some (.ints k) => some (V.ints .frz k [])
        | some .bools => some (.bools .frz [])
        | some .vals => some (.vals .frz e [])
        | none => none
      | .bool => some (.bool false)
      | .int k => some (.int k 0)
      | _ => none), zeroFixed ty r with
    | some v, some s => some (v :: s)
    | _, _ => none
def setAt {α : Type} : List α → Nat → List α → List α
  | [], _, _ => []
  | c :: r, 0, [] => c :: r
  | _ :: r, 0, x :: xs => x :: setAt r 0 xs
  | c :: r, n + 1, xs => c :: setAt r n xs
def fits (l : List V) (off n : Nat) : Bool := Nat.ble (off + n) l.length
def cut (l : List V) (off n : Nat) : List V := (l.drop off).take n
def keyEqL : List V → List V → Bool
  | [], [] => true
  | .int k a :: r, .int k' b :: s => (IntKind.same k k' && eqI a b) && keyEqL r s
  | .bool a :: r, .bool b :: s => eqB a b && keyEqL r s
  | _, _ => false
def keyEq : V → V → Bool
  | .int k a, .int k' b => IntKind.same k k' && eqI a b
  | .bool a, .bool b => eqB a b
  | .str a, .str b => a == b
  | .agg a, .agg b => keyEqL a b
  | _, _ => false
def mget (k : V) : List (V × V × Nat) → Option V
  | [] => none
  | e :: r => bif keyEq k e.1 then some e.2.1 else mget k r
def mhas (k : V) (l : List (V × V × Nat)) : Bool := (mget k l).isSome
def mgetD (k : V) (l : List (V × V × Nat)) (d : V) : V := (mget k l).getD d
def mborn (k : V) (clock : Nat) : List (V × V × Nat) → Nat
  | [] => clock
  | e :: r => bif keyEq k e.1 then e.2.2 else mborn k clock r
def mset (k v : V) (clock : Nat) : List (V × V × Nat) → List (V × V × Nat)
  | [] => [(k, v, clock)]
  | e :: r => bif keyEq k e.1 then (k, v, e.2.2) :: r else e :: mset k v clock r
def mclock (k : V) (clock : Nat) (l : List (V × V × Nat)) : Nat := bif mhas k l then clock else clock + 1
def mstamp (n : Int) (v : V) : List (V × V × Nat) → List (V × V × Nat)
  | [] => []
  | e :: r => bif eqI (e.2.2 : Int) n then (e.1, v, e.2.2) :: r else e :: mstamp n v r
def mstamped (n : Int) : List (V × V × Nat) → Bool
  | [] => false
  | e :: r => eqI (e.2.2 : Int) n || mstamped n r
def Obj.len : Obj → Nat
  | .cells l => l.length
  | .ints _ l => l.length
  | .bools l => l.length
  | .vals _ l => l.length
  | .map _ _ l _ => l.length
def Obj.fixed (tag : Tag) : Obj → Option V
  | .ints k l => some (.ints tag k l)
  | .bools l => some (.bools tag l)
  | .vals e l => some (.vals tag e l)
  | _ => none
def Obj.fixedPart (tag : Tag) (off len : Nat) : Obj → Option V
  | .ints k l => some (.ints tag k ((l.drop off).take len))
  | .bools l => some (.bools tag ((l.drop off).take len))
  | .vals e l => some (.vals tag e ((l.drop off).take len))
  | _ => none
def fixLeaf (h : Heap) : V → Option (V × List Nat)
  | .own id => match get id h with
    | some o => (o.fixed .frz).map fun v => (v, [id])
    | none => none
  | .ints .frz k l => some (.ints .frz k l, [])
  | .bools .frz l => some (.bools .frz l, [])
  | .vals .frz e l => some (.vals .frz e l, [])
  | .bool b => some (.bool b, [])
  | .int k n => some (.int k n, [])
  | .str s => some (.str s, [])
  | _ => none
def fixAll (h : Heap) : List V → Option (List V × List Nat)
  | [] => some ([], [])
  | v :: r => match fixLeaf h v, fixAll h r with
    | some (x, f), some (xs, g) => some (x :: xs, f ++ g)
    | _, _ => none
def fixV (h : Heap) : V → Option (V × List Nat)
  | .agg l => (fixAll h l).map fun p => (.agg p.1, p.2)
  | v => fixLeaf h v
def idFree : V → Bool
  | .undef | .bool _ | .int _ _ | .str _ | .ints _ _ _ | .bools _ _ | .vals _ _ _ | .nilp | .nilfn | .nils | .nilmp => true
  | .fn _ [] [] => true
  | _ => false
def idFreeL : List V → Bool
  | [] => true
  | v :: r => idFree v && idFreeL r
def snapLeaf (h : Heap) : V → Option V
  | .own id => match get id h with
    | some o => o.fixed .bor
    | none => none
  | .owns id off len => match get id h with
    | some o => o.fixedPart .bor off len
    | none => none
  | .ints t k l => some (.ints t k l)
  | .bools t l => some (.bools t l)
  | .vals t e l => some (.vals t e l)
  | .bool b => some (.bool b)
  | .int k n => some (.int k n)
  | .str s => some (.str s)
  | .nilfn => some .nilfn
  | .nilp => some .nilp
  | .fn f [] [] => some (.fn f [] [])
  | .ro l => bif idFreeL l then some (.ro l) else none
  | _ => none
def snapAll (h : Heap) : List V → Option (List V)
  | [] => some []
  | v :: r => match snapLeaf h v, snapAll h r with
    | some x, some xs => some (x :: xs)
    | _, _ => none
def snapV (h : Heap) : V → Option V
  | .agg l => (snapAll h l).map .agg
  | .ptr id off => match get id h with
    | some (.cells l) => (snapAll h (l.drop off)).map .ro
    | _ => none
  | v => snapLeaf h v
def fixArgs (h : Heap) : List V → Option (List V × List Nat)
  | [] => some ([], [])
  | v :: r => match fixV h v, fixArgs h r with
    | some (x, f), some (xs, g) => some (x :: xs, f ++ g)
    | _, _ => none
def snapArgs (h : Heap) : List V → Option (List V)
  | [] => some []
  | v :: r => match snapV h v, snapArgs h r with
    | some x, some xs => some (x :: xs)
    | _, _ => none
def expLeaf (h : Heap) (fz : List Nat) : V → Option V
  | .own id => bif has id fz then none else match get id h with
    | some o => o.fixed .new
    | none => none
  | .owns id off len => bif has id fz then none else match get id h with
    | some o => o.fixedPart .new off len
    | none => none
  | .bool b => some (.bool b)
  | .int k n => some (.int k n)
  | .str s => some (.str s)
  | .ints .frz k l => some (.ints .frz k l)
  | .bools .frz l => some (.bools .frz l)
  | .vals .frz e l => some (.vals .frz e l)
  | _ => none
def expAll (h : Heap) (fz : List Nat) : List V → Option (List V)
  | [] => some []
  | v :: r => match expLeaf h fz v, expAll h fz r with
    | some x, some xs => some (x :: xs)
    | _, _ => none
def expV (h : Heap) (fz : List Nat) : V → Option V
  | .agg l => (expAll h fz l).map .agg
  | v => expLeaf h fz v
def ownIds : List V → List Nat
  | [] => []
  | .own id :: r => id :: ownIds r
  | .owns id _ _ :: r => id :: ownIds r
  | _ :: r => ownIds r
def once : List Nat → Bool
  | [] => true
  | n :: r => !has n r && once r
def impLeaf : V → Nat → V × List Obj
  | .ints .new k l, nx => (.own nx, [.ints k l])
  | .bools .new l, nx => (.own nx, [.bools l])
  | .vals .new e l, nx => (.own nx, [.vals e l])
  | v, _ => (v, [])
def impAll : List V → Nat → List V × List Obj
  | [], _ => ([], [])
  | v :: r, nx =>
    let a := impLeaf v nx
    let b := impAll r (nx + a.2.length)
    (a.1 :: b.1, a.2 ++ b.2)
def impV : V → Nat → V × List Obj
  | .agg l, nx => let p := impAll l nx; (.agg p.1, p.2)
  | v, nx => impLeaf v nx
def impTup : List V → Nat → List V × List Obj
  | [], _ => ([], [])
  | v :: r, nx =>
    let a := impV v nx
    let b := impTup r (nx + a.2.length)
    (a.1 :: b.1, a.2 ++ b.2)
end Go.Vm
end
section
namespace Go.Vm
def slElem (ty : Tys) (t : TypeId) : Option TypeId :=
  match tyAt ty t with
  | some ti => match ti.agg, ti.leaves with
    | false, [.sl e] => some e
    | _, _ => none
  | none => none
def mapTy (ty : Tys) (t : TypeId) : Option (TypeId × TypeId) :=
  match tyAt ty t with
  | some ti => match ti.agg, ti.leaves, ti.fields with
    | false, [.mp], [(k, e)] => some (k, e)
    | _, _, _ => none
  | none => none
def keyTy (i : TyI) : Bool := i.plain && (bif i.agg then (match i.fields with | [] => false | _ => true) else true)
def mapIs (ty : Tys) (t kt et : TypeId) : Bool :=
  match mapTy ty t with
  | some p => Nat.beq p.1 kt && Nat.beq p.2 et
  | none => false
def fitE (ty : Tys) (e : TypeId) (o : Obj) : Bool :=
  match shOf ty e, o with
  | some (.ints k), .ints k' _ => IntKind.same k k'
  | some .bools, .bools _ => true
  | some .vals, .vals e' _ => Nat.beq e e'
  | _, _ => false
def elI (k : IntKind) (l : List Int) (i : Nat) : V := .int k (l.getD i 0)
def elB (l : List Bool) (i : Nat) : V := .bool (l.getD i false)
def elCells (ty : Tys) (e : TypeId) (l : List V) (i : Nat) : Option (List V) :=
  match tyAt ty e with
  | some ti => some (projL ty .frz ti.leaves 0 (l.getD i .undef))
  | none => none
def strTy (ti : TyI) : Bool := match ti.agg, ti.leaves with
  | false, [.str] => true
  | _, _ => false
def strAt (s : ByteArray) (i : Nat) : Int := match s[i]? with
  | some b => (b.toNat : Int)
  | none => 0
def res (v : V) : Option Res := some { v }
def resIf (ok : Bool) (v : V) : Option Res := some { ok, v }
def binV (op : BinOp) (ty : Tys) (xt : TypeId) : V → V → Option Res
  | .int k a, .int k' b =>
    match op with
    | .shl => bif IntKind.same k k && posI 0 then resIf (posI b) (.int k (shlI k a b)) else none
    | .shr => resIf (posI b) (.int k (shrI k a b))
    | _ =>
      bif IntKind.same k k' then
        match op with
        | .add => res (.int k (addI k a b))
        | .sub => res (.int k (subI k a b))
        | .mul => res (.int k (mulI k a b))
        | .quo => resIf (nzI b) (.int k (quoI k a b))
        | .rem => resIf (nzI b) (.int k (remI a b))
        | .and => res (.int k (andI k a b))
        | .or => res (.int k (orI k a b))
        | .xor => res (.int k (xorI k a b))
        | .andNot => res (.int k (andNotI k a b))
        | .eql => res (.bool (eqI a b))
        | .neq => res (.bool (neI a b))
        | .lss => res (.bool (ltI a b))
        | .leq => res (.bool (leI a b))
        | .gtr => res (.bool (ltI b a))
        | .geq => res (.bool (leI b a))
        | _ => none
      else none
  | .bool a, .bool b =>
    match shOf ty xt with
    | some .bools => match op with
      | .eql => res (.bool (eqB a b))
      | .neq => res (.bool (neB a b))
      | _ => none
    | _ => none
  | .agg a, .agg b =>
    match tyAt ty xt with
    | some ti => bif ti.plain && ti.agg then
        match op with
        | .eql => (eqCells ti.leaves a b).map fun x => { v := .bool x }
        | .neq => (eqCells ti.leaves a b).map fun x => { v := .bool (notB x) }
        | _ => none
      else none
    | none => none
  | _, _ => none
where eqCells : List Leaf → List V → List V → Option Bool
  | [], [], [] => some true
  | .int _ :: ls, .int k a :: r, .int k' b :: s => bif IntKind.same k k' then (eqCells ls r s).map fun x => eqI a b && x else none
  | .bool :: ls, .bool a :: r, .bool b :: s => (eqCells ls r s).map fun x => eqB a b && x
  | _, _, _ => none
def fieldOf (ty : Tys) (s : TypeId) (f : Nat) : Option (Nat × TyI) :=
  match tyAt ty s with
  | some ti => bif ti.agg then match ti.fields[f]? with
    | some p => (tyAt ty p.2).map fun fi => (p.1, fi)
    | none => none
    else none
  | none => none
def idxOf (ρ : Operand → Option V) : Option Operand → Option (Option Int)
  | none => some none
  | some o => match ρ o with
    | some (.int _ i) => some (some i)
    | _ => none
def sliceFixed (n : Nat) (lo hi : Option Int) (mk : (Nat → Nat → V)) (id : V) (from_ : Nat → V) (to : Nat → V) : Option Res :=
  match lo, hi with
  | none, none => res id
  | some i, none => resIf (inS i (lenI n) n) (from_ i.toNat)
  | none, some j => resIf (inS 0 j n) (to j.toNat)
  | some i, some j => resIf (inS i j n) (mk i.toNat (j.toNat - i.toNat))
def sameOperand : Operand → Operand → Bool
  | .tmp a, .tmp b => Nat.beq a b
  | .const (.int j a), .const (.int k b) => IntKind.same j k && (a == b)
  | _, _ => false
def partOk : V → Bool
  | .undef | .tup _ => false
  | _ => true
def fillParts (ρ : Operand → Option V) (place : Nat → Option (Nat × Nat)) : List (Nat × Operand) → List V → Option (List V)
  | [], l => some l
  | (i, o) :: r, l =>
    match place i, ρ o with
    | some (off, n), some v => bif Nat.beq v.flat.length n && fits l off n && partOk v then fillParts ρ place r (setAt l off v.flat) else none
    | _, _ => none
def fillInts (ρ : Operand → Option V) (k : IntKind) : List (Nat × Operand) → List Int → Option (List Int)
  | [], l => some l
  | (i, o) :: r, l => match ρ o with
    | some (.int k' n) => bif IntKind.same k k' && Nat.blt i l.length then fillInts ρ k r (l.set i n) else none
    | _ => none
def fillBools (ρ : Operand → Option V) : List (Nat × Operand) → List Bool → Option (List Bool)
  | [], l => some l
  | (i, o) :: r, l => match ρ o with
    | some (.bool b) => bif Nat.blt i l.length then fillBools ρ r (l.set i b) else none
    | _ => none
def fillVals (ty : Tys) (h : Heap) (ti : TyI) (ρ : Operand → Option V) : List (Nat × Operand) → List V → List Nat → Option (List V × List Nat)
  | [], l, f => some (l, f)
  | (i, o) :: r, l, f => match ρ o with
    | some v => match fixV h v with
      | some (x, g) => bif okV ty .frz ti x && Nat.blt i l.length then fillVals ty h ti ρ r (l.set i x) (f ++ g) else none
      | none => none
    | none => none
def placeOf (ty : Tys) (t : TypeId) (ti : TyI) (i : Nat) : Option (Nat × Nat) :=
  match ti.fields with
  | [] => bif Nat.blt i ti.alen then (tyAt ty ti.elem).bind fun e => bif Nat.blt 0 e.leaves.length then some (i * e.leaves.length, e.leaves.length) else none else none
  | _ => (fieldOf ty t i).map fun p => (p.1, p.2.leaves.length)
def front (ty : Tys) (h : Heap) (nx : Nat) (ρ : Operand → Option V) (rty : TypeId) : Op → Option Res
  | .move x | .assign x =>
    match ρ x with
    | some .nils => (slElem ty rty).bind fun e => (emptyObj ty e).map fun o => { v := .own nx, objs := [o] }
    | some v => res v
    | none => none
  | .pick c a b =>
    match ρ c with
    | some (.bool c) => match ρ a, ρ b with
      | some (.bool x), some (.bool y) => res (.bool (cond c x y))
      | some (.bool x), _ => resIf c (.bool x)
      | _, some (.bool y) => resIf (notB c) (.bool y)
      | _, _ => none
    | _ => none
  | .alloc t =>
    match tyAt ty t with
    | some ti => bif Nat.blt 0 ti.leaves.length then (zeroCells ty ti.leaves (nx + 1)).map fun p => { v := .ptr nx 0, objs := .cells p.1 :: p.2 } else none
    | none => none
  | .box t x =>
    match tyAt ty t, ρ x with
    | some ti, some v => match v with
      | .nils | .undef | .tup _ => none
      | v => bif Nat.beq v.flat.length ti.leaves.length then some { v := .ptr nx 0, objs := [.cells v.flat] } else none
    | _, _ => none
  | .build t parts =>
    match tyAt ty t with
    | some ti => bif ti.agg && Nat.blt 0 ti.leaves.length then
        match zeroCells ty ti.leaves nx with
        | some (l, os) =>
          (fillParts ρ (placeOf ty t ti) parts.toList l).map fun l' => { v := .agg l', objs := os }
        | none => none
      else none
    | none => none
  | .buildSlice t len parts =>
    (slElem ty t).bind fun e =>
    match tyAt ty e, shOf ty e with
    | some ei, some sh => bif Nat.ble (len * ei.leaves.length) 16777216 && Nat.blt 0 ei.leaves.length then
        match sh with
        | .ints k => (fillInts ρ k parts.toList (List.replicate len 0)).map fun l => { v := .own nx, objs := [.ints k l] }
        | .bools => (fillBools ρ parts.toList (List.replicate len false)).map fun l => { v := .own nx, objs := [.bools l] }
        | .vals => match zeroFixed ty ei.leaves with
          | some z => (fillVals ty h ei ρ parts.toList (List.replicate len (pack ei.agg z)) []).map fun p => { v := .own nx, objs := [.vals e p.1], fz := p.2 }
          | none => none
      else none
    | _, _ => none
  | .load t a =>
    match tyAt ty t, ρ a with
    | some ti, some (.ptr id off) => match get id h with
      | some (.cells l) => bif fits l off ti.leaves.length && Nat.blt 0 ti.leaves.length then res (pack ti.agg (cut l off ti.leaves.length)) else none
      | _ => none
    | some ti, some (.ro l) => bif fits l 0 ti.leaves.length && Nat.blt 0 ti.leaves.length then res (pack ti.agg (cut l 0 ti.leaves.length)) else none
    | some ti, some (.elem id idx off) => match get id h with
      | some (.ints k l) => match ti.agg, ti.leaves, off with
        | false, [.int _], 0 => res (elI k l idx)
        | _, _, _ => none
      | some (.bools l) => match ti.agg, ti.leaves, off with
        | false, [.bool], 0 => res (elB l idx)
        | _, _, _ => none
      | some (.vals e l) => match elCells ty e l idx with
        | some cs => bif fits cs off ti.leaves.length && Nat.blt 0 ti.leaves.length then res (pack ti.agg (cut cs off ti.leaves.length)) else none
        | none => none
      | _ => none
    | _, _ => none
  | .nilCheck x =>
    match ρ x with
    | some (.ptr id off) => res (.ptr id off)
    | some (.ro l) => res (.ro l)
    | some (.elem id idx off) => res (.elem id idx off)
    | some (.fn f a b) => res (.fn f a b)
    | _ => none
  | .binOp op xt x y _ =>
    match ρ x, ρ y with
    | some a, some b => binV op ty xt a b
    | _, _ => none
  | .unOp op _ x =>
    match op, ρ x with
    | .not, some (.bool b) => res (.bool (notB b))
    | .neg, some (.int k n) => res (.int k (subI k 0 n))
    | _, _ => none
  | .convert src dst x =>
    match tyAt ty src, tyAt ty dst, ρ x with
    | some si, some ti, some (.int _ n) => match si.leaves, ti.agg, ti.leaves with
      | _ :: _, false, [.int k] => res (.int k (convI k n))
      | _, _, _ => none
    | _, _, _ => none
  | .makeFunc f first captured =>
    match f with
    | .func g => match allOf ρ first.toList, allOf ρ captured.toList with
      | some a, some b => res (.fn g a b)
      | _, _ => none
    | _ => none
  | .makeSlice t len cap =>
    bif sameOperand len cap then
      match slElem ty t, ρ len with
      | some e, some (.int _ n) =>
        match tyAt ty e, shOf ty e with
        | some ei, some sh => bif Nat.ble ei.bytes 16384 && Nat.blt 0 ei.leaves.length then
            match sh with
            | .ints k => some { ok := inS 0 n lim, v := .own nx, objs := [.ints k (List.replicate n.toNat 0)] }
            | .bools => some { ok := inS 0 n lim, v := .own nx, objs := [.bools (List.replicate n.toNat false)] }
            | .vals => (zeroFixed ty ei.leaves).map fun z => { ok := inS 0 n lim, v := .own nx, objs := [.vals e (List.replicate n.toNat (pack ei.agg z))] }
          else none
        | _, _ => none
      | _, _ => none
    else none
  | .makeMap t x =>
    match tyAt ty t, (match x with | none => true | some o => match ρ o with | some (.int _ _) => true | _ => false) with
    | some ti, true => match ti.agg, ti.leaves, ti.fields with
      | false, [.mp], [(k, e)] => match tyAt ty k, tyAt ty e with
        | some ki, some _ => bif keyTy ki then some { v := .mp nx, objs := [.map k e [] 0] } else none
        | _, _ => none
      | _, _, _ => none
    | _, _ => none
  | .slice t x lo hi none =>
    match slElem ty t, idxOf ρ lo, idxOf ρ hi with
    | some e, some i, some j => match ρ x with
      | some (.ints t k l) => bif fitE ty e (.ints k l) then sliceFixed l.length i j (fun a n => .ints t k ((l.drop a).take n)) (.ints t k l) (fun a => .ints t k (l.drop a)) (fun b => .ints t k (l.take b)) else none
      | some (.bools t l) => bif fitE ty e (.bools l) then sliceFixed l.length i j (fun a n => .bools t ((l.drop a).take n)) (.bools t l) (fun a => .bools t (l.drop a)) (fun b => .bools t (l.take b)) else none
      | some (.vals t e' l) => bif fitE ty e (.vals e' l) then sliceFixed l.length i j (fun a n => .vals t e' ((l.drop a).take n)) (.vals t e' l) (fun a => .vals t e' (l.drop a)) (fun b => .vals t e' (l.take b)) else none
      | some (.own id) => match get id h with
        | some o => bif fitE ty e o then sliceFixed o.len i j (fun a n => .owns id a n) (.own id) (fun a => .owns id a (o.len - a)) (fun b => .owns id 0 b) else none
        | none => none
      | some (.owns id off len) => match get id h with
        | some o => bif fitE ty e o then sliceFixed len i j (fun a n => .owns id (off + a) n) (.owns id off len) (fun a => .owns id (off + a) (len - a)) (fun b => .owns id off b) else none
        | none => none
      | _ => none
    | _, _, _ => none
  | .fieldAddr s x f =>
    match fieldOf ty s f, ρ x with
    | some (o, fi), some (.ptr id off) => bif Nat.blt 0 fi.leaves.length then res (.ptr id (off + o)) else none
    | some (o, fi), some (.ro l) => bif Nat.blt 0 fi.leaves.length then res (.ro (l.drop o)) else none
    | some (o, fi), some (.elem id idx off) => bif Nat.blt 0 fi.leaves.length then res (.elem id idx (off + o)) else none
    | _, _ => none
  | .field s x f =>
    match fieldOf ty s f, ρ x with
    | some (o, fi), some (.agg l) => bif fits l o fi.leaves.length && Nat.blt 0 fi.leaves.length then res (pack fi.agg (cut l o fi.leaves.length)) else none
    | _, _ => none
  | .indexAddr t x i =>
    match tyAt ty t, ρ i with
    | some ti, some (.int _ n) => match slElem ty t with
      | some e => match ρ x with
        | some (.ints _ k l) => bif fitE ty e (.ints k l) then resIf (inR n l.length) (.ro [elI k l n.toNat]) else none
        | some (.bools _ l) => bif fitE ty e (.bools l) then resIf (inR n l.length) (.ro [elB l n.toNat]) else none
        | some (.vals _ e' l) => bif fitE ty e (.vals e' l) then (elCells ty e l n.toNat).map fun cs => { ok := inR n l.length, v := .ro cs } else none
        | some (.own id) => match get id h with
          | some o => bif fitE ty e o then resIf (inR n o.len) (.elem id n.toNat 0) else none
          | none => none
        | some (.owns id off len) => match get id h with
          | some o => bif fitE ty e o then resIf (inR n len) (.elem id (off + n.toNat) 0) else none
          | none => none
        | _ => none
      | none => bif ti.agg && Nat.blt 1 ti.alen then (tyAt ty ti.elem).bind fun ei => bif Nat.blt 0 ei.leaves.length then match ρ x with
          | some (.ptr id off) => resIf (inR n ti.alen) (.ptr id (off + n.toNat * ei.leaves.length))
          | some (.ro l) => resIf (inR n ti.alen) (.ro (l.drop (n.toNat * ei.leaves.length)))
          | some (.elem id idx off) => resIf (inR n ti.alen) (.elem id idx (off + n.toNat * ei.leaves.length))
          | _ => none
          else none
        else none
    | _, _ => none
  | .index t x i =>
    match tyAt ty t, ρ i, ρ x with
    | some ti, some (.int _ n), some (.str s) =>
      bif strTy ti then resIf (inR n s.size) (.int .u8 (strAt s n.toNat)) else none
    | some ti, some (.int _ n), some (.agg l) => (tyAt ty ti.elem).bind fun ei =>
        bif ti.agg && Nat.blt 0 ti.alen && fits l 0 (ti.alen * ei.leaves.length) && Nat.blt 0 ei.leaves.length then resIf (inR n ti.alen) (pack ei.agg (cut l (n.toNat * ei.leaves.length) ei.leaves.length)) else none
    | _, _, _ => none
  | .lookup t m k commaOk =>
    match ρ m, ρ k with
    | some (.mp id), some kv => match get id h with
      | some (.map kt et l _) => match tyAt ty kt, tyAt ty et with
        | some ki, some ei => match zeroFixed ty ei.leaves with
          | some z => bif okV ty .frz ki kv && keyTy ki && mapIs ty t kt et && Nat.blt 0 ei.leaves.length then
              let v := proj ty .frz ei (mgetD kv l (pack ei.agg z))
              bif commaOk then res (.tup [v, .bool (mhas kv l)]) else res v
            else none
          | none => none
        | _, _ => none
      | _ => none
    | _, _ => none
  | .extract x i =>
    match ρ x with
    | some (.tup l) => (l[i]?).map fun v => { v }
    | _ => none
  | _ => none
where allOf (ρ : Operand → Option V) : List Operand → Option (List V)
  | [] => some []
  | o :: r => match ρ o, allOf ρ r with
    | some v, some l => some (v :: l)
    | _, _ => none
def lenOk (ty : Tys) (t : TypeId) : V → Bool
  | .ints _ _ _ | .bools _ _ | .vals _ _ _ | .own _ | .owns _ _ _ => (slElem ty t).isSome
  | .mp _ => (mapTy ty t).isSome
  | .str _ => match tyAt ty t with
    | some ti => match ti.agg, ti.leaves with
      | false, [.str] => true
      | _, _ => false
    | none => false
  | _ => true
def lenV (ty : Tys) (h : Heap) (t : TypeId) (x : V) : Option V :=
  bif notB (lenOk ty t x) then none else match x with
  | .ints _ _ l => some (.int .i64 (lenI l.length))
  | .bools _ l => some (.int .i64 (lenI l.length))
  | .vals _ _ l => some (.int .i64 (lenI l.length))
  | .own id => match get id h with
    | some (.map _ _ _ _) => none
    | some o => some (.int .i64 (lenI o.len))
    | none => none
  | .owns _ _ n => some (.int .i64 (lenI n))
  | .mp id => match get id h with
    | some (.map _ _ l _) => some (.int .i64 (lenI l.length))
    | _ => none
  | .str s => some (.int .i64 (lenI s.size))
  | _ => match tyAt ty t with
    | some ti => bif ti.agg && Nat.blt 0 ti.alen then some (.int .i64 (lenI ti.alen)) else none
    | none => none
def minMaxGo (isMax : Bool) : V → List V → Option V
  | a, [] => some a
  | .int k a, .int k' b :: r => bif IntKind.same k k' then minMaxGo isMax (.int k (bif isMax then (cond (ltI a b) b a) else (cond (ltI b a) b a))) r else none
  | _, _ => none
def minMax (isMax : Bool) : List V → Option V
  | [] => none
  | a :: r => minMaxGo isMax a r
structure Bk where
  ok : Bool := true
  st : St
  v : V := .undef
def slContents (h : Heap) : V → Option Obj
  | .ints _ k l => some (.ints k l)
  | .bools _ l => some (.bools l)
  | .vals _ e l => some (.vals e l)
  | .own id => get id h
  | .owns id off len => match get id h with
    | some (.ints k l) => some (.ints k ((l.drop off).take len))
    | some (.bools l) => some (.bools ((l.drop off).take len))
    | some (.vals e l) => some (.vals e ((l.drop off).take len))
    | _ => none
  | _ => none
def joinObj : Obj → Obj → Option Obj
  | .ints k l, .ints k' l' => bif IntKind.same k k' then some (.ints k (l ++ l')) else none
  | .bools l, .bools l' => some (.bools (l ++ l'))
  | .vals e l, .vals e' l' => bif Nat.beq e e' then some (.vals e (l ++ l')) else none
  | _, _ => none
def appendV (ty : Tys) (st : St) (t : TypeId) (s x : V) : Option Bk :=
  match slElem ty t with
  | some e => match (tyAt ty e).map (fun ei => Nat.ble ei.bytes 16384 && Nat.blt 0 ei.leaves.length), slContents st.h x with
    | some true, some c => bif notB (fitE ty e c) then none else match s with
      | .own id => match get id st.h with
        | some o => (joinObj o c).map fun j =>
          { ok := okL j.len, v := .own st.nx, st := { st with h := ins st.nx j (del id st.h), nx := st.nx + 1, fz := bif has id st.fz then st.nx :: st.fz else st.fz } }
        | none => none
      | .owns id off len => bif has id st.fz then none else match slContents st.h (.owns id off len) with
        | some o => (joinObj o c).map fun j =>
          { ok := okL j.len, v := .own st.nx, st := { st with h := ins st.nx j (del id st.h), nx := st.nx + 1 } }
        | none => none
      | .nils => some { ok := okL c.len, v := .own st.nx, st := { st with h := ins st.nx c st.h, nx := st.nx + 1 } }
      | _ => none
    | _, _ => none
  | none => none
def storeV (ty : Tys) (st : St) (t : TypeId) (a x : V) : Option Bk :=
  match tyAt ty t, a with
  | some ti, .ptr id off => match get id st.h with
    | some (.cells l) => match x with
      | .nils => (slElem ty t).bind fun e => (emptyObj ty e).bind fun o => bif fits l off 1 && Nat.beq ti.leaves.length 1 then
            some { st := { st with h := ins id (.cells (setAt l off [.own st.nx])) (ins st.nx o st.h), nx := st.nx + 1 } } else none
      | x => bif Nat.beq x.flat.length ti.leaves.length && fits l off ti.leaves.length && Nat.blt 0 ti.leaves.length && partOk x then
          some { st := { st with h := ins id (.cells (setAt l off x.flat)) st.h } } else none
    | _ => none
  | some ti, .elem id idx off => bif has id st.fz then none else
    match get id st.h with
    | some (.ints k l) => match x, off with
      | .int k' n, 0 => bif IntKind.same k k' && Nat.beq ti.leaves.length 1 then some { st := { st with h := ins id (.ints k (l.set idx n)) st.h } } else none
      | _, _ => none
    | some (.bools l) => match x, off with
      | .bool b, 0 => bif Nat.beq ti.leaves.length 1 then some { st := { st with h := ins id (.bools (l.set idx b)) st.h } } else none
      | _, _ => none
    | some (.vals e l) => match tyAt ty e, fixV st.h x with
      | some ei, some (y, g) =>
        bif has id g then none else
        match elCells ty e l idx with
        | some cs => bif Nat.beq y.flat.length ti.leaves.length && fits cs off ti.leaves.length && okV ty .frz ei (pack ei.agg (setAt cs off y.flat)) && Nat.blt 0 ti.leaves.length && partOk y then
            some { st := { st with h := ins id (.vals e (l.set idx (pack ei.agg (setAt cs off y.flat)))) st.h, fz := g ++ st.fz } } else none
        | none => none
      | _, _ => none
    | _ => none
  | _, _ => none
def mapPut (ty : Tys) (st : St) (t : TypeId) (m k v : V) : Option Bk :=
  match m with
  | .mp id => match get id st.h with
    | some (.map kt et l c) => match tyAt ty kt, tyAt ty et, fixV st.h v with
      | some ki, some ei, some (y, g) =>
        bif okV ty .frz ki k && keyTy ki && okV ty .frz ei y && mapIs ty t kt et then
          some { st := { st with h := ins id (.map kt et (mset k y c l) (mclock k c l)) st.h, fz := g ++ st.fz } } else none
      | _, _, _ => none
    | _ => none
  | _ => none
def mapEnter (ty : Tys) (st : St) (t : TypeId) (m k : V) : Option Bk :=
  match m with
  | .mp id => match get id st.h with
    | some (.map kt et l c) => match tyAt ty kt, tyAt ty et with
      | some ki, some ei => match zeroFixed ty ei.leaves with
        | some z =>
          bif okV ty .frz ki k && keyTy ki && mapIs ty t kt et && Nat.blt 0 ei.leaves.length then
            some { st := { st with h := ins id (.map kt et (mset k (mgetD k l (pack ei.agg z)) c l) (mclock k c l)) st.h },
                   v := .tup [proj ty .frz ei (mgetD k l (pack ei.agg z)), .int .i64 (mborn k c l : Nat)] } else none
        | none => none
      | _, _ => none
    | _ => none
  | _ => none
def mapStamp (ty : Tys) (st : St) (m s v : V) : Option Bk :=
  match m, s with
  | .mp id, .int _ n => match get id st.h with
    | some (.map kt et l c) => match tyAt ty et, fixV st.h v with
      | some ei, some (y, g) => bif okV ty .frz ei y then
          some { ok := mstamped n l, st := { st with h := ins id (.map kt et (mstamp n y l) c) st.h, fz := g ++ st.fz } } else none
      | _, _ => none
    | _ => none
  | _, _ => none
def putObj (st : St) (id : Nat) (o : Obj) : Option Bk := some { st := { st with h := ins id o st.h }, v := .tup [] }
def clearAt (ty : Tys) (st : St) (e0 : TypeId) (id off : Nat) (len : Option Nat) : Option Bk :=
  bif has id st.fz then none else
  match (get id st.h).bind fun o => bif fitE ty e0 o then some o else none with
  | some (.ints k l) => putObj st id (.ints k (l.take off ++ List.replicate (len.getD (l.length - off)) 0 ++ l.drop (off + len.getD (l.length - off))))
  | some (.bools l) => putObj st id (.bools (l.take off ++ List.replicate (len.getD (l.length - off)) false ++ l.drop (off + len.getD (l.length - off))))
  | some (.vals e l) => match tyAt ty e with
    | some ei => match zeroFixed ty ei.leaves with
      | some z => putObj st id (.vals e (l.take off ++ List.replicate (len.getD (l.length - off)) (pack ei.agg z) ++ l.drop (off + len.getD (l.length - off))))
      | none => none
    | none => none
  | _ => none
def clearV (ty : Tys) (st : St) (e : TypeId) : V → Option Bk
  | .own id => clearAt ty st e id 0 none
  | .owns id off len => clearAt ty st e id off (some len)
  | .ints _ _ [] | .bools _ [] | .vals _ _ [] => some { st, v := .tup [] }
  | _ => none
inductive Ex where
  | normal
  | exit (id : Nat)
  | ret
inductive Md where
  | pure
  | fix
  | inl
structure Env where
  ty : Tys
  fn : FuncId → Option Func
  md : FuncId → Md
  keep : FuncId → List Nat
  live : FuncId → Nat → List Nat
  /-- is a call run upon what its arguments reach alone -/
  sub : FuncId → Bool := fun _ => false
  /-- the depth at which calls in the caller's heap are run; 0: one less than the caller's -/
  rk : FuncId → Nat := fun _ => 0
def restrict (keep : List Nat) : List (Nat × V) → List (Nat × V)
  | [] => []
  | p :: r => bif has p.1 keep then p :: restrict keep r else restrict keep r
abbrev Ren := List (Nat × Nat)
structure Gc where
  m : Ren
  nx : Nat
def Gc.add (lo : Nat) (g : Gc) (id : Nat) : Gc :=
  bif Nat.blt id lo then g else match get id g.m with
  | some _ => g
  | none => ⟨ins id g.nx g.m, g.nx + 1⟩
def gcV (h : Heap) (lo : Nat) : Nat → List V → Gc → Gc
  | 0, _, g => g
  | _ + 1, [], g => g
  | n + 1, v :: r, g =>
    gcV h lo n r (match v with
      | .own id | .owns id _ _ | .elem id _ _ | .mp id => g.add lo id
      | .ptr id _ => match get id g.m with
        | some _ => g
        | none => bif Nat.blt id lo then g else
          match get id h with
          | some (.cells l) => gcV h lo n l (g.add lo id)
          | _ => g.add lo id
      | .agg l | .tup l | .ro l => gcV h lo n l g
      | .fn _ a b => gcV h lo n b (gcV h lo n a g)
      | _ => g)
def renId (lo : Nat) (m : Ren) (id : Nat) : Option Nat := bif Nat.blt id lo then some id else get id m
mutual
def renV (lo : Nat) (m : Ren) : V → Option V
  | .own id => (renId lo m id).map .own
  | .owns id off len => (renId lo m id).map fun j => .owns j off len
  | .elem id idx off => (renId lo m id).map fun j => .elem j idx off
  | .mp id => (renId lo m id).map .mp
  | .ptr id off => (renId lo m id).map fun j => .ptr j off
  | .agg l => (renL lo m l).map .agg
  | .tup l => (renL lo m l).map .tup
  | .ro l => (renL lo m l).map .ro
  | .fn f a b => match renL lo m a, renL lo m b with
    | some a, some b => some (.fn f a b)
    | _, _ => none
  | v => some v
def renL (lo : Nat) (m : Ren) : List V → Option (List V)
  | [] => some []
  | v :: r => match renV lo m v, renL lo m r with
    | some x, some s => some (x :: s)
    | _, _ => none
end
def renObj (lo : Nat) (m : Ren) : Obj → Option Obj
  | .cells l => (renL lo m l).map .cells
  | o => some o
def renT (lo : Nat) (m : Ren) : List (Nat × V) → Option (List (Nat × V))
  | [] => some []
  | p :: r => match renV lo m p.2, renT lo m r with
    | some x, some s => some ((p.1, x) :: s)
    | _, _ => none
def lowHeap (lo : Nat) (m : Ren) : Heap → Option Heap
  | [] => some []
  | p :: r => bif Nat.blt p.1 lo then (match renObj lo m p.2, lowHeap lo m r with
      | some o, some s => some ((p.1, o) :: s)
      | _, _ => none) else lowHeap lo m r
def lowCells (lo : Nat) : Heap → List V
  | [] => []
  | p :: r => bif Nat.blt p.1 lo then (match p.2 with
      | .cells l => l ++ lowCells lo r
      | _ => lowCells lo r) else lowCells lo r
def lowIds (lo : Nat) : List Nat → List Nat
  | [] => []
  | n :: r => bif Nat.blt n lo then n :: lowIds lo r else lowIds lo r
def renHeap (h : Heap) (lo : Nat) (m : Ren) : Ren → Heap → Option Heap
  | [], acc => some acc
  | p :: r, acc => match get p.1 h with
    | some o => match renObj lo m o with
      | some o => renHeap h lo m r (ins p.2 o acc)
      | none => none
    | none => renHeap h lo m r acc
def renFz (fz : List Nat) : Ren → List Nat → List Nat
  | [], acc => acc
  | p :: r, acc => renFz fz r (bif has p.1 fz then p.2 :: acc else acc)
def canon (fuel : Nat) (live : List Nat) (st : St) : Option St :=
  let t := restrict live st.t
  let g := gcV st.h st.lo fuel (t.map (·.2) ++ lowCells st.lo st.h) ⟨[], st.lo⟩
  match renT st.lo g.m t, lowHeap st.lo g.m st.h with
  | some t, some h => match renHeap st.h st.lo g.m g.m h with
    | some h => some { t, h, fz := renFz st.fz g.m (lowIds st.lo st.fz), nx := g.nx, lo := st.lo }
    | none => none
  | _, _ => none
def firstRegion : Code → Option Nat
  | .region id _ _ => some id
  | .seq a b => match firstRegion a with
    | some n => some n
    | none => firstRegion b
  | .cond _ a b => match firstRegion a with
    | some n => some n
    | none => firstRegion b
  | .block _ c | .loop c | .scope c => firstRegion c
  | _ => none
structure Calls where
  pure : (R : Type) → FuncId → List V → (List V → Option R) → Option R
  inl : (R : Type) → FuncId → List V → St → (List V → St → Option R) → Option R
section
variable {R : Type}
def guarded (all : List Oper) (o : Oper) (st : St) (yes no : St → Option R) : Option R :=
  match o.guard with
  | none => yes st
  | some (j, want) => match (all[j]?).bind (·.dst) with
    | none => none
    | some d => match get d st.t with
      | some (.bool b) => cond b ((bif want then yes else no) { st with t := ins d (.bool true) st.t }) ((bif want then no else yes) { st with t := ins d (.bool false) st.t })
      | some .undef => no st
      | _ => none
def addObjs : Nat → List Obj → Heap → Heap
  | _, [], h => h
  | nx, o :: r, h => addObjs (nx + 1) r (ins nx o h)
def setT (d : Option Nat) (v : V) (t : List (Nat × V)) : List (Nat × V) :=
  match d with
  | some d => ins d v t
  | none => t
def withRes (dst : Option Nat) (r : Res) (st : St) : St :=
  { st with t := setT dst r.v st.t, h := addObjs st.nx r.objs st.h, nx := st.nx + r.objs.length, fz := r.fz ++ st.fz }
def withBk (dst : Option Nat) (b : Bk) : St := { b.st with t := setT dst b.v b.st.t }
def tupOf : List V → V
  | [v] => v
  | l => .tup l
def withCall (dst : Option Nat) (r : List V) (F : List Nat) (st : St) : St :=
  { st with t := setT dst (tupOf (impTup r st.nx).1) st.t, h := addObjs st.nx (impTup r st.nx).2 st.h, nx := st.nx + (impTup r st.nx).2.length, fz := F ++ st.fz }
def callV (E : Env) (C : Calls) (dst : Option Nat) (f : FuncId) (args : List V) (st : St) (k : St → Option R) : Option R :=
  match E.md f with
  | .pure => match snapArgs st.h args with
    | some as => C.pure R f as fun r => k (withCall dst r [] st)
    | none => none
  | .fix => match fixArgs st.h args with
    | some p => match snapArgs [] p.1 with
      | some as => C.pure R f as fun r => k (withCall dst r p.2 st)
      | none => none
    | none => none
  | .inl => C.inl R f args st fun vs st' => k { st' with t := setT dst (tupOf vs) st'.t }
def splitOf (ty : Tys) (t : List (Nat × V)) : Op → Option (Nat × Int × (Nat → Op))
  | .indexAddr a x i => match slElem ty a, tyAt ty a, evalO t i with
    | none, some ti, some (.int k n) => some (ti.alen, n, fun j => .indexAddr a x (.const (.int k (Int.ofNat j))))
    | _, _, _ => none
  | .index a x i => match tyAt ty a, evalO t i with
    | some ti, some (.int k n) => bif ti.agg then some (ti.alen, n, fun j => .index a x (.const (.int k (Int.ofNat j)))) else none
    | _, _ => none
  | _ => none
def splitGo (n : Int) (mk : Nat → Op) (k : Op → Option R) : Nat → Nat → Option R
  | 0, _ => none
  | m + 1, j => cond (eqI n (Int.ofNat j)) (k (mk j)) (splitGo n mk k m (j + 1))
def splitIx (s : Option (Nat × Int × (Nat → Op))) (op : Op) (k : Op → Option R) : Option R :=
  match s with
  | none => k op
  | some p => splitGo p.2.1 p.2.2 k p.1 0
theorem splitGo_det {n : Int} {mk : Nat → Op} {k : Op → Option R} {r : R} : ∀ (m j : Nat), splitGo n mk k m j = some r → ∃ j', n = Int.ofNat j' ∧ k (mk j') = some r ∧ ∀ (R' : Type) (k' : Op → Option R'), splitGo n mk k' m j = k' (mk j')
  | 0, _, h => by simp [splitGo] at h
  | m + 1, j, h => by
    unfold splitGo at h
    cases he : eqI n (Int.ofNat j) with
    | true =>
      rw [he] at h
      simp only [cond_true] at h
      exact ⟨j, by unfold eqI at he; simpa using he, h, fun R' k' => by unfold splitGo; rw [he]; rfl⟩
    | false =>
      rw [he] at h
      simp only [cond_false] at h
      obtain ⟨j', h1, h2, h3⟩ := splitGo_det m (j + 1) h
      exact ⟨j', h1, h2, fun R' k' => by unfold splitGo; rw [he]; simp only [cond_false]; exact h3 R' k'⟩
theorem splitIx_det {ty : Tys} {t : List (Nat × V)} {op : Op} {k : Op → Option R} {r : R} (h : splitIx (splitOf ty t op) op k = some r) :
    ∃ op', k op' = some r ∧ (∀ (R' : Type) (k' : Op → Option R'), splitIx (splitOf ty t op) op k' = k' op') ∧
      (op' = op ∨ (∃ a x i kk n, op = .indexAddr a x i ∧ evalO t i = some (.int kk n) ∧ op' = .indexAddr a x (.const (.int kk n))) ∨ (∃ a x i kk n, op = .index a x i ∧ evalO t i = some (.int kk n) ∧ op' = .index a x (.const (.int kk n)))) := by
  unfold splitIx at h
  split at h
  · rename_i hs
    exact ⟨op, h, fun R' k' => by unfold splitIx; rw [hs], .inl rfl⟩
  · rename_i p hs
    obtain ⟨j, h1, h2, h3⟩ := splitGo_det p.1 0 h
    refine ⟨_, h2, fun R' k' => by unfold splitIx; rw [hs]; exact h3 R' k', .inr ?_⟩
    unfold splitOf at hs
    split at hs
    · rename_i a x i
      split at hs
      · rename_i ti kk n _ _ hi
        simp only [Option.some.injEq] at hs
        subst hs
        simp only at h1
        exact .inl ⟨a, x, i, kk, n, rfl, hi, by simp only [h1]⟩
      · simp at hs
    · rename_i a x i
      split at hs
      · rename_i ti kk n _ hi
        cases hag : ti.agg with
        | false => rw [hag] at hs; simp at hs
        | true =>
          rw [hag] at hs
          simp only [cond_true, Option.some.injEq] at hs
          subst hs
          simp only at h1
          exact .inr ⟨a, x, i, kk, n, rfl, hi, by simp only [h1]⟩
      · simp at hs
    · simp at hs
def step (E : Env) (C : Calls) (o : Oper) (st : St) (k : St → Option R) : Option R :=
  match o.op with
  | .call c => match c.callee with
    | .builtin b => match evalAll st.t c.args.toList with
      | some args => match b, args, c.argTypes.toList with
        | .len, [x], t :: _ => match lenV E.ty st.h t x with
          | some v => k (withRes o.dst { v } st)
          | none => none
        | .append, [s, x], [t, t2] => match slElem E.ty t2, appendV E.ty st t s x with
          | some _, some b => cond b.ok (k (withBk o.dst b)) none
          | _, _ => none
        | .clear, [x], t :: _ => match (slElem E.ty t).bind fun e => clearV E.ty st e x with
          | some b => cond b.ok (k (withBk o.dst b)) none
          | none => none
        | .max, l, _ => match minMax true l with
          | some v => k (withRes o.dst { v } st)
          | none => none
        | .min, l, _ => match minMax false l with
          | some v => k (withRes o.dst { v } st)
          | none => none
        | _, _, _ => none
      | none => none
    | .value x => match evalO st.t x, evalAll st.t c.args.toList with
      | some (.fn f first captured), some args => callV E C o.dst f (first ++ args ++ captured) st k
      | _, _ => none
    | _ => none
  | .store t a x => match evalO st.t a, evalO st.t x with
    | some p, some v => match storeV E.ty st t p v with
      | some b => cond b.ok (k { b.st with t := setT o.dst .undef b.st.t }) none
      | none => none
    | _, _ => none
  | .mapUpdate t m a x => match evalO st.t m, evalO st.t a, evalO st.t x with
    | some m, some a, some v => match mapPut E.ty st t m a v with
      | some b => cond b.ok (k { b.st with t := setT o.dst .undef b.st.t }) none
      | none => none
    | _, _, _ => none
  | .mapEntry t m a => match evalO st.t m, evalO st.t a with
    | some m, some a => match mapEnter E.ty st t m a with
      | some b => cond b.ok (k (withBk o.dst b)) none
      | none => none
    | _, _ => none
  | .entryStore _ m s x => match evalO st.t m, evalO st.t s, evalO st.t x with
    | some m, some s, some v => match mapStamp E.ty st m s v with
      | some b => cond b.ok (k { b.st with t := setT o.dst .undef b.st.t }) none
      | none => none
    | _, _, _ => none
  | op => splitIx (splitOf E.ty st.t op) op fun op => match front E.ty st.h st.nx (evalO st.t) o.type op with
    | some r => cond r.ok (k (withRes o.dst r st)) none
    | none => none
def runOps (E : Env) (C : Calls) (all : List Oper) : List Oper → St → (St → Option R) → Option R
  | [], st, k => k st
  | o :: r, st, k => guarded all o st
      (fun st => step E C o st fun st' => runOps E C all r st' k)
      (fun st => runOps E C all r { st with t := setT o.dst .undef st.t } k)
end
def bindsE (e : Edge) : Bool :=
  match e.ground with
  | .textOnly _ | .gcOnly _ => false
  | _ => true
def bitN (m i : Nat) : Bool := Nat.testBit m i
def maskOf (acc : List Nat) : List Edge → Nat
  | [] => 0
  | e :: r => bif bindsE e then (2 ^ e.on ||| acc.getD e.on 0) ||| maskOf acc r else maskOf acc r
def masks : List Oper → List Nat → List Nat
  | [], acc => acc
  | o :: r, acc => masks r (acc ++ [maskOf acc o.after.toList])
structure Pl where
  i : Nat
  m : Nat
  x : List Nat
def backT (E : Env) (o : Oper) : Bool :=
  match o.op with
  | .store .. | .mapUpdate .. | .mapEntry .. | .entryStore .. => true
  | .call c => match c.callee with
    | .builtin .append | .builtin .clear => true
    | .value (.func f) => match E.md f with
      | .inl => true
      | _ => false
    | _ => false
  | _ => false
def backOp (E : Env) (t : List (Nat × V)) (o : Oper) : Bool :=
  match o.op with
  | .store .. | .mapUpdate .. | .mapEntry .. | .entryStore .. => true
  | .call c => match c.callee with
    | .builtin .append | .builtin .clear => true
    | .builtin _ => false
    | .value x => match evalO t x with
      | some (.fn f _ _) => match E.md f with
        | .inl => true
        | _ => false
      | _ => true
    | _ => true
  | _ => false
def targets (t : List (Nat × V)) (o : Oper) : Option (List Nat) :=
  match (match o.op with
    | .store _ a _ => evalO t a
    | .mapUpdate _ m _ _ | .mapEntry _ m _ | .entryStore _ m _ _ => evalO t m
    | .call c => match c.callee, c.args.toList with
      | .builtin _, a :: _ => evalO t a
      | _, _ => none
    | _ => none) with
  | some (.ptr id _) | some (.elem id _ _) | some (.mp id) | some (.own id) | some (.owns id _ _) => some [id]
  | _ => none
def nthBacks (E : Env) : Nat → List Oper → List Nat
  | _, [] => []
  | n, o :: r => bif backT E o then n :: nthBacks E (n + 1) r else nthBacks E (n + 1) r
def orderOf (ms : List Nat) (n : Nat) : List Nat → Nat → List Nat
  | [], done => (List.range n).filter fun i => notB (bitN done i)
  | b :: r, done =>
    ((List.range b).filter fun i => bitN (ms.getD b 0) i && notB (bitN done i)) ++ b :: orderOf ms n r (done ||| ms.getD b 0 ||| 2 ^ b)
def strange (ms : List Nat) (i m : Nat) : Nat → List Oper → List Nat
  | _, [] => []
  | n, o :: r => match o.dst with
    | some d => bif Nat.beq n i || bitN m n || bitN (ms.getD n 0) i then strange ms i m (n + 1) r else d :: strange ms i m (n + 1) r
    | none => strange ms i m (n + 1) r
def planOf (E : Env) (ops : List Oper) : List Pl :=
  let ms := masks ops []
  (orderOf ms ops.length (nthBacks E 0 ops) 0).map fun i => { i, m := ms.getD i 0, x := strange ms i (ms.getD i 0) 0 ops }
def dropK {α : Type} (ds : List Nat) : List (Nat × α) → List (Nat × α)
  | [] => []
  | p :: r => bif has p.1 ds then dropK ds r else p :: dropK ds r
structure Lg where
  i : Nat
  ids : List Nat
  b : Bool
  all : Bool
  h0 : Heap
def apartL (m : Nat) : List Lg → List Lg
  | [] => []
  | l :: r => bif bitN m l.i then apartL m r else l :: apartL m r
def anyB : List Lg → Bool
  | [] => false
  | l :: r => l.b || anyB r
def anyAll : List Lg → Bool
  | [] => false
  | l :: r => l.all || anyAll r
def idsOf : List Lg → List Nat
  | [] => []
  | l :: r => l.ids ++ idsOf r
def viewH (u : List Lg) (h : Heap) : Heap := bif anyAll u then [] else dropK (idsOf u) h
def news (a : Nat) : Nat → List Nat
  | 0 => []
  | n + 1 => a :: news (a + 1) n
def backSlot (d : Option Nat) (tv t : List (Nat × V)) : List (Nat × V) :=
  match d with
  | some d => match get d tv with
    | some v => ins d v t
    | none => dropK [d] t
  | none => t
def keysBelow (nx : Nat) : Heap → Bool
  | [] => true
  | p :: r => Nat.blt p.1 nx && keysBelow nx r
def graft (nx : Nat) : Heap → Heap → Heap
  | [], h => h
  | p :: r, h => bif Nat.ble nx p.1 then ins p.1 p.2 (graft nx r h) else graft nx r h
def logOf (E : Env) (p : Pl) (o : Oper) (st sv : St) : Lg :=
  { i := p.i, ids := (bif backOp E (dropK p.x st.t) o then (targets (dropK p.x st.t) o).getD [] else []) ++ news st.nx (sv.nx - st.nx), b := backOp E (dropK p.x st.t) o, all := backOp E (dropK p.x st.t) o && (targets (dropK p.x st.t) o).isNone, h0 := st.h }
def sameI (d : Option Nat) (t u : List (Nat × V)) : Bool := match d with
  | some d => (match get d t, get d u with
    | some (.int k a), some (.int k' b) => IntKind.same k k' && eqI a b
    | some (.bool a), some (.bool b) => eqB a b
    | _, _ => false)
  | none => false
def backsL : List Lg → List Lg
  | [] => []
  | l :: r => bif l.b then l :: backsL r else backsL r
def butL (i : Nat) : List Lg → List Lg
  | [] => []
  | l :: r => bif Nat.beq l.i i then butL i r else l :: butL i r
def swapOf (all : List Oper) (o : Oper) (u : List Lg) : Option (Lg × List Lg) := match o.op with
  | .lookup _ _ _ false => (match backsL u with
    | [l0] => (match (all[l0.i]?).map Oper.op with
      | some (Op.mapEntry _ _ _) => some (l0, butL l0.i u)
      | _ => none)
    | _ => none)
  | _ => none
section
variable {R : Type}
def runD (E : Env) (C : Calls) (all : List Oper) : List Pl → St → List Lg → (St → Option R) → Option R
  | [], st, _, k => bif keysBelow st.nx st.h then k st else none
  | p :: r, st, log, k => match all[p.i]? with
    | none => none
    | some o => bif notB (keysBelow st.nx st.h) then none else guarded all o st
      (fun st => match apartL p.m log with
        | [] => step E C o { st with t := dropK p.x st.t } fun sv =>
          bif notB (Nat.ble st.nx sv.nx && Nat.beq sv.lo st.lo) then none else
          runD E C all r { sv with t := backSlot o.dst sv.t st.t } (logOf E p o st sv :: log) k
        | u => bif backOp E (dropK p.x st.t) o then none else match swapOf all o u with
        | some q => (match step E C o { st with t := dropK p.x st.t, h := viewH q.2 st.h } some, step E C o { st with t := dropK p.x st.t, h := viewH q.2 q.1.h0 } some with
          | some sv, some sw => bif sameI o.dst sv.t sw.t && Nat.beq sv.nx st.nx && Nat.beq sw.nx st.nx && Nat.beq sv.fz.length st.fz.length && Nat.beq sw.fz.length st.fz.length then
              runD E C all r { st with t := backSlot o.dst sv.t st.t } ({ i := p.i, ids := [], b := false, all := false, h0 := st.h } :: log) k
            else none
          | _, _ => none)
        | none =>
          step E C o { st with t := dropK p.x st.t, h := viewH u st.h } fun sv =>
            bif anyB u && notB (Nat.beq sv.nx st.nx && Nat.beq sv.fz.length st.fz.length) then none else
            runD E C all r { sv with t := backSlot o.dst sv.t st.t, h := graft st.nx sv.h st.h } ({ i := p.i, ids := news st.nx (sv.nx - st.nx), b := false, all := false, h0 := st.h } :: log) k)
      (fun st => runD E C all r { st with t := setT o.dst .undef st.t } ({ i := p.i, ids := [], b := false, all := false, h0 := st.h } :: log) k)
end
section
variable {R : Type}
def loopN (body : St → (Ex → St → Option R) → Option R) (head : St → Option St) : Nat → St → (Ex → St → Option R) → Option R
  | 0, _, _ => none
  | n + 1, st, k => match head st with
    | some st => body st fun e st' => match e with
      | .normal => loopN body head n st' k
      | e => k e st'
    | none => none
def exec (E : Env) (C : Calls) (f : FuncId) (N : Nat) : Code → St → (Ex → St → Option R) → Option R
  | .skip, st, k => k .normal st
  | .region _ ops dr, st, k => bif dr then runD E C ops.toList (planOf E ops.toList) st [] fun st' => k .normal { st' with t := restrict (E.keep f) st'.t }
    else runOps E C ops.toList ops.toList st fun st' => k .normal { st' with t := restrict (E.keep f) st'.t }
  | .seq a b, st, k => exec E C f N a st fun e st' => match e with
    | .normal => exec E C f N b st' k
    | e => k e st'
  | .cond c a b, st, k => match evalO st.t c with
    | some (.bool x) => cond x (exec E C f N a st k) (exec E C f N b st k)
    | _ => none
  | .block id c, st, k => exec E C f N c st fun e st' => match e with
    | .exit j => bif Nat.beq j id then k .normal st' else k (.exit j) st'
    | e => k e st'
  | .loop c, st, k => loopN (exec E C f N c) (canon 4096 (E.live f ((firstRegion c).getD 0))) N st k
  | .exit id, st, k => k (.exit id) st
  | .ret, st, k => k .ret st
  | _, _, _ => none
def argT : Nat → List V → List (Nat × V)
  | _, [] => []
  | n, v :: r => (n, v) :: argT (n + 1) r
def resultOf (ty : Tys) (fn : Func) (st : St) : Option (List V) := go fn.results.toList fn.resultTypes.toList
where go : List ResultVar → List TypeId → Option (List V)
  | [], [] => some []
  | .tmp t :: r, _ :: s => match get t st.t, go r s with
    | some v, some l => some (v :: l)
    | _, _ => none
  | .cell a t :: r, _ :: s => match front ty st.h st.nx (evalO st.t) t (.load t (.tmp a)), go r s with
    | some x, some l => bif x.ok then some (x.v :: l) else none
    | _, _ => none
  | _, _ => none
def expRes (h : Heap) (fz : List Nat) : List V → Option (List V)
  | [] => some []
  | v :: r => match expV h fz v, expRes h fz r with
    | some x, some s => some (x :: s)
    | _, _ => none
end
def pureBody (E : Env) (N : Nat) (C : Calls) (f : FuncId) (args : List V) : Option (List V) :=
  match E.fn f with
  | some fn => match fn.body with
    | some c => bif Nat.beq args.length (fn.params.size + fn.nfree) then
        exec E C f N c { t := argT 0 args, h := [], fz := [], nx := 0, lo := 0 } fun e st => match e with
          | .exit _ => none
          | _ => match resultOf E.ty fn st with
            | some vs => bif once (ownIds (vs.flatMap V.flat)) then
                match expRes st.h st.fz vs with
                | some r => some r
                | none => none
              else none
            | none => none
      else none
    | none => none
  | none => none
def liveHeap (m : Ren) (lo : Nat) : Heap → Heap
  | [] => []
  | p :: r => bif Nat.blt p.1 lo then p :: liveHeap m lo r else match get p.1 m with
    | some _ => p :: liveHeap m lo r
    | none => liveHeap m lo r
def dropDead (as : List V) (st : St) : St := { st with h := liveHeap (gcV st.h 0 4096 (as ++ st.t.map (·.2) ++ lowCells st.lo st.h) ⟨[], 0⟩).m st.lo st.h }
def endCall (vs : List V) (st : St) : Option (List V × St) := match canon 4096 [0] { st with t := [(0, .tup vs)] } with
  | some st' => match get 0 st'.t with
    | some (.tup ws) => some (ws, st')
    | _ => none
  | none => none
def inlBody {R : Type} (E : Env) (N : Nat) (C : Calls) (f : FuncId) (args : List V) (st : St) (k : List V → St → Option R) : Option R :=
  match E.fn f with
  | some fn => match fn.body with
    | some c => bif Nat.beq args.length (fn.params.size + fn.nfree) then
        exec E C f N c { dropDead args st with t := argT 0 args, lo := st.nx } fun e st' => match e with
          | .exit _ => none
          | _ => match (resultOf E.ty fn st').bind fun vs => endCall vs st' with
            | some p => k p.1 { p.2 with t := st.t, lo := st.lo }
            | none => none
      else none
    | none => none
  | none => none
def inlCore {R : Type} (E : Env) (N : Nat) (C : Calls) (f : FuncId) (st : St) (k : List V → St → Option R) : Option R :=
  match E.fn f with
  | some fn => match fn.body with
    | some c => exec E C f N c st fun e st' => match e with
          | .exit _ => none
          | _ => match (resultOf E.ty fn st').bind fun vs => endCall vs st' with
            | some p => k p.1 p.2
            | none => none
    | none => none
  | none => none
mutual
def dirV : V → List Nat
  | .own id | .owns id _ _ | .elem id _ _ | .mp id | .ptr id _ => [id]
  | .agg l | .tup l | .ro l => dirL l
  | .fn _ a b => dirL a ++ dirL b
  | _ => []
def dirL : List V → List Nat
  | [] => []
  | v :: r => dirV v ++ dirL r
end
def addAll : List Nat → Gc → Gc
  | [], g => g
  | id :: r, g => addAll r (g.add 0 id)
def cellsAt (h : Heap) : List Nat → List V
  | [] => []
  | id :: r => match get id h with
    | some (.cells l) => l ++ cellsAt h r
    | _ => cellsAt h r
structure Sub where
  as : List V
  st : St
  p : Ren
  m : Ren
def subStart (as : List V) (st : St) : Option Sub :=
  let g0 := addAll (dirL as) ⟨[], 0⟩
  let g := gcV st.h 0 4096 (cellsAt st.h (dirL as) ++ as) g0
  bif Nat.ble g0.nx g.nx then
    match renL 0 g.m as, renHeap st.h 0 g.m g.m [] with
    | some xs, some h => some { as := xs, st := { t := argT 0 xs, h, fz := renFz st.fz g.m [], nx := g.nx, lo := g0.nx }, p := g0.m, m := g.m }
    | _, _ => none
  else none
def restHeap (m : Ren) (nx : Nat) : Heap → Heap
  | [] => []
  | p :: r => bif Nat.blt p.1 nx then (match get p.1 m with
      | some _ => restHeap m nx r
      | none => p :: restHeap m nx r) else restHeap m nx r
def swapR : Ren → Ren
  | [] => []
  | p :: r => (p.2, p.1) :: swapR r
def upR : Nat → Nat → Nat → Ren
  | _, _, 0 => []
  | p, nx, n + 1 => (p, nx) :: upR (p + 1) (nx + 1) n
def subEnd (s : Sub) (st : St) (ws : List V) (st3 : St) : Option (List V × St) :=
  let ρ := swapR s.p ++ upR s.st.lo st.nx (st3.nx - s.st.lo)
  match renL 0 ρ ws, renHeap st3.h 0 ρ ρ (restHeap s.m st.nx st.h) with
  | some xs, some h => some (xs, { t := st.t, h, fz := renFz st3.fz ρ st.fz, nx := st.nx + (st3.nx - s.st.lo), lo := st.lo })
  | _, _ => none
def subBodyS {R : Type} (E : Env) (core : FuncId → St → (List V → St → Option R) → Option R) (f : FuncId) (args : List V) (st : St) (k : List V → St → Option R) : Option R :=
  match E.fn f with
  | some fn => bif Nat.beq args.length (fn.params.size + fn.nfree) then
      match subStart args st with
      | some s => core f s.st fun ws st3 => match subEnd s st ws st3 with
        | some p => k p.1 p.2
        | none => none
      | none => none
    else none
  | none => none
def PureDet (C : Calls) : Prop := ∀ (R : Type) (f : FuncId) (as : List V) (k : List V → Option R) (r : R), C.pure R f as k = some r →
  ∃ r0, k r0 = some r ∧ ∀ (R' : Type) (k' : List V → Option R'), C.pure R' f as k' = k' r0
def InlDet (C : Calls) : Prop := PureDet C ∧ ∀ (R : Type) (f : FuncId) (as : List V) (st : St) (k : List V → St → Option R) (r : R), C.inl R f as st k = some r →
  ∃ ws st', k ws st' = some r ∧ ∀ (R' : Type) (k' : List V → St → Option R'), C.inl R' f as st k' = k' ws st'
end Go.Vm
end
section
namespace Go.Vm
open Go.RowKit
structure Info where
  a : Option Addr := none
  len : Nat := 0
  cap : Nat := 0
  on : Bool := true
  b : Nat := 0
  o : Nat := 0
  sz : Nat := 1
structure Ctx where
  w : World
  base : Nat
  F : Nat → Prop
  I : Nat → Nat → Prop
  μ : Nat → Option Info
def Mine (c : Ctx) (b : Nat) : Prop := c.base ≤ b ∧ ¬ c.F b
def Room (c : Ctx) : Prop := c.base ≤ c.w.heap.size ∧ ∀ b, c.F b → b < c.w.heap.size
theorem Room.mine {c : Ctx} (h : Room c) : Mine c c.w.heap.size := ⟨h.1, fun g => Nat.lt_irrefl _ (h.2 _ g)⟩
def Imm (c : Ctx) : Tag → Nat → Nat → Prop
  | .bor, b, o => (b < c.base ∧ b < c.w.heap.size) ∨ c.I b o
  | .frz, b, o => c.I b o
  | .new, _, _ => False
def isCell : Value → Prop
  | .agg _ | .tuple _ => False
  | _ => True
mutual
def VR (ty : Tys) (c : Ctx) : V → Value → Prop
  | .undef, x => x = Go.undef
  | .bool b, x => x = .bool b
  | .int k n, x => x = .int k n
  | .str s, x => x = .string s
  | .ints t k l, x => ∃ a cap, x = .slice a l.length cap ∧ l.length ≤ cap ∧
      (l = [] ∨ ∃ b o, a = some ⟨b, o, none⟩ ∧ ∀ j (h : j < l.length), Imm c t b (o + j) ∧ c.w.cell? ⟨b, o + j, none⟩ = some (.int k l[j]))
  | .bools t l, x => ∃ a cap, x = .slice a l.length cap ∧ l.length ≤ cap ∧
      (l = [] ∨ ∃ b o, a = some ⟨b, o, none⟩ ∧ ∀ j (h : j < l.length), Imm c t b (o + j) ∧ c.w.cell? ⟨b, o + j, none⟩ = some (.bool l[j]))
  | .vals t e l, x => ∃ a cap ei, x = .slice a l.length cap ∧ l.length ≤ cap ∧ tyAt ty e = some ei ∧ shOf ty e = some .vals ∧
      (∀ v ∈ l, okV ty .frz ei v = true) ∧
      (l = [] ∨ ∃ b o, a = some ⟨b, o, none⟩ ∧ ER ty c t ei.leaves.length l b o)
  | .own id, x => ∃ i, c.μ id = some i ∧ x = .slice i.a i.len i.cap
  | .owns id off len, x => ∃ i a cap, c.μ id = some i ∧ x = .slice a len cap ∧ off + len ≤ i.len ∧ len ≤ cap ∧ off + cap = i.cap ∧
      (cap = 0 ∨ (i.on = true ∧ a = some ⟨i.b, i.o + off * i.sz, none⟩))
  | .ptr id off, x => ∃ i, c.μ id = some i ∧ i.on = true ∧ x = .pointer (some ⟨i.b, i.o + off, none⟩)
  | .elem id idx off, x => ∃ i, c.μ id = some i ∧ i.on = true ∧ idx < i.len ∧ x = .pointer (some ⟨i.b, i.o + idx * i.sz + off, none⟩)
  | .ro l, x => ∃ b o, x = .pointer (some ⟨b, o, none⟩) ∧ MR ty c l b o
  | .nilp, x => x = .pointer none
  | .agg l, x => ∃ xs, x = .agg xs ∧ CR ty c l xs.toList
  | .tup l, x => ∃ xs, x = .tuple xs ∧ LR ty c l xs.toList
  | .fn f p q, x => ∃ ps qs, x = .func (.func f) ps qs ∧ LR ty c p ps.toList ∧ LR ty c q qs.toList
  | .nilfn, x => x = .nilFunc
  | .nils, x => x = .slice none 0 0
  | .mp id, x => ∃ i, c.μ id = some i ∧ i.on = true ∧ x = .map (some i.b)
  | .nilmp, x => x = .map none
def CR (ty : Tys) (c : Ctx) : List V → List Value → Prop
  | [], xs => xs = []
  | v :: r, xs => ∃ y ys, xs = y :: ys ∧ VR ty c v y ∧ isCell y ∧ CR ty c r ys
def LR (ty : Tys) (c : Ctx) : List V → List Value → Prop
  | [], xs => xs = []
  | v :: r, xs => ∃ y ys, xs = y :: ys ∧ VR ty c v y ∧ LR ty c r ys
def ER (ty : Tys) (c : Ctx) (t : Tag) (sz : Nat) : List V → Nat → Nat → Prop
  | [], _, _ => True
  | v :: r, b, o => (∃ y, VR ty c v y ∧ y.cells.size = sz ∧ ∀ j, j < sz → Imm c t b (o + j) ∧ c.w.cell? ⟨b, o + j, none⟩ = y.cells[j]?) ∧ ER ty c t sz r b (o + sz)
def MR (ty : Tys) (c : Ctx) : List V → Nat → Nat → Prop
  | [], _, _ => True
  | v :: r, b, o => (∃ y, VR ty c v y ∧ isCell y ∧ Imm c .bor b o ∧ c.w.cell? ⟨b, o, none⟩ = some y) ∧ MR ty c r b (o + 1)
end
structure Ext (c c' : Ctx) : Prop where
  base : c'.base = c.base
  fr : c'.F = c.F
  below : Below c.base c.w c'.w
  keeps : ∀ b, b < c.w.heap.size → c.F b → c'.w.heap[b]? = c.w.heap[b]?
  hI : ∀ b o, c.I b o → c'.I b o
  hnew : ∀ b o, c'.I b o → c.I b o ∨ Mine c b
  hcell : ∀ b o, c.I b o → c'.w.cell? ⟨b, o, none⟩ = c.w.cell? ⟨b, o, none⟩
  hμ : ∀ id i, c.μ id = some i → c'.μ id = some i
theorem Ext.mine {c c' : Ctx} (h : Ext c c') {b : Nat} (g : Mine c b) : Mine c' b := ⟨h.base ▸ g.1, h.fr ▸ g.2⟩
theorem Room.mono {c c' : Ctx} (h : Ext c c') (g : Room c) : Room c' := ⟨by rw [h.base]; exact Nat.le_trans g.1 h.below.size, fun b hb => Nat.lt_of_lt_of_le (g.2 b (h.fr ▸ hb)) h.below.size⟩
theorem Ext.refl (c : Ctx) : Ext c c :=
  ⟨rfl, rfl, Below.refl _ _, fun _ _ _ => rfl, fun _ _ h => h, fun _ _ h => .inl h, fun _ _ _ => rfl, fun _ _ h => h⟩
theorem Ext.trans {a b c : Ctx} (h : Ext a b) (k : Ext b c) : Ext a c where
  base := k.base.trans h.base
  fr := k.fr.trans h.fr
  below := h.below.trans (h.base ▸ k.below)
  keeps := fun b hb hF => (k.keeps b (Nat.lt_of_lt_of_le hb h.below.size) (h.fr ▸ hF)).trans (h.keeps b hb hF)
  hI := fun x y z => k.hI _ _ (h.hI x y z)
  hnew := fun x y z => by
    rcases k.hnew x y z with z | z
    · exact h.hnew x y z
    · exact .inr ⟨h.base ▸ z.1, h.fr ▸ z.2⟩
  hcell := fun x y z => (k.hcell _ _ (h.hI x y z)).trans (h.hcell x y z)
  hμ := fun x y z => k.hμ _ _ (h.hμ x y z)
theorem Ext.imm {c c' : Ctx} (h : Ext c c') {t : Tag} {b o : Nat} (hi : Imm c t b o) :
    Imm c' t b o ∧ c'.w.cell? ⟨b, o, none⟩ = c.w.cell? ⟨b, o, none⟩ := by
  cases t with
  | bor =>
    rcases hi with hi | hi
    · exact ⟨.inl ⟨h.base ▸ hi.1, Nat.lt_of_lt_of_le hi.2 h.below.size⟩, h.below.cell (p := ⟨b, o, none⟩) hi.1⟩
    · exact ⟨.inr (h.hI _ _ hi), h.hcell _ _ hi⟩
  | frz => exact ⟨h.hI _ _ hi, h.hcell _ _ hi⟩
  | new => exact hi.elim
mutual
theorem VR.mono {ty : Tys} {c c' : Ctx} (h : Ext c c') : ∀ {v : V} {x : Value}, VR ty c v x → VR ty c' v x
  | .undef, _, hv => by simpa only [VR] using hv
  | .bool _, _, hv => by simpa only [VR] using hv
  | .int _ _, _, hv => by simpa only [VR] using hv
  | .str _, _, hv => by simpa only [VR] using hv
  | .ints _ _ _, _, hv => by
    simp only [VR] at hv ⊢
    obtain ⟨a, cap, e, hc, hl⟩ := hv
    refine ⟨a, cap, e, hc, hl.imp id ?_⟩
    rintro ⟨b, o, ha, hj⟩
    exact ⟨b, o, ha, fun j hlt => ⟨(h.imm (hj j hlt).1).1, (h.imm (hj j hlt).1).2.trans (hj j hlt).2⟩⟩
  | .bools _ _, _, hv => by
    simp only [VR] at hv ⊢
    obtain ⟨a, cap, e, hc, hl⟩ := hv
    refine ⟨a, cap, e, hc, hl.imp id ?_⟩
    rintro ⟨b, o, ha, hj⟩
    exact ⟨b, o, ha, fun j hlt => ⟨(h.imm (hj j hlt).1).1, (h.imm (hj j hlt).1).2.trans (hj j hlt).2⟩⟩
  | .vals _ _ l, _, hv => by
    simp only [VR] at hv ⊢
    obtain ⟨a, cap, ei, e, hc, ht, hs, ho, hl⟩ := hv
    refine ⟨a, cap, ei, e, hc, ht, hs, ho, hl.imp id ?_⟩
    rintro ⟨b, o, ha, hj⟩
    exact ⟨b, o, ha, ER.mono h hj⟩
  | .own _, _, hv => by
    simp only [VR] at hv ⊢
    obtain ⟨i, hi, e⟩ := hv
    exact ⟨i, h.hμ _ _ hi, e⟩
  | .owns _ _ _, _, hv => by
    simp only [VR] at hv ⊢
    obtain ⟨i, a, cap, hi, e⟩ := hv
    exact ⟨i, a, cap, h.hμ _ _ hi, e⟩
  | .ptr _ _, _, hv => by
    simp only [VR] at hv ⊢
    obtain ⟨i, hi, e⟩ := hv
    exact ⟨i, h.hμ _ _ hi, e⟩
  | .elem _ _ _, _, hv => by
    simp only [VR] at hv ⊢
    obtain ⟨i, hi, e⟩ := hv
    exact ⟨i, h.hμ _ _ hi, e⟩
  | .ro l, _, hv => by
    simp only [VR] at hv ⊢
    obtain ⟨b, o, e, hl⟩ := hv
    exact ⟨b, o, e, MR.mono h hl⟩
  | .nilp, _, hv => by simpa only [VR] using hv
  | .agg l, _, hv => by
    simp only [VR] at hv ⊢
    obtain ⟨xs, e, hl⟩ := hv
    exact ⟨xs, e, CR.mono h hl⟩
  | .tup l, _, hv => by
    simp only [VR] at hv ⊢
    obtain ⟨xs, e, hl⟩ := hv
    exact ⟨xs, e, LR.mono h hl⟩
  | .fn _ p q, _, hv => by
    simp only [VR] at hv ⊢
    obtain ⟨ps, qs, e, hp, hq⟩ := hv
    exact ⟨ps, qs, e, LR.mono h hp, LR.mono h hq⟩
  | .nilfn, _, hv => by simpa only [VR] using hv
  | .nils, _, hv => by simpa only [VR] using hv
  | .mp _, _, hv => by
    simp only [VR] at hv ⊢
    obtain ⟨i, hi, e⟩ := hv
    exact ⟨i, h.hμ _ _ hi, e⟩
  | .nilmp, _, hv => by simpa only [VR] using hv
theorem CR.mono {ty : Tys} {c c' : Ctx} (h : Ext c c') : ∀ {l : List V} {xs : List Value}, CR ty c l xs → CR ty c' l xs
  | [], _, hl => by simpa only [CR] using hl
  | v :: r, _, hl => by
    simp only [CR] at hl ⊢
    obtain ⟨y, ys, e, hv, hc, hr⟩ := hl
    exact ⟨y, ys, e, VR.mono h hv, hc, CR.mono h hr⟩
theorem LR.mono {ty : Tys} {c c' : Ctx} (h : Ext c c') : ∀ {l : List V} {xs : List Value}, LR ty c l xs → LR ty c' l xs
  | [], _, hl => by simpa only [LR] using hl
  | v :: r, _, hl => by
    simp only [LR] at hl ⊢
    obtain ⟨y, ys, e, hv, hr⟩ := hl
    exact ⟨y, ys, e, VR.mono h hv, LR.mono h hr⟩
theorem ER.mono {ty : Tys} {c c' : Ctx} (h : Ext c c') {t : Tag} {sz : Nat} : ∀ {l : List V} {b o : Nat}, ER ty c t sz l b o → ER ty c' t sz l b o
  | [], _, _, _ => by simp only [ER]
  | v :: r, b, o, hl => by
    simp only [ER] at hl ⊢
    obtain ⟨⟨y, hv, hs, hj⟩, hr⟩ := hl
    exact ⟨⟨y, VR.mono h hv, hs, fun j hlt => ⟨(h.imm (hj j hlt).1).1, (h.imm (hj j hlt).1).2.trans (hj j hlt).2⟩⟩, ER.mono h hr⟩
theorem MR.mono {ty : Tys} {c c' : Ctx} (h : Ext c c') : ∀ {l : List V} {b o : Nat}, MR ty c l b o → MR ty c' l b o
  | [], _, _, _ => by simp only [MR]
  | v :: r, b, o, hl => by
    simp only [MR] at hl ⊢
    obtain ⟨⟨y, hv, hs, hi, hj⟩, hr⟩ := hl
    exact ⟨⟨y, VR.mono h hv, hs, (h.imm hi).1, (h.imm hi).2.trans hj⟩, MR.mono h hr⟩
end
end Go.Vm
end
section
namespace Go.Vm
open Go.RowKit
theorem add_none (b o n : Nat) : (⟨b, o, none⟩ : Addr).add n = ⟨b, o + n, none⟩ := by
  unfold Addr.add
  split
  · subst_vars; rfl
  · rfl
section
variable {P : Program} {w : World}
theorem run_bind {α β : Type} {x : Sem α} {f : α → Sem β} {a : α} {w1 : World} (h : x.run P w = .ok a w1) : (x >>= f).run P w = (f a).run P w1 := by
  have e := Sem.run_bind' P x f w
  rw [h] at e
  exact e
theorem run_pure {α : Type} {a : α} : (pure a : Sem α).run P w = .ok a w := rfl
theorem run_underlying {t : TypeId} {d : TypeDesc} (h : P.underlying t = some d) : (underlying t).run P w = .ok d w := by
  simp [underlying, go_sem, h]
theorem run_typeInfo {t : TypeId} {i : TypeInfo} (h : P.info? t = some i) : (typeInfo t).run P w = .ok i w := by
  simp [typeInfo, go_sem, h]
theorem run_sizeOf {t : TypeId} {i : TypeInfo} (h : P.info? t = some i) : (sizeOf t).run P w = .ok i.size w := by
  simp [sizeOf, go_sem, run_typeInfo h]
theorem run_zeroValue {t : TypeId} {i : TypeInfo} {z : Value} (h : P.info? t = some i) (hz : i.zero = some z) : (zeroValue t).run P w = .ok z w := by
  simp [zeroValue, go_sem, run_typeInfo h, hz]
def isAggP (P : Program) (t : TypeId) : Option Bool :=
  match P.underlying t with
  | some (.struct _) | some (.array _ _) => some true
  | some _ => some false
  | none => none
theorem run_isAgg {t : TypeId} {b : Bool} (h : isAggP P t = some b) : (isAgg t).run P w = .ok b w := by
  unfold isAggP at h
  cases hu : P.underlying t with
  | none => simp [hu] at h
  | some d =>
    unfold isAgg
    simp only [Bind.bind, Sem.run_bind', run_underlying hu, Result.andThen]
    rw [hu] at h
    cases d <;> simp at h <;> subst h <;> rfl
theorem run_loadCellsFrom {b o : Nat} : ∀ (n i : Nat) (acc : Array Value) (xs : List Value), xs.length = n →
    (∀ j (h : j < xs.length), w.cell? ⟨b, o + i + j, none⟩ = some xs[j]) →
    (loadCellsFrom ⟨b, o, none⟩ i n acc).run P w = .ok (acc ++ xs.toArray) w := by
  intro n
  induction n with
  | zero =>
    intro i acc xs hl _
    obtain rfl : xs = [] := List.length_eq_zero_iff.1 hl
    simp [loadCellsFrom, pure]
  | succ n ih =>
    intro i acc xs hl hc
    cases xs with
    | nil => simp at hl
    | cons x xs =>
      have h0 := hc 0 (by simp)
      simp only [Nat.add_zero, List.getElem_cons_zero] at h0
      have hrest := ih (i + 1) (acc.push x) xs (by simpa using hl) (fun j hj => by
        have := hc (j + 1) (by simp; omega)
        simp only [List.getElem_cons_succ] at this
        rw [← this]; congr 2; omega)
      simp only [loadCellsFrom, Bind.bind, Sem.run_bind', load, add_none, Sem.run, h0, Result.andThen, hrest]
      simp
theorem run_loadCells {b o : Nat} {xs : List Value} {n : Nat} (hl : xs.length = n)
    (hc : ∀ j (h : j < xs.length), w.cell? ⟨b, o + j, none⟩ = some xs[j]) : (loadCells ⟨b, o, none⟩ n).run P w = .ok xs.toArray w := by
  have := run_loadCellsFrom (P := P) n 0 #[] xs hl (by simpa using hc)
  simpa [loadCells] using this
theorem run_load {b o : Nat} {x : Value} (h : w.cell? ⟨b, o, none⟩ = some x) : (load ⟨b, o, none⟩).run P w = .ok x w := by
  simp [load, Sem.run, h]
theorem run_loadVar_agg {t : TypeId} {i : TypeInfo} {b o : Nat} {xs : List Value} (hi : P.info? t = some i) (ha : isAggP P t = some true)
    (hl : xs.length = i.size) (hc : ∀ j (h : j < xs.length), w.cell? ⟨b, o + j, none⟩ = some xs[j]) :
    (loadVar t ⟨b, o, none⟩).run P w = .ok (.agg xs.toArray) w := by
  unfold loadVar
  rw [run_bind (run_isAgg ha), if_pos rfl, run_bind (run_sizeOf hi), run_bind (run_loadCells hl hc), run_pure]
theorem run_loadVar_cell {t : TypeId} {b o : Nat} {x : Value} (ha : isAggP P t = some false) (h : w.cell? ⟨b, o, none⟩ = some x) :
    (loadVar t ⟨b, o, none⟩).run P w = .ok x w := by
  unfold loadVar
  rw [run_bind (run_isAgg ha), if_neg (by simp), run_load h]
def setCells (w : World) (b o : Nat) : List Value → World
  | [] => w
  | x :: r => setCells (w.setCell ⟨b, o, none⟩ x) b (o + 1) r
theorem cell_setCell_same {b o : Nat} {x y : Value} (h : w.cell? ⟨b, o, none⟩ = some y) : (w.setCell ⟨b, o, none⟩ x).cell? ⟨b, o, none⟩ = some x := by
  unfold World.cell? at h ⊢
  unfold World.setCell
  simp only [Array.getElem?_modify]
  cases hh : w.heap[b]? with
  | none => simp [hh] at h
  | some ob =>
    cases ob <;> simp [hh] at h
    rename_i cs T fr
    simp
    have : o < cs.size := by
      rcases Nat.lt_or_ge o cs.size with g | g
      · exact g
      · simp [Array.getElem?_eq_none g] at h
    simp [this]
theorem cell_setCell_other {b o : Nat} {x : Value} {p : Addr} (hp : p.spot = none) (h : p.block ≠ b ∨ p.off ≠ o) :
    (w.setCell ⟨b, o, none⟩ x).cell? p = w.cell? p := by
  unfold World.cell? World.setCell
  simp only [Array.getElem?_modify]
  by_cases hb : b = p.block
  · subst hb
    have ho : p.off ≠ o := h.resolve_left (by simp)
    cases hh : w.heap[p.block]? with
    | none => simp
    | some ob => cases ob <;> simp [hp, Array.getElem?_setIfInBounds_ne (Ne.symm ho)]
  · simp [hb]
theorem heap_setCell_other {b o : Nat} {x : Value} {k : Nat} (h : k ≠ b) : (w.setCell ⟨b, o, none⟩ x).heap[k]? = w.heap[k]? :=
  Below.heap_setCell _ _ _ _ h
theorem heap_setCell_same {b o : Nat} {x : Value} {cs : Array Value} {T : TypeId} {fr : Nat × Nat} (h : w.heap[b]? = some (.cells cs T fr)) :
    (w.setCell ⟨b, o, none⟩ x).heap[b]? = some (.cells (cs.setIfInBounds o x) T fr) := by
  simp [World.setCell, Array.getElem?_modify, h]
theorem setCells_below {B : Nat} : ∀ (xs : List Value) (w : World) (b o : Nat), B ≤ b → Below B w (setCells w b o xs)
  | [], _, _, _, _ => Below.refl _ _
  | x :: r, w, b, o, h => ((Below.refl B w).setCell (p := ⟨b, o, none⟩) h x).trans (setCells_below r _ b (o + 1) h)
theorem setCells_heap_other : ∀ (xs : List Value) (w : World) (b o k : Nat), k ≠ b → (setCells w b o xs).heap[k]? = w.heap[k]?
  | [], _, _, _, _, _ => rfl
  | x :: r, w, b, o, k, h => by rw [setCells, setCells_heap_other r _ b (o + 1) k h, heap_setCell_other h]
theorem setCells_cell_other : ∀ (xs : List Value) (w : World) (b o b' o' : Nat), (b' ≠ b ∨ o' < o ∨ o + xs.length ≤ o') →
    (setCells w b o xs).cell? ⟨b', o', none⟩ = w.cell? ⟨b', o', none⟩
  | [], _, _, _, _, _, _ => rfl
  | x :: r, w, b, o, b', o', h => by
    rw [setCells, setCells_cell_other r _ b (o + 1) b' o' (by simp at h; omega), cell_setCell_other rfl]
    simp at h ⊢; omega
theorem setCells_heap_same : ∀ (xs : List Value) (w : World) (b o : Nat) (cs : Array Value) (T : TypeId) (fr : Nat × Nat),
    w.heap[b]? = some (.cells cs T fr) → ∃ cs', (setCells w b o xs).heap[b]? = some (.cells cs' T fr) ∧ cs'.size = cs.size
  | [], _, _, _, cs, _, _, h => ⟨cs, h, rfl⟩
  | x :: r, w, b, o, cs, T, fr, h => by
    obtain ⟨cs', h', hs⟩ := setCells_heap_same r (w.setCell ⟨b, o, none⟩ x) b (o + 1) _ T fr (heap_setCell_same h)
    exact ⟨cs', h', by simpa using hs⟩
theorem setCells_cell_in : ∀ (xs : List Value) (w : World) (b o j : Nat) (h : j < xs.length),
    (∀ i, i < xs.length → ∃ y, w.cell? ⟨b, o + i, none⟩ = some y) → (setCells w b o xs).cell? ⟨b, o + j, none⟩ = some xs[j]
  | [], _, _, _, _, h, _ => absurd h (by simp)
  | x :: r, w, b, o, j, h, hc => by
    rw [setCells]
    cases j with
    | zero =>
      rw [setCells_cell_other r _ b (o + 1) b (o + 0) (by omega)]
      obtain ⟨y, hy⟩ := hc 0 (by simp)
      simpa using cell_setCell_same (x := x) (by simpa using hy)
    | succ j =>
      have := setCells_cell_in r (w.setCell ⟨b, o, none⟩ x) b (o + 1) j (by simpa using h) (fun i hi => by
        obtain ⟨y, hy⟩ := hc (i + 1) (by simp; omega)
        refine ⟨y, ?_⟩
        rw [cell_setCell_other rfl (by simp; omega), ← hy]; congr 2; omega)
      rw [show o + (j + 1) = o + 1 + j from by omega, this]; rfl
theorem run_store {b o : Nat} {x y : Value} (hx : isCell x) (h : w.cell? ⟨b, o, none⟩ = some y) (hf : w.frozen? ⟨b, o, none⟩ = false) :
    (store ⟨b, o, none⟩ x).run P w = .ok () (w.setCell ⟨b, o, none⟩ x) := by
  cases x <;> simp [isCell] at hx <;> simp [store, Sem.run, h, hf]
theorem frozen_of {b o : Nat} {cs : Array Value} {T : TypeId} (h : w.heap[b]? = some (.cells cs T (0, 0))) : w.frozen? ⟨b, o, none⟩ = false := by
  simp [World.frozen?, h]
theorem cell_of {b o : Nat} {cs : Array Value} {T : TypeId} {fr : Nat × Nat} (h : w.heap[b]? = some (.cells cs T fr)) (ho : o < cs.size) :
    w.cell? ⟨b, o, none⟩ = some cs[o] := by
  simp [World.cell?, h, ho]
theorem run_storeCells {b o : Nat} : ∀ (xs : List Value) (w : World) (i : Nat) (cs : Array Value) (T : TypeId),
    (∀ x ∈ xs, isCell x) → w.heap[b]? = some (.cells cs T (0, 0)) → o + i + xs.length ≤ cs.size →
    (storeCells ⟨b, o, none⟩ xs i).run P w = .ok () (setCells w b (o + i) xs)
  | [], _, _, _, _, _, _, _ => by simp [storeCells, setCells, pure]
  | x :: r, w, i, cs, T, hx, hh, hl => by
    have hlt : o + i < cs.size := by simp at hl; omega
    have h1 := run_store (P := P) (hx x (by simp)) (cell_of hh hlt) (frozen_of hh)
    have h2 := run_storeCells (b := b) (o := o) r (w.setCell ⟨b, o + i, none⟩ x) (i + 1) _ T (fun y hy => hx y (by simp [hy])) (heap_setCell_same hh) (by simp at hl ⊢; omega)
    simp only [storeCells, Bind.bind, Sem.run_bind', add_none, h1, Result.andThen, h2, setCells]
    rw [show o + (i + 1) = o + i + 1 from by omega]
theorem run_newRow {T : TypeId} {cs : Array Value} : (newRow T cs).run P w = .ok ⟨w.heap.size, 0, none⟩ (w.alloc (.cells cs T)) := by
  simp [newRow, newObj, go_sem]; rfl
theorem alloc_new {o : Go.Obj} : (w.alloc o).heap[w.heap.size]? = some o := by
  show (w.heap.push o)[w.heap.size]? = _
  simp
theorem alloc_old {o : Go.Obj} {k : Nat} (h : k < w.heap.size) : (w.alloc o).heap[k]? = w.heap[k]? := Below.heap_alloc _ _ _ h
end
end Go.Vm
end
section
namespace Go.Vm
open Go.RowKit
def zeroVal : Leaf → Value
  | .bool => .bool false
  | .int k => .int k 0
  | .str => .string ⟨#[]⟩
  | .sl _ => .slice none 0 0
  | .fn => .nilFunc
  | .ptr => .pointer none
  | .mp => .map none
def PlainLeaf (P : Program) (t : TypeId) : Leaf → Prop
  | .int k => P.underlying t = some (.int k)
  | .bool => P.underlying t = some .bool
  | _ => False
def PlainTy (P : Program) (t : TypeId) (i : TyI) : Prop :=
  (i.agg = true ∧ P.eqGuardType P.depth t = false ∧
    ((i.fields ≠ [] ∧ P.underlying t = some (.struct (P.fieldsOf t)) ∧ P.stoodInHeld t = false ∧ (P.fieldsOf t).size = i.leaves.length ∧
      ∀ (j : Nat) (f : Field) (l : Leaf), (P.fieldsOf t)[j]? = some f → i.leaves[j]? = some l → f.name ≠ "_" ∧ f.offset = j ∧ PlainLeaf P f.type l) ∨
    (∃ (e : TypeId) (l : Leaf) (inf : TypeInfo), i.fields = [] ∧ P.underlying t = some (.array i.leaves.length e) ∧ P.info? e = some inf ∧ inf.size = 1 ∧ (∀ x ∈ i.leaves, x = l) ∧ PlainLeaf P e l))) ∨
  (i.agg = false ∧ ∃ l, i.leaves = [l] ∧ PlainLeaf P t l)
structure TyOk (P : Program) (ty : Tys) : Prop where
  info : ∀ t i, tyAt ty t = some i → i.leaves ≠ [] → ∃ f, P.info? t = some f ∧ f.size = i.leaves.length ∧ f.bytes = i.bytes ∧
    ∃ z, f.zero = some z ∧ z.cells.toList = i.leaves.map zeroVal
  zero : ∀ t i, tyAt ty t = some i → i.leaves ≠ [] → ∃ f z, P.info? t = some f ∧ f.zero = some z ∧ (i.agg = true → ∃ a, z = Value.agg a) ∧ (i.agg = false → z.cells = #[z])
  agg : ∀ t i, tyAt ty t = some i → i.leaves ≠ [] → isAggP P t = some i.agg
  one : ∀ t i, tyAt ty t = some i → i.leaves ≠ [] → i.agg = false → i.leaves.length = 1
  sl : ∀ t e, slElem ty t = some e → P.underlying t = some (.slice e)
  int : ∀ t i k, tyAt ty t = some i → i.agg = false → i.leaves = [.int k] → P.underlying t = some (.int k)
  bool : ∀ t i, tyAt ty t = some i → i.agg = false → i.leaves = [.bool] → P.underlying t = some .bool
  plain : ∀ t i, tyAt ty t = some i → i.plain = true → PlainTy P t i
  str : ∀ t i, tyAt ty t = some i → i.agg = false → i.leaves = [.str] → P.underlying t = some .string
  fld : ∀ s f o fi, fieldOf ty s f = some (o, fi) → ∃ fs fd, P.underlying s = some (.struct fs) ∧ fs[f]? = some fd ∧ fd.offset = o ∧ tyAt ty fd.type = some fi
  place : ∀ t i, tyAt ty t = some i → i.agg = true → i.leaves ≠ [] → ∃ (pl : Nat → Option (Nat × Nat)) (z : Value), z.cells.toList = i.leaves.map zeroVal ∧
    (∀ parts, P.built t parts = Instr.fill pl z.cells parts) ∧ ∀ n p, placeOf ty t i n = some p → pl n = some p
  arr : ∀ t i, tyAt ty t = some i → i.agg = true → 0 < i.alen → P.underlying t = some (.array i.alen i.elem)
  mp : ∀ t i k e, tyAt ty t = some i → i.agg = false → i.leaves = [.mp] → i.fields = [(k, e)] → P.underlying t = some (.map k e)
def BlkOk (c : Ctx) (i : Info) (n fzn : Nat) : Prop :=
  ∃ cs T, c.w.heap[i.b]? = some (.cells cs T (0, 0)) ∧ i.o + n ≤ cs.size ∧ Mine c i.b ∧ ∀ j, fzn ≤ j → j < n → ¬ c.I i.b (i.o + j)
def fzn (fz : Bool) (i : Info) : Nat := if fz then i.len * i.sz else 0
def ArrOk (c : Ctx) (fz : Bool) (i : Info) (sz len : Nat) : Prop :=
  i.sz = sz ∧ 0 < sz ∧ i.len = len ∧ i.len ≤ i.cap ∧ (i.on = false → i.cap = 0) ∧
  (i.on = true → i.a = some ⟨i.b, i.o, none⟩ ∧ BlkOk c i (i.cap * i.sz) (fzn fz i))
structure MapOk (ty : Tys) (c : Ctx) (kt et : TypeId) (l : List (V × V × Nat)) (clock : Nat) (es : List MapEntry) : Prop where
  kt : ∃ ki, tyAt ty kt = some ki ∧ keyTy ki = true ∧ ∀ e ∈ l, okV ty .frz ki e.1 = true
  et : ∃ ei, tyAt ty et = some ei ∧ ∀ e ∈ l, okV ty .frz ei e.2.1 = true
  len : es.length = l.length
  at_ : ∀ j (h : j < l.length) (h' : j < es.length), VR ty c l[j].1 es[j].key ∧ VR ty c l[j].2.1 es[j].val ∧ es[j].born = l[j].2.2
  lt : ∀ e ∈ l, e.2.2 < clock
  up : l.Pairwise fun a b => a.2.2 < b.2.2
def OR (ty : Tys) (c : Ctx) (fz : Bool) (i : Info) : Obj → Prop
  | .cells l => i.on = true ∧ i.sz = 1 ∧ i.len = l.length ∧ BlkOk c i l.length 0 ∧
      ∃ xs, CR ty c l xs ∧ ∀ j (h : j < xs.length), c.w.cell? ⟨i.b, i.o + j, none⟩ = some xs[j]
  | .ints k l => ArrOk c fz i 1 l.length ∧ ∀ j (h : j < l.length), c.w.cell? ⟨i.b, i.o + j, none⟩ = some (.int k l[j])
  | .bools l => ArrOk c fz i 1 l.length ∧ ∀ j (h : j < l.length), c.w.cell? ⟨i.b, i.o + j, none⟩ = some (.bool l[j])
  | .vals e l => ∃ ei, tyAt ty e = some ei ∧ shOf ty e = some .vals ∧ (∀ v ∈ l, okV ty .frz ei v = true) ∧
      ArrOk c fz i ei.leaves.length l.length ∧ ∀ j (h : j < l.length), ∃ y, VR ty c l[j] y ∧ y.cells.size = ei.leaves.length ∧
        ∀ t, t < ei.leaves.length → c.w.cell? ⟨i.b, i.o + j * ei.leaves.length + t, none⟩ = y.cells[t]?
  | .map kt et l clock => i.on = true ∧ Mine c i.b ∧ ∃ es, c.w.heap[i.b]? = some (.map es clock) ∧ MapOk ty c kt et l clock es.toList
structure HeapOk (ty : Tys) (c : Ctx) (h : Heap) (fz : List Nat) : Prop where
  hp : ∀ id o i, get id h = some o → c.μ id = some i → OR ty c (has id fz) i o
  sep : ∀ id id' o o' i i', get id h = some o → get id' h = some o' → c.μ id = some i → c.μ id' = some i' → id ≠ id' → i.on = true → i'.on = true → i.b ≠ i'.b
  ib : ∀ b o, c.I b o → b < c.w.heap.size
theorem beq_true {n m : Nat} : Nat.beq n m = true ↔ n = m := ⟨Nat.eq_of_beq_eq_true, fun h => h ▸ Nat.beq_refl n⟩
theorem beq_false {n m : Nat} : Nat.beq n m = false ↔ n ≠ m := by
  rw [← Bool.not_eq_true, beq_true]
theorem get_ins_same {α : Type} (n : Nat) (a : α) : ∀ l : List (Nat × α), get n (ins n a l) = some a
  | [] => by simp [ins, get]
  | p :: r => by
    unfold ins
    cases h : Nat.beq n p.1
    · simp only [cond_false]
      cases h2 : Nat.blt n p.1
      · simp only [cond_false, get, h]; exact get_ins_same n a r
      · simp [get]
    · simp [get]
theorem get_ins_other {α : Type} {n m : Nat} (a : α) (h : m ≠ n) : ∀ l : List (Nat × α), get m (ins n a l) = get m l
  | [] => by simp [ins, get, beq_false.2 h]
  | p :: r => by
    unfold ins
    cases h1 : Nat.beq n p.1
    · simp only [cond_false]
      cases h2 : Nat.blt n p.1
      · simp only [cond_false, get, get_ins_other a h r]
      · simp [get, beq_false.2 h]
    · have : Nat.beq m p.1 = false := by rw [← beq_true.1 h1]; exact beq_false.2 h
      simp [get, beq_false.2 h, this]
theorem get_del_same {α : Type} (n : Nat) : ∀ l : List (Nat × α), get n (del n l) = none
  | [] => rfl
  | p :: r => by
    unfold del
    cases h : Nat.beq n p.1
    · simp only [cond_false, get, h]; exact get_del_same n r
    · simp only [cond_true]; exact get_del_same n r
theorem get_del_other {α : Type} {n m : Nat} (h : m ≠ n) : ∀ l : List (Nat × α), get m (del n l) = get m l
  | [] => rfl
  | p :: r => by
    unfold del
    cases h1 : Nat.beq n p.1
    · simp only [cond_false, get, get_del_other h r]
    · have : Nat.beq m p.1 = false := by rw [← beq_true.1 h1]; exact beq_false.2 h
      simp only [cond_true, get, this, cond_false]; exact get_del_other h r
theorem has_mem {n : Nat} : ∀ {l : List Nat}, has n l = true ↔ n ∈ l
  | [] => by simp [has]
  | m :: r => by
    unfold has
    cases h : Nat.beq n m
    · simp only [cond_false, List.mem_cons]
      rw [has_mem]
      exact ⟨.inr, fun g => g.resolve_left (beq_false.1 h)⟩
    · simp only [cond_true, List.mem_cons, true_iff]; exact .inl (beq_true.1 h)
section
variable {ty : Tys} {c : Ctx}
theorem CR.len : ∀ {l : List V} {xs : List Value}, CR ty c l xs → xs.length = l.length
  | [], _, h => by simp only [CR] at h; simp [h]
  | v :: r, _, h => by
    simp only [CR] at h
    obtain ⟨y, ys, rfl, _, _, hr⟩ := h
    simp [hr.len]
theorem CR.at : ∀ {l : List V} {xs : List Value} (_ : CR ty c l xs) (j : Nat) (h1 : j < l.length) (h2 : j < xs.length), VR ty c l[j] xs[j] ∧ isCell xs[j]
  | [], _, _, j, h1, _ => absurd h1 (by simp)
  | v :: r, _, h, j, h1, h2 => by
    simp only [CR] at h
    obtain ⟨y, ys, rfl, hv, hc, hr⟩ := h
    cases j with
    | zero => exact ⟨hv, hc⟩
    | succ j => exact CR.at hr j (by simpa using h1) (by simpa using h2)
theorem CR.of_at : ∀ {l : List V} {xs : List Value}, xs.length = l.length → (∀ j (h1 : j < l.length) (h2 : j < xs.length), VR ty c l[j] xs[j] ∧ isCell xs[j]) → CR ty c l xs
  | [], xs, hl, _ => by simp only [CR]; exact List.length_eq_zero_iff.1 hl
  | v :: r, [], hl, _ => by simp at hl
  | v :: r, y :: ys, hl, h => by
    simp only [CR]
    refine ⟨y, ys, rfl, (h 0 (by simp) (by simp)).1, (h 0 (by simp) (by simp)).2, CR.of_at (by simpa using hl) fun j h1 h2 => ?_⟩
    have := h (j + 1) (by simpa using h1) (by simpa using h2)
    simpa using this
theorem CR.drop {l : List V} {xs : List Value} (h : CR ty c l xs) (n : Nat) : CR ty c (l.drop n) (xs.drop n) :=
  CR.of_at (by simp [h.len]) fun j h1 h2 => by
    simp only [List.getElem_drop]
    exact h.at _ _ _
theorem CR.take {l : List V} {xs : List Value} (h : CR ty c l xs) (n : Nat) : CR ty c (l.take n) (xs.take n) :=
  CR.of_at (by simp [h.len]) fun j h1 h2 => by
    simp only [List.getElem_take]
    exact h.at _ _ _
theorem CR.cut {l : List V} {xs : List Value} (h : CR ty c l xs) (off n : Nat) : CR ty c (cut l off n) ((xs.drop off).take n) := (h.drop off).take n
theorem CR.cell {l : List V} {xs : List Value} (h : CR ty c l xs) {x : Value} (hx : x ∈ xs) : isCell x := by
  obtain ⟨j, hj, rfl⟩ := List.mem_iff_getElem.1 hx
  exact (h.at j (by rw [← h.len]; exact hj) hj).2
theorem LR.len : ∀ {l : List V} {xs : List Value}, LR ty c l xs → xs.length = l.length
  | [], _, h => by simp only [LR] at h; simp [h]
  | v :: r, _, h => by
    simp only [LR] at h
    obtain ⟨y, ys, rfl, _, hr⟩ := h
    simp [hr.len]
theorem LR.at : ∀ {l : List V} {xs : List Value} (_ : LR ty c l xs) (j : Nat) (h1 : j < l.length) (h2 : j < xs.length), VR ty c l[j] xs[j]
  | [], _, _, j, h1, _ => absurd h1 (by simp)
  | v :: r, _, h, j, h1, h2 => by
    simp only [LR] at h
    obtain ⟨y, ys, rfl, hv, hr⟩ := h
    cases j with
    | zero => exact hv
    | succ j => exact LR.at hr j (by simpa using h1) (by simpa using h2)
theorem LR.append : ∀ {l l' : List V} {xs xs' : List Value}, LR ty c l xs → LR ty c l' xs' → LR ty c (l ++ l') (xs ++ xs')
  | [], _, _, _, h, h' => by simp only [LR] at h; simpa [h] using h'
  | v :: r, _, _, _, h, h' => by
    simp only [LR] at h
    obtain ⟨y, ys, rfl, hv, hr⟩ := h
    simp only [List.cons_append, LR]
    exact ⟨y, _, rfl, hv, hr.append h'⟩
theorem VR.flat {v : V} {x : Value} (h : VR ty c v x) (hv : v ≠ .undef) (ht : ∀ l, v ≠ .tup l) : CR ty c v.flat x.cells.toList := by
  cases v with
  | agg l => simp only [VR] at h; obtain ⟨xs, rfl, hl⟩ := h; exact hl
  | undef => exact absurd rfl hv
  | tup l => exact absurd rfl (ht l)
  | _ =>
    have hx : x.cells = #[x] ∧ isCell x := by
      simp only [VR] at h
      first
        | (subst h; exact ⟨rfl, trivial⟩)
        | (obtain ⟨_, rfl⟩ := h; exact ⟨rfl, trivial⟩)
        | (obtain ⟨_, _, rfl, _⟩ := h; exact ⟨rfl, trivial⟩)
        | (obtain ⟨_, _, _, rfl, _⟩ := h; exact ⟨rfl, trivial⟩)
        | (obtain ⟨_, _, _, _, rfl, _⟩ := h; exact ⟨rfl, trivial⟩)
        | (obtain ⟨_, _, rfl⟩ := h; exact ⟨rfl, trivial⟩)
        | (obtain ⟨_, _, _, rfl⟩ := h; exact ⟨rfl, trivial⟩)
        | (obtain ⟨_, _, _, _, rfl⟩ := h; exact ⟨rfl, trivial⟩)
    rw [hx.1]
    simp only [V.flat, CR]
    exact ⟨x, [], rfl, h, hx.2, rfl⟩
theorem MR.of_CR : ∀ {l : List V} {xs : List Value} {b o : Nat}, CR ty c l xs →
    (∀ j (h : j < xs.length), Imm c .bor b (o + j) ∧ c.w.cell? ⟨b, o + j, none⟩ = some xs[j]) → MR ty c l b o
  | [], _, _, _, _, _ => by simp only [MR]
  | v :: r, xs, b, o, h, hj => by
    simp only [CR] at h
    obtain ⟨y, ys, rfl, hv, hc, hr⟩ := h
    simp only [MR]
    refine ⟨⟨y, hv, hc, (hj 0 (by simp)).1, (hj 0 (by simp)).2⟩, MR.of_CR hr fun j h => ?_⟩
    have := hj (j + 1) (by simpa using h)
    rw [show o + 1 + j = o + (j + 1) from by omega]
    simpa using this
theorem MR.to_CR : ∀ {l : List V} {b o : Nat}, MR ty c l b o → ∃ xs, CR ty c l xs ∧ ∀ j (h : j < xs.length), Imm c .bor b (o + j) ∧ c.w.cell? ⟨b, o + j, none⟩ = some xs[j]
  | [], _, _, _ => ⟨[], by simp only [CR], fun j h => absurd h (by simp)⟩
  | v :: r, b, o, h => by
    simp only [MR] at h
    obtain ⟨⟨y, hv, hc, hi, hy⟩, hr⟩ := h
    obtain ⟨ys, hys, hj⟩ := hr.to_CR
    refine ⟨y :: ys, by simp only [CR]; exact ⟨y, ys, rfl, hv, hc, hys⟩, fun j h => ?_⟩
    cases j with
    | zero => exact ⟨hi, hy⟩
    | succ j =>
      have := hj j (by simpa using h)
      rw [show o + 1 + j = o + (j + 1) from by omega] at this
      simpa using this
end
end Go.Vm
end
section
namespace Go.Vm
open Go.RowKit
def updM (μ : Nat → Option Info) (nx : Nat) (is : List Info) : Nat → Option Info := fun id => if nx ≤ id ∧ id < nx + is.length then is[id - nx]? else μ id
def Fr (μ : Nat → Option Info) (nx n : Nat) : Prop := ∀ id, nx ≤ id → id < nx + n → μ id = none
structure FrontOk (ty : Tys) (c : Ctx) (h : Heap) (nx : Nat) (r : Res) (c' : Ctx) (x : Value) : Prop where
  ext : Ext c c'
  vr : VR ty c' r.v x
  infos : ∃ is : List Info, is.length = r.objs.length ∧ c'.μ = updM c.μ nx is ∧
    (∀ k (h : k < is.length) (h' : k < r.objs.length), OR ty c' false is[k] r.objs[k]) ∧
    (∀ i ∈ is, i.on = true → c.w.heap.size ≤ i.b) ∧ is.Pairwise (fun i j => i.on = true → j.on = true → i.b ≠ j.b)
  hI : ∀ b o, c'.I b o → c.I b o ∨ ∃ id i, id ∈ r.fz ∧ (∃ ob v, get id h = some ob ∧ ob.fixed .frz = some v) ∧ c.μ id = some i ∧ i.on = true ∧ b = i.b ∧ i.o ≤ o ∧ o < i.o + i.len * i.sz
  old : ∀ b, b < c.w.heap.size → c'.w.heap[b]? = c.w.heap[b]?
theorem updM_nil {μ : Nat → Option Info} {nx : Nat} : updM μ nx [] = μ := by
  funext id
  unfold updM
  rw [if_neg (by simp)]
theorem FrontOk.same {ty : Tys} {c : Ctx} {h : Heap} {nx : Nat} {r : Res} {x : Value} (hv : VR ty c r.v x) (ho : r.objs = []) : FrontOk ty c h nx r c x where
  ext := Ext.refl c
  vr := hv
  infos := ⟨[], by simp [ho], updM_nil.symm, fun k h => absurd h (by simp), by simp, by simp⟩
  hI := fun _ _ h => .inl h
  old := fun _ _ => rfl
section
variable {P : Program} {ty : Tys} {c : Ctx} {h : Heap} {nx : Nat}
def FrontGoal (P : Program) (ty : Tys) (c : Ctx) (h : Heap) (nx : Nat) (s : Sem Next) (r : Res) : Prop :=
  ∃ c' x, s.run P c.w = .ok (.value x) c'.w ∧ FrontOk ty c h nx r c' x
theorem goal_value {s : Sem Value} {r : Res} {x : Value} (hs : s.run P c.w = .ok x c.w) (hv : VR ty c r.v x) (ho : r.objs = []) :
    FrontGoal P ty c h nx (do pure (.value (← s))) r := by
  refine ⟨c, x, ?_, FrontOk.same hv ho⟩
  show ((s >>= fun y => pure (Next.value y)) : Sem Next).run P c.w = _
  rw [run_bind hs]; rfl
theorem goal_pure {x : Value} {r : Res} (hv : VR ty c r.v x) (ho : r.objs = []) :
    FrontGoal P ty c h nx (pure (.value x)) r := ⟨c, x, rfl, FrontOk.same hv ho⟩
theorem res_eq {v : V} {r : Res} (h : res v = some r) : r.v = v ∧ r.objs = [] ∧ r.fz = [] := by
  unfold res at h; cases h; exact ⟨rfl, rfl, rfl⟩
theorem resIf_eq {b : Bool} {v : V} {r : Res} (h : resIf b v = some r) (hok : r.ok = true) : b = true ∧ r.v = v ∧ r.objs = [] ∧ r.fz = [] := by
  unfold resIf at h; cases h; exact ⟨hok, rfl, rfl, rfl⟩
theorem inR_iff {i : Int} {n : Nat} : inR i n = true ↔ 0 ≤ i ∧ i < (n : Int) := by unfold inR; simp
theorem inS_iff {i j : Int} {n : Nat} : inS i j n = true ↔ 0 ≤ i ∧ i ≤ j ∧ j ≤ (n : Int) := by unfold inS; simp
theorem same_eq {k k' : IntKind} (h : IntKind.same k k' = true) : k = k' := by cases k <;> cases k' <;> first | rfl | (simp [IntKind.same] at h)
theorem same_refl (k : IntKind) : IntKind.same k k = true := by cases k <;> rfl
theorem tag_eq {t t' : Tag} (h : t.same t' = true) : t = t' := by cases t <;> cases t' <;> first | rfl | (simp [Tag.same] at h)
theorem vr_int {k : IntKind} {n : Int} {x : Value} : VR ty c (.int k n) x ↔ x = .int k n := by simp only [VR]
theorem vr_bool {b : Bool} {x : Value} : VR ty c (.bool b) x ↔ x = .bool b := by simp only [VR]
theorem eqGuard_ok {op : BinOp} {t : TypeId} {x y : Operand} {a b : Value} {w : World} (ha : ∀ l, a ≠ .agg l) (hn : a ≠ .nilIface) :
    (eqGuard op t x y a b).run P w = .ok () w := by
  unfold eqGuard
  cases a <;> first
    | exact absurd rfl (ha _)
    | exact absurd rfl hn
    | (cases op <;> rfl)
theorem run_equal_bool {t : TypeId} {a b : Bool} {w : World} (h : P.underlying t = some .bool) : (Op.equal t (.bool a) (.bool b)).run P w = .ok (a == b) w := by
  unfold Op.equal Op.maxDepth Op.equalIn
  rw [run_bind (run_underlying h)]
  rfl
theorem bin_int {op : BinOp} {xt : TypeId} {k k' : IntKind} {a b : Int} {r : Res} {w : World}
    (hr : binV op ty xt (.int k a) (.int k' b) = some r) (hok : r.ok = true) : ∃ v, (binOp op xt (.int k a) (.int k' b)).run P w = .ok v w ∧ VR ty c r.v v ∧ r.objs = [] := by
  cases op <;> simp only [binV, same_refl, Bool.true_and] at hr
  case shl =>
    have hp : posI 0 = true := by decide
    rw [hp] at hr
    simp only [cond_true] at hr
    obtain ⟨hb, hv, ho, _⟩ := resIf_eq hr hok
    refine ⟨_, ?_, hv ▸ vr_int.2 rfl, ho⟩
    have : ¬ b < 0 := by unfold posI at hb; simp at hb; omega
    show (Op.shift .shl k a k' b).run P w = _
    unfold Op.shift; rw [if_neg this]; rfl
  case shr =>
    obtain ⟨hb, hv, ho, _⟩ := resIf_eq hr hok
    refine ⟨_, ?_, hv ▸ vr_int.2 rfl, ho⟩
    have : ¬ b < 0 := by unfold posI at hb; simp at hb; omega
    show (Op.shift .shr k a k' b).run P w = _
    unfold Op.shift; rw [if_neg this]; rfl
  all_goals
    cases hk : IntKind.same k k'
    · rw [hk] at hr; simp at hr
    rw [hk] at hr
    obtain rfl := same_eq hk
    simp only [cond_true] at hr
  case quo =>
    obtain ⟨hb, hv, ho, _⟩ := resIf_eq hr hok
    refine ⟨_, ?_, hv ▸ vr_int.2 rfl, ho⟩
    have hb : ¬ b = 0 := by unfold nzI at hb; simpa using hb
    simp only [binOp, ne_eq, not_true_eq_false, if_false]
    unfold Op.intDiv; rw [if_neg hb]; rfl
  case rem =>
    obtain ⟨hb, hv, ho, _⟩ := resIf_eq hr hok
    refine ⟨_, ?_, hv ▸ vr_int.2 rfl, ho⟩
    have hb : ¬ b = 0 := by unfold nzI at hb; simpa using hb
    simp only [binOp, ne_eq, not_true_eq_false, if_false]
    unfold Op.intDiv; rw [if_neg hb]; rfl
  all_goals
    obtain ⟨hv, ho, _⟩ := res_eq hr
    rw [hv]
    simp only [VR]
    refine ⟨_, ?_, rfl, ho⟩
    simp only [binOp, ne_eq, not_true_eq_false, if_false]
    rfl
theorem bin_bool (hT : TyOk P ty) {op : BinOp} {xt : TypeId} {a b : Bool} {r : Res} {w : World}
    (hr : binV op ty xt (.bool a) (.bool b) = some r) : ∃ v, (binOp op xt (.bool a) (.bool b)).run P w = .ok v w ∧ VR ty c r.v v ∧ r.objs = [] := by
  simp only [binV] at hr
  split at hr
  case h_2 => simp at hr
  rename_i hs
  have hu : P.underlying xt = some .bool := by
    unfold shOf at hs
    cases ht : tyAt ty xt with
    | none => simp [ht] at hs
    | some i =>
      simp only [ht] at hs
      split at hs <;> simp at hs
      rename_i ha hl
      exact hT.bool xt i ht ha hl
  cases op <;> simp only [] at hr <;> try (simp at hr; done)
  all_goals
    obtain ⟨hv, ho, _⟩ := res_eq hr
    rw [hv]
    simp only [VR]
    refine ⟨_, ?_, rfl, ho⟩
    simp only [binOp]
    rw [run_bind (run_equal_bool hu)]
    rfl
end
end Go.Vm
end
section
namespace Go.Vm
open Go.RowKit
section
variable {P : Program} {ty : Tys} {c : Ctx}
theorem run_sureAddr {a : Addr} {w : World} : (Instr.sureAddr (.pointer (some a))).run P w = .ok a w := rfl
theorem run_loadAt {t : TypeId} {a : Addr} {w : World} : (Instr.loadAt t (.pointer (some a))).run P w = (loadVar t a).run P w := by
  unfold Instr.loadAt
  rw [run_bind run_sureAddr]
theorem fits_iff {l : List V} {off n : Nat} : fits l off n = true ↔ off + n ≤ l.length := by
  unfold fits; rw [Nat.ble_eq]
theorem headD_getElem {l : List V} (h : 0 < l.length) (d : V) : l.headD d = l[0] := by
  cases l with
  | nil => simp at h
  | cons v r => rfl
theorem load_cells (hT : TyOk P ty) {t : TypeId} {ti : TyI} (ht : tyAt ty t = some ti) (hn : ti.leaves ≠ []) {l : List V} {xs : List Value} {off b o : Nat}
    (hl : CR ty c l xs) (hc : ∀ j (h : j < xs.length), c.w.cell? ⟨b, o + j, none⟩ = some xs[j]) (hf : fits l off ti.leaves.length = true) :
    ∃ x, (loadVar t ⟨b, o + off, none⟩).run P c.w = .ok x c.w ∧ VR ty c (pack ti.agg (cut l off ti.leaves.length)) x := by
  have hfit := fits_iff.1 hf
  have hlen := hl.len
  obtain ⟨f, hi, hs, _⟩ := hT.info t ti ht hn
  have ha := hT.agg t ti ht hn
  have hcut := hl.cut off ti.leaves.length
  cases hag : ti.agg
  · rw [hag] at ha
    have h1 := hT.one t ti ht hn hag
    refine ⟨xs[off], ?_, ?_⟩
    · exact run_loadVar_cell ha (hc off (by omega))
    · simp only [pack, cond_false]
      have hpos : 0 < (cut l off ti.leaves.length).length := by rw [← hcut.len]; simp; omega
      rw [headD_getElem hpos]
      have := (hcut.at 0 hpos (by simp; omega)).1
      simpa using this
  · rw [hag] at ha
    refine ⟨.agg ((xs.drop off).take ti.leaves.length).toArray, ?_, ?_⟩
    · refine run_loadVar_agg hi ha ?_ ?_
      · simp [hs]; omega
      · intro j hj
        simp at hj ⊢
        rw [← hc (off + j) (by omega)]
        congr 2; omega
    · simp only [pack, cond_true, VR]
      exact ⟨_, rfl, by simpa using hcut⟩
theorem slProj_same {tag : Tag} {e : TypeId} {v : V} (h : slOk ty tag e v = true) : slProj ty tag e v = v := by
  unfold slOk at h
  unfold slProj
  split at h
  · rename_i k t k' l hs
    rw [hs]
    simp only [Bool.and_eq_true] at h
    rw [← tag_eq h.1, ← same_eq h.2]; rfl
  · rename_i t l hs
    rw [hs, ← tag_eq h]; rfl
  · rename_i t e' l hs
    rw [hs]
    simp only [Bool.and_eq_true] at h
    rw [← tag_eq h.1, ← beq_true.1 h.2]; rfl
  · simp at h
theorem leafProj_same {tag : Tag} {l : Leaf} {v : V} (h : leafOk ty tag l v = true) : leafProj ty tag l v = v := by
  cases l <;> cases v <;> simp [leafOk] at h <;> first
    | rfl
    | (rw [same_eq h]; rfl)
    | exact slProj_same h
    | skip
theorem projL_same {tag : Tag} : ∀ (ls : List Leaf) (vs : List V) (i : Nat) (v : V), leavesOk ty tag ls vs = true → (∀ j (h : j < vs.length), v.cell (i + j) = vs[j]) → projL ty tag ls i v = vs
  | [], [], _, _, _, _ => rfl
  | [], _ :: _, _, _, h, _ => by simp [leavesOk] at h
  | _ :: _, [], _, _, h, _ => by simp [leavesOk] at h
  | l :: ls, x :: vs, i, v, h, hc => by
    simp only [leavesOk, Bool.and_eq_true] at h
    have h0 := hc 0 (by simp)
    simp only [Nat.add_zero, List.getElem_cons_zero] at h0
    simp only [projL, h0, leafProj_same h.1]
    rw [projL_same ls vs (i + 1) v h.2 fun j hj => by
      have := hc (j + 1) (by simpa using hj)
      rw [show i + 1 + j = i + (j + 1) from by omega, this]; rfl]
theorem okV_cases {tag : Tag} {i : TyI} {v : V} (h : okV ty tag i v = true) :
    (i.agg = true ∧ ∃ l, v = .agg l ∧ leavesOk ty tag i.leaves l = true) ∨ (i.agg = false ∧ (∀ l, v ≠ .agg l) ∧ leavesOk ty tag i.leaves [v] = true) := by
  cases ha : i.agg <;> cases v <;> simp [okV, ha] at h ⊢ <;> exact h
theorem flat_one {v : V} (h : ∀ l, v ≠ .agg l) : v.flat = [v] ∧ v.cell 0 = v := by
  cases v <;> first | exact ⟨rfl, rfl⟩ | exact absurd rfl (h _)
theorem okV_cells {tag : Tag} {i : TyI} {v : V} (h : okV ty tag i v = true) : leavesOk ty tag i.leaves v.flat = true ∧ (∀ j (hj : j < v.flat.length), v.cell j = v.flat[j]) := by
  rcases okV_cases h with ⟨_, l, rfl, hl⟩ | ⟨_, hne, hl⟩
  · refine ⟨hl, fun j hj => ?_⟩
    simp only [V.flat] at hj ⊢
    simp [V.cell, hj]
  · rw [(flat_one hne).1]
    refine ⟨hl, fun j hj => ?_⟩
    have : j = 0 := by simp at hj; omega
    subst this
    exact (flat_one hne).2
theorem okV_proj {tag : Tag} {i : TyI} {v : V} (h : okV ty tag i v = true) : projL ty tag i.leaves 0 v = v.flat := by
  have ⟨h1, h2⟩ := okV_cells h
  exact projL_same _ _ 0 v h1 (by simpa using h2)
theorem okV_pack {tag : Tag} {i : TyI} {v : V} (h : okV ty tag i v = true) : proj ty tag i v = v := by
  unfold proj
  rw [okV_proj h]
  rcases okV_cases h with ⟨ha, l, rfl, hl⟩ | ⟨ha, hne, hl⟩
  · simp [pack, V.flat, ha]
  · rw [(flat_one hne).1]
    simp [pack, ha]
theorem leavesOk_plain {tag : Tag} : ∀ {ls : List Leaf} {vs : List V}, leavesOk ty tag ls vs = true → ∀ v ∈ vs, v ≠ .undef ∧ (∀ l, v ≠ .tup l) ∧ ∀ l, v ≠ .agg l
  | [], [], _ => by simp
  | [], _ :: _, h => by simp [leavesOk] at h
  | _ :: _, [], h => by simp [leavesOk] at h
  | l :: ls, x :: vs, h => by
    simp only [leavesOk, Bool.and_eq_true] at h
    intro v hv
    rcases List.mem_cons.1 hv with rfl | hv
    · have h1 := h.1
      cases l <;> cases v <;> simp [leafOk, slOk] at h1 ⊢
    · exact leavesOk_plain h.2 v hv
theorem okV_plain {tag : Tag} {i : TyI} {v : V} (h : okV ty tag i v = true) : v ≠ .undef ∧ ∀ l, v ≠ .tup l := by
  rcases okV_cases h with ⟨ha, l, rfl, hl⟩ | ⟨ha, hne, hl⟩
  · simp
  · have := leavesOk_plain hl v (by simp)
    exact ⟨this.1, this.2.1⟩
theorem leavesOk_len {tag : Tag} : ∀ {ls : List Leaf} {vs : List V}, leavesOk ty tag ls vs = true → vs.length = ls.length
  | [], [], _ => rfl
  | [], _ :: _, h => by simp [leavesOk] at h
  | _ :: _, [], h => by simp [leavesOk] at h
  | _ :: ls, _ :: vs, h => by
    simp only [leavesOk, Bool.and_eq_true] at h
    simp [leavesOk_len h.2]
theorem okV_CR {tag : Tag} {i : TyI} {v : V} {x : Value} (h : okV ty tag i v = true) (hx : VR ty c v x) : CR ty c (projL ty tag i.leaves 0 v) x.cells.toList := by
  rw [okV_proj h]
  exact hx.flat (okV_plain h).1 (okV_plain h).2
end
end Go.Vm
end
section
namespace Go.Vm
open Go.RowKit
section
variable {P : Program} {ty : Tys} {c : Ctx} {nx : Nat} {h : Heap} {fz : List Nat} {ρ : Operand → Option V} {ρ' : Operand → Value}
theorem leaves_ne {ti : TyI} {l : List V} {off : Nat} (h : (fits l off ti.leaves.length && Nat.blt 0 ti.leaves.length) = true) : ti.leaves ≠ [] := by
  simp only [Bool.and_eq_true] at h
  intro e
  rw [e] at h
  simp at h
theorem elem_cells {i : Info} {f : Bool} {e : TypeId} {l : List V} {idx : Nat} (hO : OR ty c f i (.vals e l)) (hi : idx < l.length) {cs : List V} (hc : elCells ty e l idx = some cs) :
    ∃ xs, CR ty c cs xs ∧ ∀ j (h : j < xs.length), c.w.cell? ⟨i.b, i.o + idx * i.sz + j, none⟩ = some xs[j] := by
  obtain ⟨ei, he, _, hok, ha, hj⟩ := hO
  unfold elCells at hc
  rw [he] at hc
  simp only [Option.some.injEq] at hc
  subst hc
  obtain ⟨y, hy, hs, ht⟩ := hj idx hi
  refine ⟨y.cells.toList, ?_, fun j hj => ?_⟩
  · have : l.getD idx .undef = l[idx] := by simp [List.getD, hi]
    rw [this]
    exact okV_CR (hok _ (List.getElem_mem hi)) hy
  · rw [ha.1, ht j (by simpa [hs] using hj)]
    simp at hj
    simp [hj]
theorem load_sound (hT : TyOk P ty) (H : HeapOk ty c h fz) (hρ : ∀ o v, ρ o = some v → VR ty c v (ρ' o)) {t rty : TypeId} {a : Operand} {r : Res}
    (hr : front ty h nx ρ rty (.load t a) = some r) : ∃ x, (Instr.loadAt t (ρ' a)).run P c.w = .ok x c.w ∧ VR ty c r.v x ∧ r.objs = [] ∧ r.fz = [] := by
  simp only [front] at hr
  split at hr
  ·
    rename_i ti id off ht ha
    split at hr
    case h_2 => simp at hr
    rename_i l hg
    cases hf : (fits l off ti.leaves.length && Nat.blt 0 ti.leaves.length)
    · rw [hf] at hr; simp at hr
    rw [hf] at hr
    simp only [cond_true] at hr
    obtain ⟨hv, ho, hz⟩ := res_eq hr
    have hp := hρ _ _ ha
    simp only [VR] at hp
    obtain ⟨i, hi, hon, hx⟩ := hp
    obtain ⟨_, hsz, hlen, hblk, xs, hCR, hcell⟩ := H.hp id _ i hg hi
    obtain ⟨x, hrun, hvr⟩ := load_cells hT ht (leaves_ne hf) hCR hcell (Bool.and_eq_true_iff.1 hf).1
    rw [hx, run_loadAt, hv]
    exact ⟨x, hrun, hvr, ho, hz⟩
  ·
    rename_i ti l ht ha
    cases hf : (fits l 0 ti.leaves.length && Nat.blt 0 ti.leaves.length)
    · rw [hf] at hr; simp at hr
    rw [hf] at hr
    simp only [cond_true] at hr
    obtain ⟨hv, ho, hz⟩ := res_eq hr
    have hp := hρ _ _ ha
    simp only [VR] at hp
    obtain ⟨b, o, hx, hM⟩ := hp
    obtain ⟨xs, hCR, hcell⟩ := hM.to_CR
    obtain ⟨x, hrun, hvr⟩ := load_cells hT ht (leaves_ne hf) hCR (fun j h => (hcell j h).2) (Bool.and_eq_true_iff.1 hf).1
    rw [hx, run_loadAt, hv]
    exact ⟨x, hrun, hvr, ho, hz⟩
  ·
    rename_i ti id idx off ht ha
    have hp := hρ _ _ ha
    simp only [VR] at hp
    obtain ⟨i, hi, hon, hidx, hx⟩ := hp
    rw [hx, run_loadAt]
    split at hr
    · rename_i k l hg
      split at hr
      case h_2 => simp at hr
      rename_i k' hag hlv
      obtain ⟨hv, ho, hz⟩ := res_eq hr
      obtain ⟨harr, hcell⟩ := H.hp id _ i hg hi
      have hn : ti.leaves ≠ [] := by rw [hlv]; simp
      have hag' := hT.agg t ti ht hn
      rw [hag] at hag'
      have hlt : idx < l.length := by have := harr.2.2.1; omega
      refine ⟨.int k l[idx], ?_, ?_, ho, hz⟩
      · rw [harr.1]
        exact run_loadVar_cell hag' (by have := hcell idx hlt; simpa using this)
      · rw [hv]; unfold elI; rw [vr_int]; simp [List.getD, hlt]
    · rename_i l hg
      split at hr
      case h_2 => simp at hr
      rename_i hag hlv
      obtain ⟨hv, ho, hz⟩ := res_eq hr
      obtain ⟨harr, hcell⟩ := H.hp id _ i hg hi
      have hn : ti.leaves ≠ [] := by rw [hlv]; simp
      have hag' := hT.agg t ti ht hn
      rw [hag] at hag'
      have hlt : idx < l.length := by have := harr.2.2.1; omega
      refine ⟨.bool l[idx], ?_, ?_, ho, hz⟩
      · rw [harr.1]
        exact run_loadVar_cell hag' (by have := hcell idx hlt; simpa using this)
      · rw [hv]; unfold elB; rw [vr_bool]; simp [List.getD, hlt]
    · rename_i e l hg
      split at hr
      case h_2 => simp at hr
      rename_i cs hcs
      cases hf : (fits cs off ti.leaves.length && Nat.blt 0 ti.leaves.length)
      · rw [hf] at hr; simp at hr
      rw [hf] at hr
      simp only [cond_true] at hr
      obtain ⟨hv, ho, hz⟩ := res_eq hr
      have hO := H.hp id _ i hg hi
      have hlt : idx < l.length := by obtain ⟨_, _, _, _, harr, _⟩ := hO; have := harr.2.2.1; omega
      obtain ⟨xs, hCR, hcell⟩ := elem_cells hO hlt hcs
      obtain ⟨x, hrun, hvr⟩ := load_cells hT ht (leaves_ne hf) hCR hcell (Bool.and_eq_true_iff.1 hf).1
      rw [hv]
      exact ⟨x, hrun, hvr, ho, hz⟩
    · simp at hr
  · simp at hr
end
end Go.Vm
end
