/-
  Plain data, primitive operations on it, and a small first-order language with loops: what our symbolic executor makes of the program's code.
  Nothing of the machine stands here but the arithmetic that the model itself uses.
-/
import GoSem.Dispatch
import Derived.WalkKit
import Derived.Laws.StructEq
import Derived.ChangeKeysEq
import Derived.Laws.Tables
import Derived.BigCall
import Derived.Laws.Externs
namespace Vs
open Go

/-! ### Data -/
inductive D where
  | undef
  | int (n : Int)
  | bool (b : Bool)
  | flt (x : Nat)
  | str (s : ByteArray)
  | agg (l : List D)
  | lst (l : List D)

instance : Inhabited D := ⟨.undef⟩

/-! ### Floats: words up to the bits of a NaN -/
def fnan (k : FloatKind) : Nat := k.format.infRung + 2 ^ (k.format.fractionBits - 1)
def isnan (k : FloatKind) (x : Nat) : Bool := (k.decode x).isNaN
def canon (k : FloatKind) (x : Nat) : Nat := if isnan k x then fnan k else x
def fin (k : FloatKind) (r : Option Nat) : Nat := match r with | some r => canon k r | none => fnan k

def fadd (k : FloatKind) (x y : Nat) : Nat := fin k (k.format.add x y)
def fsub (k : FloatKind) (x y : Nat) : Nat := fin k (k.format.sub x y)
def fmul (k : FloatKind) (x y : Nat) : Nat := fin k (k.format.mul x y)
def fdiv (k : FloatKind) (x y : Nat) : Nat := fin k (k.format.div x y)
def fsqrt (k : FloatKind) (x : Nat) : Nat := fin k (k.format.sqrt x)
def fneg (k : FloatKind) (x : Nat) : Nat := canon k (Op.negFloat k x)
def feq (k : FloatKind) (x y : Nat) : Bool := k.format.order x y == some .eq
def flt (k : FloatKind) (x y : Nat) : Bool := k.format.order x y == some .lt
def fle (k : FloatKind) (x y : Nat) : Bool := k.format.order x y == some .lt || k.format.order x y == some .eq
def fgt (k : FloatKind) (x y : Nat) : Bool := k.format.order x y == some .gt
def fge (k : FloatKind) (x y : Nat) : Bool := k.format.order x y == some .gt || k.format.order x y == some .eq

/-- A float of one kind as one of the other kind; 'none' where the language leaves the result open. -/
def f2f (src dst : FloatKind) (x : Nat) : Option Nat :=
  if src = dst then some x else
  match src.decode x with
  | .nan _ _ => some (fnan dst)
  | .infinity s => some (canon dst (dst.encode (.infinity s)))
  | .number s m e => if (dst.decode (dst.encode (.number s m e))).isInfinity then none else some (canon dst (dst.encode (.number s m e)))
def f2i (src : FloatKind) (dst : IntKind) (x : Nat) : Option Int :=
  match (src.decode x).toInt .zero with
  | some n => if dst.min ≤ n ∧ n ≤ dst.max then some n else none
  | none => none
def i2f (dst : FloatKind) (n : Int) : Nat := canon dst (dst.nearest n)

/-! ### Primitive operations -/
inductive Prim where
  | id
  | iar (op : BinOp) (k : IntKind) | idv (op : BinOp) (k : IntKind) | ibt (op : BinOp) (k : IntKind) | icm (op : BinOp) | shf (op : BinOp) (k : IntKind)
  | far (op : BinOp) (k : FloatKind) | fcm (op : BinOp) (k : FloatKind) | fneg (k : FloatKind)
  | bnot | beq | bne
  | i2i (k : IntKind) | i2f (k : FloatKind) | f2i (s : FloatKind) (k : IntKind) | f2f (s k : FloatKind)
  | sqrt (k : FloatKind) | f2b (k : FloatKind) | b2f (k : FloatKind)
  | pick
  | idx | len | proj (j : Nat) | mkagg | mklst | app | set | sub | rep
  | str (op : BinOp) | slen | sidx
  | imin | imax | fmin (k : FloatKind) | fmax (k : FloatKind)
  | aeq (ks : List (Option FloatKind)) (neg : Bool)
  deriving DecidableEq

def icmp (op : BinOp) (x y : Int) : Option Bool :=
  match op with
  | .eql => some (x == y) | .neq => some (x != y)
  | .lss => some (decide (x < y)) | .leq => some (decide (x ≤ y)) | .gtr => some (decide (x > y)) | .geq => some (decide (x ≥ y))
  | _ => none
def iarith (op : BinOp) (k : IntKind) (x y : Int) : Option Int :=
  match op with
  | .add => some (k.wrap (x + y)) | .sub => some (k.wrap (x - y)) | .mul => some (k.wrap (x * y)) | _ => none
def idiv (op : BinOp) (k : IntKind) (x y : Int) : Option Int :=
  if y = 0 then none else match op with | .quo => some (k.wrap (x.tdiv y)) | .rem => some (x.tmod y) | _ => none
def ibits (op : BinOp) (k : IntKind) (x y : Int) : Option Int :=
  let a := BitVec.ofInt k.bits x
  let b := BitVec.ofInt k.bits y
  match op with
  | .and => some (k.wrap (a &&& b).toNat) | .or => some (k.wrap (a ||| b).toNat) | .xor => some (k.wrap (a ^^^ b).toNat)
  | .andNot => some (k.wrap (a &&& ~~~b).toNat) | _ => none
def ishift (op : BinOp) (k : IntKind) (x y : Int) : Option Int :=
  if y < 0 then none else
  match op with
  | .shl => some (k.wrap (x * 2 ^ (min y.toNat k.bits))) | .shr => some (x.fdiv (2 ^ (min y.toNat k.bits))) | _ => none
def farith (op : BinOp) (k : FloatKind) (x y : Nat) : Option Nat :=
  match op with
  | .add => some (fadd k x y) | .sub => some (fsub k x y) | .mul => some (fmul k x y) | .quo => some (fdiv k x y) | _ => none
def fcmp (op : BinOp) (k : FloatKind) (x y : Nat) : Option Bool :=
  match op with
  | .eql => some (feq k x y) | .neq => some (!feq k x y) | .lss => some (flt k x y) | .leq => some (fle k x y)
  | .gtr => some (fgt k x y) | .geq => some (fge k x y) | _ => none

/-- Cells compared one by one. -/
def eqCells : List (Option FloatKind) → List D → List D → Option Bool
  | [], [], [] => some true
  | some k :: ks, .flt x :: xs, .flt y :: ys => (eqCells ks xs ys).map (feq k x y && ·)
  | none :: ks, .int x :: xs, .int y :: ys => (eqCells ks xs ys).map ((x == y) && ·)
  | none :: ks, .bool x :: xs, .bool y :: ys => (eqCells ks xs ys).map ((x == y) && ·)
  | _, _, _ => none

def Prim.ev : Prim → List D → Option D
  | .id, [x] => some x
  | .iar op k, [.int x, .int y] => (iarith op k x y).map .int
  | .idv op k, [.int x, .int y] => (idiv op k x y).map .int
  | .ibt op k, [.int x, .int y] => (ibits op k x y).map .int
  | .icm op, [.int x, .int y] => (icmp op x y).map .bool
  | .shf op k, [.int x, .int y] => (ishift op k x y).map .int
  | .far op k, [.flt x, .flt y] => (farith op k x y).map .flt
  | .fcm op k, [.flt x, .flt y] => (fcmp op k x y).map .bool
  | .fneg k, [.flt x] => some (.flt (Vs.fneg k x))
  | .bnot, [.bool x] => some (.bool !x)
  | .beq, [.bool x, .bool y] => some (.bool (x == y))
  | .bne, [.bool x, .bool y] => some (.bool (!(x == y)))
  | .i2i k, [.int x] => some (.int (k.wrap x))
  | .i2f k, [.int x] => some (.flt (Vs.i2f k x))
  | .f2i s k, [.flt x] => (Vs.f2i s k x).map .int
  | .f2f s k, [.flt x] => (Vs.f2f s k x).map .flt
  | .sqrt k, [.flt x] => some (.flt (fsqrt k x))
  | .f2b k, [.flt x] => if isnan k x then none else some (.int x)
  | .b2f k, [.int x] => some (.flt (canon k x.toNat))
  | .pick, [.bool c, x, y] => some (if c then x else y)
  | .idx, [.lst l, .int i] => if 0 ≤ i ∧ i < (l.length : Int) then l[i.toNat]? else none
  | .len, [.lst l] => some (.int (l.length : Int))
  | .proj j, [.agg l] => l[j]?
  | .mkagg, l => some (.agg l)
  | .mklst, l => some (.lst l)
  | .app, [.lst l, .lst m] => if l.length + m.length ≤ 1099511627776 then some (.lst (l ++ m)) else none
  | .set, [.lst l, .int i, x] => if 0 ≤ i ∧ i < (l.length : Int) then some (.lst (l.set i.toNat x)) else none
  | .sub, [.lst l, .int a, .int b] => if 0 ≤ a ∧ a ≤ b ∧ b ≤ (l.length : Int) then some (.lst ((l.take b.toNat).drop a.toNat)) else none
  | .imin, [.int x, .int y] => some (.int (min x y))
  | .imax, [.int x, .int y] => some (.int (max x y))
  | .fmax k, [.flt x, .flt y] =>
    match k.format.order x y with
    | some .lt => some (.flt y)
    | some .gt => some (.flt x)
    | some .eq => some (.flt (if (k.decode x).neg then y else x))
    | none => none
  | .aeq ks neg, l => (eqCells ks (l.take ks.length) (l.drop ks.length)).map fun b => .bool (match neg with | true => !b | false => b)
  | .rep, [.int n, x] => if 0 ≤ n ∧ n ≤ 1099511627776 then some (.lst (List.replicate n.toNat x)) else none
  | _, _ => none

/-! ### The language -/
inductive Atom where
  | v (i : Nat)
  | c (d : D)

def Atom.ev (ρ : List D) : Atom → D
  | .v i => ρ.getD i .undef
  | .c d => d

abbrev Guard := Option (Atom × Bool)
def Guard.ok (ρ : List D) : Guard → Bool
  | none => true
  | some (x, w) => match x.ev ρ with | .bool b => b == w | _ => false

inductive T where
  | op (g : Guard) (p : Prim) (xs : List Atom) (k : T)
  | call (g : Guard) (f : Nat) (xs : List Atom) (m : Nat) (k : T)
  | ite (c : Atom) (t e : T)
  | join (m : Nat) (t k : T)
  | loop (xs : List Atom) (b : T)
  | out (l : Nat) (xs : List Atom)

def evs (ρ : List D) (xs : List Atom) : List D := xs.map (·.ev ρ)

def iter (body : List D → Option (Nat × List D)) : Nat → List D → Option (Nat × List D)
  | 0, _ => none
  | f + 1, ds => match body ds with
    | some (0, ds') => iter body f ds'
    | some (l + 1, ds') => some (l, ds')
    | none => none

def run (G : Nat → List D → Option (List D)) (fuel : Nat) : T → List D → Option (Nat × List D)
  | .op g p xs k, ρ => if g.ok ρ then (match p.ev (evs ρ xs) with | some d => run G fuel k (ρ ++ [d]) | none => none) else run G fuel k (ρ ++ [.undef])
  | .call g f xs m k, ρ =>
    if g.ok ρ then (match G f (evs ρ xs) with | some ds => if ds.length = m then run G fuel k (ρ ++ ds) else none | none => none)
    else run G fuel k (ρ ++ List.replicate m .undef)
  | .ite c t e, ρ => match c.ev ρ with | .bool true => run G fuel t ρ | .bool false => run G fuel e ρ | _ => none
  | .join m t k, ρ => match run G fuel t ρ with
    | some (0, ds) => if ds.length = m then run G fuel k (ρ ++ ds) else none
    | some (l + 1, ds) => some (l, ds)
    | none => none
  | .loop xs b, ρ => iter (fun ds => if ds.length = xs.length then run G fuel b (ρ ++ ds) else none) fuel (evs ρ xs)
  | .out l xs, ρ => some (l, evs ρ xs)

end Vs

namespace Vs
open Go

/-! ### Types of cells -/
inductive BT where
  | int (k : IntKind) | bool | flt (k : FloatKind) | str
  deriving DecidableEq
/-- What a slice holds: elements of these cells; 'agg': a struct or an array. -/
structure ET where
  agg : Bool
  cells : List BT
  deriving DecidableEq
/-- The type of one cell: a plain one, a slice of plain elements, a slice of slices of plain elements. -/
inductive CT where
  | b (t : BT) | s1 (e : ET) | s2 (e : ET)
  deriving DecidableEq

def rowAgg : CT → Bool | .s1 e => e.agg | _ => false
def rowSz : CT → Nat | .s1 e => e.cells.length | _ => 1
/-- The cell types of an element of a slice of this type. -/
def rowCells : CT → List CT | .s1 e => e.cells.map .b | .s2 e => [.s1 e] | .b _ => []

/-! ### Symbolic values -/
/-- A cell that is only read: its data, or an own slice that was handed over. -/
inductive FC where
  | d (t : CT) (x : Atom) | o (β : Nat)
inductive CV0 where
  | undef
  | nils
  | dat (t : CT) (x : Atom)
  | own (β : Nat)
  | vptr (β off : Nat)
  | eptr (β : Nat) (i : Atom) (sz off : Nat)
  | rref (β ver : Nat) (i : Atom)
  | fcel (cs : List FC) (off : Nat)
inductive CV where
  | s (c : CV0)
  | fn (f : FuncId) (caps : List CV0)
def FC.cv : FC → CV
  | .d t x => .s (.dat t x)
  | .o β => .s (.own β)
def fcOf (p : CT × Atom) : FC := .d p.1 p.2
inductive SV where
  | c (x : CV)
  | agg (cs : List CV)
  | tup (vs : List (Bool × List CV))
  | gd (g : Atom) (w : Bool) (s : SV)
inductive SB where
  | dead
  | hid
  | var (cs : List CV)
  | row (t : CT) (e : TypeId) (x : Atom)
  | rows (et : ET) (e' e : TypeId) (ver : Nat) (x : Atom)
structure SS where
  n : Nat
  slots : List SV
  heap : List SB

abbrev Res := Except String
def need {α : Type} (o : Option α) (why : String) : Res α := match o with | some a => .ok a | none => .error why

def SV.undef : SV := .c (.s .undef)
def dat (t : CT) (x : Atom) : SV := .c (.s (.dat t x))
def bdat (t : BT) (x : Atom) : SV := .c (.s (.dat (.b t) x))

/-! ### Types of the program -/
def ctOf (P : Program) (t : TypeId) : Option BT :=
  match P.underlying t with
  | some .bool => some .bool | some (.int k) => some (.int k) | some (.float k) => some (.flt k) | some .string => some .str | _ => none
/-- The plain cells of a type: 'true' for a struct or an array. -/
def plainCells (P : Program) : Nat → TypeId → Option (Bool × List BT)
  | 0, _ => none
  | d + 1, t =>
    match P.underlying t with
    | some (.struct fs) => (fs.toList.foldr (fun f acc => match acc, plainCells P d f.type with | some l, some (_, cs) => some (cs ++ l) | _, _ => none) (some [])).map fun l => (true, l)
    | some (.array n e) => (plainCells P d e).map fun (_, cs) => (true, (List.replicate n cs).flatten)
    | _ => (ctOf P t).map fun b => (false, [b])
def etOf (P : Program) (t : TypeId) : Option ET := (plainCells P 8 t).map fun (a, cs) => ⟨a, cs⟩
def cellTy (P : Program) (t : TypeId) : Option CT :=
  match P.underlying t with
  | some (.slice e) =>
    match P.underlying e with
    | some (.slice e') => (etOf P e').map .s2
    | _ => (etOf P e).map .s1
  | _ => (ctOf P t).map .b
/-- The cells of a type that may hold slices. -/
def allCells (P : Program) : Nat → TypeId → Option (Bool × List CT)
  | 0, _ => none
  | d + 1, t =>
    match P.underlying t with
    | some (.struct fs) => (fs.toList.foldr (fun f acc => match acc, allCells P d f.type with | some l, some (_, cs) => some (cs ++ l) | _, _ => none) (some [])).map fun l => (true, l)
    | some (.array n e) => (allCells P d e).map fun (_, cs) => (true, (List.replicate n cs).flatten)
    | _ => (cellTy P t).map fun b => (false, [b])

def isAggB (P : Program) (t : TypeId) : Option Bool :=
  match P.underlying t with
  | some (.struct _) | some (.array _ _) => some true
  | some _ => some false
  | none => none
def sizeB (P : Program) (t : TypeId) : Option Nat := (P.info? t).map (·.size)

/-! ### Literals -/
def litCell : Value → Option CV0
  | .int k n => some (.dat (.b (.int k)) (.c (.int n)))
  | .bool b => some (.dat (.b .bool) (.c (.bool b)))
  | .float k x => some (.dat (.b (.flt k)) (.c (.flt (canon k x))))
  | .string s => some (.dat (.b .str) (.c (.str s)))
  | .slice none 0 0 => some .nils
  | _ => none
def litCells : List Value → Option (List CV)
  | [] => some []
  | v :: vs => match litCell v, litCells vs with | some c, some cs => some (.s c :: cs) | _, _ => none
def litSV (v : Value) : Option SV :=
  match v with
  | .agg cs => (litCells cs.toList).map .agg
  | v => (litCell v).map fun c => .c (.s c)

/-! ### Effects -/
abbrev Push := Prim × List Atom
/-- What a local operation leaves: its value, and what is pushed on the environment. -/
abbrev Loc := SV × List Push

def getSV (S : SS) : Operand → Res SV
  | .tmp t => need S.slots[t]? "slot"
  | .const v => need (litSV v) "const"
  | .func f => .ok (.c (.fn f []))
  | .global _ => .error "global"

/-- An operand of an operation under a guard: what holds under the same guard holds here. -/
def strip (g : Guard) (s : SV) : SV :=
  match g, s with
  | some (.v i, w), .gd (.v j) w' s' => if i = j ∧ w = w' then s' else s
  | _, s => s

def svCells : SV → Option (Bool × List CV)
  | .c x => some (false, [x])
  | .agg cs => some (true, cs)
  | _ => none
def mkSV (agg : Bool) (cs : List CV) : Option SV :=
  if agg then some (.agg cs) else match cs with | [x] => some (.c x) | _ => none

def isBoolT (P : Program) (t : TypeId) : Bool := match P.underlying t with | some .bool => true | _ => false
/-- How a cell is compared: floats in their kind; none: as it stands. -/
def kOf : BT → Option (Option FloatKind)
  | .flt k => some (some k) | .int _ | .bool => some none | .str => none
def eqFieldsB (P : Program) : Nat → List Field → Option (List BT)
  | _, [] => some []
  | j, f :: fs =>
    if f.name ≠ "_" ∧ f.offset = j ∧ isAggB P f.type = some false then
      match ctOf P f.type, eqFieldsB P (j + 1) fs with | some b, some bs => some (b :: bs) | _, _ => none
    else none
/-- The cells of a struct or an array of plain values, which are compared one by one. -/
def flatEq (P : Program) (t : TypeId) : Option (List BT) :=
  if P.eqGuardType P.depth t = true then none else
  match P.underlying t with
  | some (.struct fs) => if P.stoodInHeld t = true then none else eqFieldsB P 0 fs.toList
  | some (.array n e) => if isAggB P e = some false ∧ sizeB P e = some 1 then (ctOf P e).map (List.replicate n) else none
  | _ => none
def eqAtoms : List BT → List CV → Res (List (Option FloatKind) × List Atom)
  | [], [] => .ok ([], [])
  | t :: ts, .s (.dat (.b t') x) :: cs =>
    match kOf t with
    | some k => if t = t' then do let (ks, xs) ← eqAtoms ts cs; .ok (k :: ks, x :: xs) else .error "compared cell"
    | none => .error "compared text"
  | _, _ => .error "compared cells"
def lopBin (n : Nat) (op : BinOp) (bt : Bool) (et : Option (List BT)) (a b : SV) : Res Loc :=
  match a, b with
  | .agg cs, .agg ds =>
    match et with
    | some ts => do
      let (ks, xs) ← eqAtoms ts cs
      let (_, ys) ← eqAtoms ts ds
      match op with
      | .eql => .ok (bdat .bool (.v n), [(.aeq ks false, xs ++ ys)])
      | .neq => .ok (bdat .bool (.v n), [(.aeq ks true, xs ++ ys)])
      | _ => .error "binop"
    | none => .error "compared type"
  | .c (.s (.dat (.b (.int k)) x)), .c (.s (.dat (.b (.int k')) y)) =>
    match op with
    | .shl | .shr => .ok (bdat (.int k) (.v n), [(.shf op k, [x, y])])
    | .add | .sub | .mul => if k = k' then .ok (bdat (.int k) (.v n), [(.iar op k, [x, y])]) else .error "kinds"
    | .quo | .rem => if k = k' then .ok (bdat (.int k) (.v n), [(.idv op k, [x, y])]) else .error "kinds"
    | .and | .or | .xor | .andNot => if k = k' then .ok (bdat (.int k) (.v n), [(.ibt op k, [x, y])]) else .error "kinds"
    | .eql | .neq | .lss | .leq | .gtr | .geq => if k = k' then .ok (bdat .bool (.v n), [(.icm op, [x, y])]) else .error "kinds"
  | .c (.s (.dat (.b (.flt k)) x)), .c (.s (.dat (.b (.flt k')) y)) =>
    if k = k' then
      match op with
      | .add | .sub | .mul | .quo => .ok (bdat (.flt k) (.v n), [(.far op k, [x, y])])
      | .eql | .neq | .lss | .leq | .gtr | .geq => .ok (bdat .bool (.v n), [(.fcm op k, [x, y])])
      | _ => .error "float op"
    else .error "kinds"
  | .c (.s (.dat (.b .bool) x)), .c (.s (.dat (.b .bool) y)) =>
    if bt = true then
      match op with
      | .eql => .ok (bdat .bool (.v n), [(.beq, [x, y])])
      | .neq => .ok (bdat .bool (.v n), [(.bne, [x, y])])
      | _ => .error "bool op"
    else .error "bool type"
  | _, _ => .error "binop"

def lopConv (P : Program) (n : Nat) (src dst : TypeId) (a : SV) : Res Loc :=
  match P.underlying src, P.underlying dst, a with
  | some _, some (.int k), .c (.s (.dat (.b (.int _)) x)) => .ok (bdat (.int k) (.v n), [(.i2i k, [x])])
  | some _, some (.float k), .c (.s (.dat (.b (.int _)) x)) => .ok (bdat (.flt k) (.v n), [(.i2f k, [x])])
  | some _, some (.int k), .c (.s (.dat (.b (.flt s)) x)) => .ok (bdat (.int k) (.v n), [(.f2i s k, [x])])
  | some _, some (.float k), .c (.s (.dat (.b (.flt s)) x)) => .ok (bdat (.flt k) (.v n), [(.f2f s k, [x])])
  | _, _, _ => .error "convert"

/-- The cells of element data 'x' of a slice of type t, from environment place n on. -/
def elemCells (n : Nat) (t : CT) (x : Atom) : List (CT × Atom) × List Push :=
  if rowAgg t then
    ((rowCells t).zipIdx.map fun (c, j) => (c, .v (n + j)), (rowCells t).zipIdx.map fun (_, j) => (.proj j, [x]))
  else (match rowCells t with | [c] => [(c, x)] | _ => [], [])

def ptrAdd (s : SV) (k : Nat) : Res SV :=
  match s with
  | .c (.s (.vptr β off)) => .ok (.c (.s (.vptr β (off + k))))
  | .c (.s (.eptr β i sz off)) => .ok (.c (.s (.eptr β i sz (off + k))))
  | .c (.s (.fcel cs off)) => .ok (.c (.s (.fcel cs (off + k))))
  | _ => .error "pointer"

def lopLoad (P : Program) (S : SS) (t : TypeId) (p : SV) : Res Loc := do
  let agg ← need (isAggB P t) "load type"
  let sz ← need (sizeB P t) "load size"
  match p with
  | .c (.s (.vptr β off)) =>
    match S.heap[β]? with
    | some (.var cs) =>
      let part := (cs.drop off).take sz
      if part.length = sz ∧ 0 < sz then do let s ← need (mkSV agg part) "load shape"; .ok (s, []) else .error "load part"
    | _ => .error "load block"
  | .c (.s (.fcel cs off)) =>
    let part := (cs.drop off).take sz
    if part.length = sz ∧ 0 < sz then do let s ← need (mkSV agg (part.map FC.cv)) "load shape"; .ok (s, []) else .error "load part"
  | .c (.s (.eptr β i sz' off)) =>
    match S.heap[β]? with
    | some (.row rt _ x) =>
      let (cells, ps) := elemCells (S.n + 1) rt (.v S.n)
      let part := (cells.drop off).take sz
      if sz' = rowSz rt ∧ part.length = sz ∧ 0 < sz then do
        let s ← need (mkSV agg (part.map fun (c, x) => .s (.dat c x))) "load shape"; .ok (s, (.idx, [x, i]) :: ps)
      else .error "load part"
    | some (.rows _ _ _ ver _) => if sz' = 1 ∧ off = 0 ∧ agg = false ∧ sz = 1 then .ok (.c (.s (.rref β ver i)), []) else .error "load row of rows"
    | _ => .error "load row"
  | _ => .error "load"

def lopFieldAddr (P : Program) (s : TypeId) (p : SV) (f : Nat) : Res Loc :=
  match P.underlying s with
  | some (.struct fs) =>
    match fs[f]? with
    | some fd => if (sizeB P fd.type).any (0 < ·) then do let q ← ptrAdd p fd.offset; .ok (q, []) else .error "field size"
    | none => .error "field"
  | _ => .error "fieldAddr"

def atomNat : Atom → Option Nat
  | .c (.int i) => if 0 ≤ i then some i.toNat else none
  | _ => none

def lopIndexAddr (P : Program) (S : SS) (t : TypeId) (x i : SV) : Res Loc :=
  match P.underlying t, i with
  | some (.slice e), .c (.s (.dat (.b (.int _)) ix)) =>
    match x with
    | .c (.s (.dat (.s1 et) l)) =>
      if sizeB P e = some et.cells.length then
        let (cells, ps) := elemCells (S.n + 1) (.s1 et) (.v S.n)
        .ok (.c (.s (.fcel (cells.map fcOf) 0)), (.idx, [l, ix]) :: ps)
      else .error "index size"
    | .c (.s (.dat (.s2 et) l)) =>
      if sizeB P e = some 1 then .ok (.c (.s (.fcel [.d (.s1 et) (.v S.n)] 0)), [(.idx, [l, ix])]) else .error "index size"
    | .c (.s (.own β)) =>
      match S.heap[β]? with
      | some (.row rt _ l) => if sizeB P e = some (rowSz rt) then .ok (.c (.s (.eptr β ix (rowSz rt) 0)), [(.idx, [l, ix])]) else .error "index size"
      | some (.rows _ _ _ _ l) => if sizeB P e = some 1 then .ok (.c (.s (.eptr β ix 1 0)), [(.idx, [l, ix])]) else .error "index size"
      | _ => .error "index own"
    | _ => .error "index slice"
  | some (.array len e), .c (.s (.dat (.b (.int _)) ix)) =>
    match atomNat ix, sizeB P e with
    | some k, some sz => if k < len then do let q ← ptrAdd x (k * sz); .ok (q, []) else .error "array index"
    | _, _ => .error "array index"
  | _, _ => .error "indexAddr"

def lopPart (P : Program) (t : TypeId) (cs : List CV) (off : Nat) : Res Loc := do
  let agg ← need (isAggB P t) "part type"
  let sz ← need (sizeB P t) "part size"
  let part := (cs.drop off).take sz
  if part.length = sz ∧ 0 < sz then do let s ← need (mkSV agg part) "part shape"; .ok (s, []) else .error "part"

def lopField (P : Program) (t : TypeId) (x : SV) (f : Nat) : Res Loc :=
  match P.underlying t, x with
  | some (.struct fs), .agg cs => match fs[f]? with | some fd => lopPart P fd.type cs fd.offset | none => .error "field"
  | _, _ => .error "field"

def lopIndex (P : Program) (t : TypeId) (x i : SV) : Res Loc :=
  match P.underlying t, x, i with
  | some (.array len e), .agg cs, .c (.s (.dat (.b (.int _)) ix)) =>
    match atomNat ix, sizeB P e with
    | some k, some sz => if k < len then lopPart P e cs (k * sz) else .error "index"
    | _, _ => .error "index"
  | _, _, _ => .error "index"

/-- A cell that is known to hold one value. -/
def plainCV : CV → Bool | .s .undef => false | _ => true

/-- Parts laid into cells, as 'Instr.fill' does it. -/
def fillS (place : Nat → Option (Nat × Nat)) : List CV → List (Nat × SV) → Res (List CV)
  | cs, [] => .ok cs
  | cs, (i, v) :: rest =>
    match place i, svCells v with
    | some (off, sz), some (_, vs) =>
      if vs.length = sz ∧ off + vs.length ≤ cs.length ∧ vs.all plainCV = true then fillS place (cs.take off ++ vs ++ cs.drop (off + vs.length)) rest else .error "fill size"
    | _, _ => .error "fill"
def lopBuild (P : Program) (t : TypeId) (parts : List (Nat × SV)) : Res Loc := do
  let i ← need (P.info? t) "build type"
  let z ← need i.zero "build zero"
  let zs ← need (litCells z.cells.toList) "build zero cells"
  match P.underlying t with
  | some (.struct fs) => do
    let places ← need (fs.toList.mapM (fun f => (P.info? f.type).map fun i => (f.offset, i.size))) "build field size"
    let cs ← fillS (places.toArray[·]?) zs parts
    .ok (.agg cs, [])
  | some (.array _ e) => do
    let ie ← need (P.info? e) "build size"
    let cs ← fillS (fun j => some (j * ie.size, ie.size)) zs parts
    .ok (.agg cs, [])
  | _ => .error "build"

def lopLen (P : Program) (S : SS) (t : TypeId) (x : SV) : Res Loc :=
  match P.underlying t, x with
  | some (.slice _), .c (.s (.dat (.s1 _) l)) | some (.slice _), .c (.s (.dat (.s2 _) l)) => .ok (bdat (.int .i64) (.v S.n), [(.len, [l])])
  | some (.slice _), .c (.s (.own β)) => match S.heap[β]? with | some (.row _ _ l) | some (.rows _ _ _ _ l) => .ok (bdat (.int .i64) (.v S.n), [(.len, [l])]) | _ => .error "len own"
  | some (.slice _), .c (.s .nils) => .ok (bdat (.int .i64) (.c (.int 0)), [])
  | _, _ => .error "len"

def lopPick (n : Nat) (c a b : SV) : Res Loc :=
  let a := match c, a with | .c (.s (.dat _ (.v i))), .gd (.v j) w s => if w = true then (if i = j then s else a) else a | _, _ => a
  let b := match c, b with | .c (.s (.dat _ (.v i))), .gd (.v j) w s => if w = false then (if i = j then s else b) else b | _, _ => b
  match c, a, b with
  | .c (.s (.dat (.b .bool) x)), .c (.s (.dat (.b t) y)), .c (.s (.dat (.b t') z)) => if t = t' then .ok (bdat t (.v n), [(.pick, [x, y, z])]) else .error "pick types"
  | _, _, _ => .error "pick"

def getSVs (S : SS) (g : Guard) : List Operand → Res (List SV)
  | [] => .ok []
  | o :: os => do let a ← getSV S o; let l ← getSVs S g os; .ok (strip g a :: l)

def svParts (S : SS) (g : Guard) : List (Nat × Operand) → Res (List (Nat × SV))
  | [] => .ok []
  | (i, o) :: os => do let a ← getSV S o; let l ← svParts S g os; .ok ((i, strip g a) :: l)

/-- Functions of the library without a body that the executor knows. -/
inductive Ext where
  | sqrt | f64bits | f64frombits | f32bits | f32frombits
  deriving DecidableEq
def lopExt (n : Nat) (e : Ext) (xs : List SV) : Res Loc :=
  match e, xs with
  | .sqrt, [.c (.s (.dat (.b (.flt .f64)) x))] => .ok (bdat (.flt .f64) (.v n), [(.sqrt .f64, [x])])
  | .f64bits, [.c (.s (.dat (.b (.flt .f64)) x))] => .ok (bdat (.int .u64) (.v n), [(.f2b .f64, [x])])
  | .f32bits, [.c (.s (.dat (.b (.flt .f32)) x))] => .ok (bdat (.int .u32) (.v n), [(.f2b .f32, [x])])
  | .f64frombits, [.c (.s (.dat (.b (.int .u64)) x))] => .ok (bdat (.flt .f64) (.v n), [(.b2f .f64, [x])])
  | .f32frombits, [.c (.s (.dat (.b (.int .u32)) x))] => .ok (bdat (.flt .f32) (.v n), [(.b2f .f32, [x])])
  | _, _ => .error "ext"

def isSl : CT → Bool | .b _ => false | _ => true
/-- The part of a slice: of one that is only read from now on. -/
def lopSlice (P : Program) (n : Nat) (t : TypeId) (l : Atom) (ct : CT) (lo hi : Option SV) : Res Loc :=
  match P.underlying t with
  | some (.slice e) =>
    match sizeB P e with
    | some sz =>
      if sz = rowSz ct ∧ isSl ct = true then do
        let (h, ps) ← (match hi with
          | none => .ok (.v n, [(.len, [l])])
          | some (.c (.s (.dat (.b (.int .i64)) x))) => .ok (x, [])
          | _ => .error "slice bound" : Res (Atom × List Push))
        let a ← (match lo with
          | none => .ok (.c (.int 0))
          | some (.c (.s (.dat (.b (.int .i64)) x))) => .ok x
          | _ => .error "slice bound" : Res Atom)
        .ok (.c (.s (.dat ct (.v (n + ps.length)))), ps ++ [(.sub, [l, a, h])])
      else .error "slice size"
    | none => .error "slice element"
  | _ => .error "slice type"

def capsOf : List SV → Res (List CV0)
  | [] => .ok []
  | .c (.s c) :: r => do let l ← capsOf r; .ok (c :: l)
  | _ :: _ => .error "capture"
/-- An operation that changes nothing but its slot and the environment. -/
def lop (P : Program) (X : FuncId → Option Ext) (S : SS) (g : Guard) (o : Oper) : Res Loc :=
  let get (x : Operand) : Res SV := do let a ← getSV S x; .ok (strip g a)
  match o.op with
  | .move x | .assign x => do let a ← get x; .ok (a, [])
  | .pick c a b => do lopPick S.n (← get c) (← get a) (← get b)
  | .nilCheck x => do let a ← get x; let q ← ptrAdd a 0; .ok (q, [])
  | .binOp op t x y _ => do lopBin S.n op (isBoolT P t) (flatEq P t) (← get x) (← get y)
  | .unOp op _ x => do
    match op, ← get x with
    | .not, .c (.s (.dat (.b .bool) y)) => .ok (bdat .bool (.v S.n), [(.bnot, [y])])
    | .neg, .c (.s (.dat (.b (.flt k)) y)) => .ok (bdat (.flt k) (.v S.n), [(.fneg k, [y])])
    | .neg, .c (.s (.dat (.b (.int k)) y)) => .ok (bdat (.int k) (.v S.n), [(.iar .sub k, [.c (.int 0), y])])
    | _, _ => .error "unop"
  | .convert src dst x => do lopConv P S.n src dst (← get x)
  | .load t a => do lopLoad P S t (← get a)
  | .fieldAddr s x f => do lopFieldAddr P s (← get x) f
  | .field s x f => do lopField P s (← get x) f
  | .indexAddr t x i => do lopIndexAddr P S t (← get x) (← get i)
  | .index t x i => do lopIndex P t (← get x) (← get i)
  | .extract t j => do
    match ← get t with
    | .tup vs => match vs[j]? with | some (ag, cs) => do let s ← need (mkSV ag cs) "extract shape"; .ok (s, []) | none => .error "extract"
    | _ => .error "extract"
  | .build t parts => do lopBuild P t (← svParts S g parts.toList)
  | .call { callee := .builtin .len, args, argTypes } => do
    match ← getSVs S g args.toList, argTypes[0]? with
    | [x], some t => lopLen P S t x
    | _, _ => .error "len args"
  | .makeFunc (.func f) first captured => do
    if first.size = 0 then
      let cs ← getSVs S g captured.toList
      let l ← capsOf cs
      .ok (.c (.fn f l), [])
    else .error "bound"
  | .slice t x lo hi none => do
    match ← get x with
    | .c (.s (.dat ct l)) => do
      let a ← (match lo with | none => .ok none | some y => do let v ← get y; .ok (some v))
      let b ← (match hi with | none => .ok none | some y => do let v ← get y; .ok (some v))
      lopSlice P S.n t l ct a b
    | _ => .error "slice of what is not data"
  | .call { callee := .builtin .min, args, .. } => do
    match ← getSVs S g args.toList with
    | [.c (.s (.dat (.b (.int k)) x)), .c (.s (.dat (.b (.int k')) y))] => if k = k' then .ok (bdat (.int k) (.v S.n), [(.imin, [x, y])]) else .error "min"
    | _ => .error "min"
  | .call { callee := .builtin .max, args, .. } => do
    match ← getSVs S g args.toList with
    | [.c (.s (.dat (.b (.int k)) x)), .c (.s (.dat (.b (.int k')) y))] => if k = k' then .ok (bdat (.int k) (.v S.n), [(.imax, [x, y])]) else .error "max"
    | [.c (.s (.dat (.b (.flt k)) x)), .c (.s (.dat (.b (.flt k')) y))] => if k = k' then .ok (bdat (.flt k) (.v S.n), [(.fmax k, [x, y])]) else .error "max"
    | _ => .error "max"
  | .call { callee := .value (.func f), args, .. } => do
    match X f with
    | some e => lopExt S.n e (← getSVs S g args.toList)
    | none => .error "call"
  | _ => .error "not local"

/-! ### Operations that change the heap -/
/-- What is handed over, or made: an own slice of plain elements or of frozen slices; an own slice of own slices. -/
inductive MK where
  | row (t : CT) (e : TypeId)
  | rows (et : ET) (e' e : TypeId)
  deriving DecidableEq
def MK.sb (k : MK) (ver : Nat) (x : Atom) : SB := match k with | .row t e => .row t e x | .rows et e' e => .rows et e' e ver x
/-- A cell of a parameter: read, or handed over ('keep': handed back). -/
inductive PC where
  | rd (t : CT) | mt (k : MK) (keep : Bool)
/-- The signature of a function: its parameters (a value's cells; a pointer to cells; a known function with captured variables) and its results; 'own': the result's slice is memory that nobody else holds. What was handed over and is kept comes behind the results. -/
inductive PK where
  | val (agg : Bool) (ts : List PC)
  | ptr (ts : List PC)
  | fn (f : FuncId) (caps : List (List PC))
inductive RK where
  | cell (t : BT)
  | own (k : MK)
structure Sig where
  params : List PK
  results : List (Bool × List RK)
def keepsC : List PC → List MK
  | [] => []
  | .rd _ :: r => keepsC r
  | .mt k keep :: r => if keep then k :: keepsC r else keepsC r
def keepsP : List PK → List MK
  | [] => []
  | .val _ ts :: r => keepsC ts ++ keepsP r
  | .ptr ts :: r => keepsC ts ++ keepsP r
  | .fn _ caps :: r => (caps.flatMap keepsC) ++ keepsP r
def Sig.keeps (s : Sig) : List MK := keepsP s.params

/-- An own argument: its block; 'at': only this row of the rows. -/
structure MA where
  β : Nat
  k : MK
  keep : Bool
  at? : Option Atom

/-- The atom of a cell that is handed on to be read. -/
def cellAtom (S : SS) (t : CT) : CV → Res Atom
  | .s (.dat t' x) => if t = t' then .ok x else .error "cell type"
  | .s .nils => match t with | .b _ => .error "nil cell" | _ => .ok (.c (.lst []))
  | .s (.own β) => match S.heap[β]? with
    | some (.row t' _ x) => if t = t' then .ok x else .error "row type"
    | some (.rows et _ _ _ x) => if t = .s2 et then .ok x else .error "rows type"
    | _ => .error "row"
  | _ => .error "cell"
/-- Arguments: their atoms, what is reckoned ahead, what is handed over, which own blocks are read. -/
structure AR where
  xs : List Atom
  pre : List Push
  mas : List MA
  rds : List Nat
def AR.nil : AR := ⟨[], [], [], []⟩
def AR.app (a b : AR) : AR := ⟨a.xs ++ b.xs, a.pre ++ b.pre, a.mas ++ b.mas, a.rds ++ b.rds⟩
def rdsOf : CV → List Nat
  | .s (.own β) => [β]
  | _ => []
/-- A cell of a parameter. -/
def argCell (S : SS) (n : Nat) : PC → CV → Res AR
  | .rd t, c => do let x ← cellAtom S t c; .ok ⟨[x], [], [], rdsOf c⟩
  | .mt k keep, .s (.own β) =>
    match S.heap[β]?, k with
    | some (.row t e x), .row t' e' => if t = t' ∧ e = e' then .ok ⟨[x], [], [⟨β, k, keep, none⟩], []⟩ else .error "own arg type"
    | some (.rows et f e _ x), .rows et' f' e' => if et = et' ∧ f = f' ∧ e = e' then .ok ⟨[x], [], [⟨β, k, keep, none⟩], []⟩ else .error "own arg type"
    | _, _ => .error "own arg"
  | .mt k keep, .s (.rref β ver i) =>
    match S.heap[β]?, k with
    | some (.rows et f _ v x), .row (.s1 et') f' => if et = et' ∧ f = f' ∧ v = ver ∧ keep = true then .ok ⟨[.v n], [(.idx, [x, i])], [⟨β, k, true, some i⟩], []⟩ else .error "row arg type"
    | _, _ => .error "row arg"
  | _, _ => .error "own arg cell"
def argCells (S : SS) : Nat → List PC → List CV → Res AR
  | _, [], [] => .ok .nil
  | n, t :: ts, c :: cs => do
    let p ← argCell S n t c
    let q ← argCells S (n + p.pre.length) ts cs
    .ok (p.app q)
  | _, _, _ => .error "cells"
/-- What a pointer to cells that are read leads to. -/
def ptrCells (S : SS) (m : Nat) : CV0 → Res (List CV)
  | .vptr β off => match S.heap[β]? with | some (.var cs) => .ok ((cs.drop off).take m) | _ => .error "param ptr"
  | .fcel cs off => .ok (((cs.drop off).take m).map FC.cv)
  | _ => .error "param ptr"
def argCaps (S : SS) : Nat → List (List PC) → List CV0 → Res AR
  | _, [], [] => .ok .nil
  | n, ts :: tss, c :: cs => do
    let l ← ptrCells S ts.length c
    let p ← argCells S n ts l
    let q ← argCaps S (n + p.pre.length) tss cs
    .ok (p.app q)
  | _, _, _ => .error "captures"
def argOne (S : SS) (n : Nat) : PK → SV → Res AR
  | .val agg ts, v => match svCells v with | some (agg', cs) => if agg = agg' then argCells S n ts cs else .error "param agg" | none => .error "param"
  | .ptr ts, .c (.s c) => do let l ← ptrCells S ts.length c; argCells S n ts l
  | .fn f caps, .c (.fn f' cs) => if f = f' then argCaps S n caps cs else .error "another function"
  | _, _ => .error "param kind"
def argAll (S : SS) : Nat → List PK → List SV → Res AR
  | _, [], [] => .ok .nil
  | n, k :: ks, v :: vs => do
    let p ← argOne S n k v
    let q ← argAll S (n + p.pre.length) ks vs
    .ok (p.app q)
  | _, _, _ => .error "params"

/-- The cells of a result: environment places from n on, new blocks from h on. -/
def resCells : List RK → Nat → Nat → List CV × List SB
  | [], _, _ => ([], [])
  | .cell t :: rs, n, h => let (cs, bs) := resCells rs (n + 1) h; (.s (.dat (.b t) (.v n)) :: cs, bs)
  | .own k :: rs, n, h => let (cs, bs) := resCells rs (n + 1) (h + 1); (.s (.own h) :: cs, k.sb 0 (.v n) :: bs)
def resAll : List (Bool × List RK) → Nat → Nat → List (Bool × List CV) × List SB
  | [], _, _ => ([], [])
  | (ag, rs) :: r, n, h =>
    let (cs, bs) := resCells rs n h
    let (cs', bs') := resAll r (n + rs.length) (h + bs.length)
    ((ag, cs) :: cs', bs ++ bs')
def resCount (r : List (Bool × List RK)) : Nat := (r.map fun x => x.2.length).foldr (· + ·) 0
def resSV (r : List (Bool × List CV)) : Option SV :=
  match r with
  | [(ag, cs)] => mkSV ag cs
  | _ => some (.tup r)

/-- One operation, run in the order of the text. What is pushed: primitive operations; or a call, with what is reckoned ahead of it and behind it. -/
inductive Eff where
  | prims (ps : List Push)
  | call (pre : List Push) (f : Nat) (xs : List Atom) (m : Nat) (post : List Push)

def put (S : SS) (dst : Option Nat) (v : SV) : Res (List SV) :=
  match dst with
  | none => .ok S.slots
  | some d => if d < S.slots.length then .ok (S.slots.set d v) else .error "dst"

/-- The own blocks behind a call: place n on holds what was handed back; 'q': the place of the next thing that is reckoned. -/
def afterMA : List MA → Nat → Nat → List SB → List SB × List Push
  | [], _, _, h => (h, [])
  | a :: r, n, q, h =>
    if a.keep = false then afterMA r n q (h.set a.β .dead) else
    match a.at? with
    | none =>
      match h[a.β]? with
      | some (.rows et f e ver _) => afterMA r (n + 1) q (h.set a.β (.rows et f e (ver + 1) (.v n)))
      | _ => afterMA r (n + 1) q (h.set a.β (a.k.sb 0 (.v n)))
    | some i =>
      match h[a.β]? with
      | some (.rows et f e ver x) =>
        let (h', ps) := afterMA r (n + 1) (q + 1) (h.set a.β (.rows et f e ver (.v q)))
        (h', (.set, [x, i, .v n]) :: ps)
      | _ => afterMA r (n + 1) q h

structure Env where
  P : Program
  ext : FuncId → Option Ext
  sig : FuncId → Option (Nat × Sig)

def guardOf (S : SS) (ops : List Oper) (o : Oper) : Res Guard :=
  match o.guard with
  | none => .ok none
  | some (j, w) =>
    match (ops[j]?).bind (·.dst) with
    | some d => match S.slots[d]? with
      | some (.c (.s (.dat (.b .bool) (.v i)))) => if i < S.n then .ok (some (.v i, w)) else .error "guard place"
      | some (.gd _ _ (.c (.s (.dat (.b .bool) (.v i))))) => if i < S.n then .ok (some (.v i, w)) else .error "guard place"
      | _ => .error "guard slot"
    | none => .error "guard dst"

def wrapG (g : Guard) (s : SV) : SV := match g with | none => s | some (x, w) => .gd x w s

/-- Under a guard every plain result has a place of its own in the environment. -/
def ownPlace (n : Nat) (g : Guard) (r : Loc) : Loc :=
  match g, r with
  | some _, (.c (.s (.dat t x)), []) => (.c (.s (.dat t (.v n))), [(.id, [x])])
  | _, r => r
def freshSV (n m : Nat) : SV → Bool
  | .c (.s (.dat _ x)) => match x with | .v i => n ≤ i && i < n + m | .c _ => false
  | .gd _ _ _ => false
  | _ => true

/-- Static facts of an element type: its plain cells, where the program's table agrees with them. -/
def elemOk (P : Program) (e : TypeId) (et : ET) : Bool :=
  match P.info? e with
  | some i => decide (etOf P e = some et) && decide (i.size = et.cells.length) && decide (0 < i.size ∧ i.size ≤ 64) && decide (i.bytes ≤ 64) && (match i.zero with | some z => decide (z.cells.size = i.size) | none => false)
  | none => false
/-- An element type that is a slice of such. -/
def elemSl (P : Program) (e : TypeId) (et : ET) (e' : TypeId) : Bool :=
  match P.info? e with
  | some i => (match P.underlying e with | some (.slice x) => x == e' | _ => false) && decide (i.size = 1) && decide (i.bytes ≤ 64) && (match i.zero with | some (.slice none 0 0) => true | _ => false) && elemOk P e' et
  | none => false
/-- What an own slice of this type is made as. -/
def mkOf (P : Program) (t : TypeId) : Option MK :=
  match P.underlying t with
  | some (.slice e) =>
    match P.underlying e with
    | some (.slice e') => match etOf P e' with | some et => if elemSl P e et e' then some (.rows et e' e) else none | none => none
    | _ => match etOf P e with | some et => if elemOk P e et then some (.row (.s1 et) e) else none | none => none
  | _ => none

/-- An element's data out of its cells. -/
def elemPush (n : Nat) (et : ET) (cs : List CV) : Res (Atom × List Push) := do
  let xs ← cellAtoms0 et.cells cs
  if et.agg then .ok (.v n, [(.mkagg, xs)]) else match xs with | [x] => .ok (x, []) | _ => .error "element"
where cellAtoms0 : List BT → List CV → Res (List Atom)
  | [], [] => .ok []
  | t :: ts, .s (.dat (.b t') x) :: cs => if t = t' then do let xs ← cellAtoms0 ts cs; .ok (x :: xs) else .error "element cell"
  | _, _ => .error "element cells"
/-- The elements of a slice that is written out. -/
def elemsPush (et : ET) : Nat → List SV → Res (List Atom × List Push)
  | _, [] => .ok ([], [])
  | n, v :: vs => do
    match svCells v with
    | some (ag, cs) =>
      if ag = et.agg then do
        let (x, p) ← elemPush n et cs
        let (xs, ps) ← elemsPush et (n + p.length) vs
        .ok (x :: xs, p ++ ps)
      else .error "element kind"
    | none => .error "element value"
/-- Own rows that become the rows of rows. -/
def ownRows (S : SS) (et : ET) (e' : TypeId) : List SV → Res (List Nat × List Atom)
  | [] => .ok ([], [])
  | .c (.s (.own β)) :: vs => do
    match S.heap[β]? with
    | some (.row t e x) =>
      if t = .s1 et ∧ e = e' then do let (bs, xs) ← ownRows S et e' vs; .ok (β :: bs, x :: xs) else .error "row type"
    | _ => .error "own row"
  | _ => .error "rows of what is not own"
def killAll (h : List SB) (bs : List Nat) : List SB := bs.foldl (fun h β => h.set β .dead) h

/-- What a heap operation does to the heap: the value, what is pushed, the new heap, which old own blocks it touches. -/
abbrev Hop := SV × List Push × List SB × List Nat

/-- A slice that is written out. -/
def hopBuildSlice (P : Program) (S : SS) (t : TypeId) (len : Nat) (parts : List (Nat × SV)) : Res Hop := do
  let k ← need (mkOf P t) "slice type"
  if parts.map (·.1) = List.range len ∧ len ≤ 4096 then
    match k with
    | .row (.s1 et) e => do
      let (xs, ps) ← elemsPush et S.n (parts.map (·.2))
      .ok (.c (.s (.own S.heap.length)), ps ++ [(.mklst, xs)], S.heap ++ [.row (.s1 et) e (.v (S.n + ps.length))], [])
    | .rows et e' e => do
      let (bs, xs) ← ownRows S et e' (parts.map (·.2))
      if bs.Nodup then .ok (.c (.s (.own S.heap.length)), [(.mklst, xs)], killAll S.heap bs ++ [.rows et e' e 0 (.v S.n)], bs) else .error "one row twice"
    | _ => .error "slice kind"
  else .error "parts"

/-- Zero data of an element. -/
def zeroD (P : Program) (e : TypeId) (et : ET) : Option D :=
  match P.info? e with
  | some i => match i.zero with
    | some z => match litCells z.cells.toList with
      | some cs => (zs et.cells cs).map (unflatD et.agg)
      | none => none
    | none => none
  | none => none
where
  unflatD (agg : Bool) (ds : List D) : D := if agg then .agg ds else ds.headD .undef
  zs : List BT → List CV → Option (List D)
  | [], [] => some []
  | t :: ts, .s (.dat (.b t') (.c d)) :: cs => if t = t' then (zs ts cs).map (d :: ·) else none
  | _, _ => none
def Atom.same : Atom → Atom → Bool
  | .v i, .v j => i == j
  | .c (.int a), .c (.int b) => a == b
  | _, _ => false
def hopMakeSlice (P : Program) (S : SS) (t : TypeId) (a b : SV) : Res Hop := do
  let k ← need (mkOf P t) "slice type"
  match a, b with
  | .c (.s (.dat (.b (.int .i64)) x)), .c (.s (.dat (.b (.int .i64)) y)) =>
    if Atom.same x y then
      match k with
      | .row (.s1 et) e => do
        let z ← need (zeroD P e et) "zero"
        .ok (.c (.s (.own S.heap.length)), [(.rep, [x, .c z])], S.heap ++ [.row (.s1 et) e (.v S.n)], [])
      | .rows et e' e => .ok (.c (.s (.own S.heap.length)), [(.rep, [x, .c (.lst [])])], S.heap ++ [.rows et e' e 0 (.v S.n)], [])
      | _ => .error "slice kind"
    else .error "room beyond the length"
  | _, _ => .error "make"

/-- Appending: to an own slice, which is another one then. -/
def hopAppend (P : Program) (S : SS) (t : TypeId) (a b : SV) : Res Hop := do
  let k ← need (mkOf P t) "append type"
  let (x, ha, tch) ← (match a with
    | .c (.s .nils) => .ok (.c (.lst []), S.heap, [])
    | .c (.s (.own β)) =>
      match S.heap[β]?, k with
      | some (.row u e x), .row u' e' => if u = u' ∧ e = e' then .ok (x, S.heap.set β .dead, [β]) else .error "append row"
      | some (.rows et f e _ x), .rows et' f' e' => if et = et' ∧ f = f' ∧ e = e' then .ok (x, S.heap.set β .dead, [β]) else .error "append rows"
      | _, _ => .error "append to"
    | _ => .error "append to what is not own" : Res (Atom × List SB × List Nat))
  match k, b with
  | .row (.s1 et) e, .c (.s (.dat (.s1 et') y)) =>
    if et = et' then .ok (.c (.s (.own S.heap.length)), [(.app, [x, y])], ha ++ [.row (.s1 et) e (.v S.n)], tch) else .error "append type"
  | .row (.s1 et) e, .c (.s .nils) => .ok (.c (.s (.own S.heap.length)), [(.app, [x, .c (.lst [])])], ha ++ [.row (.s1 et) e (.v S.n)], tch)
  | .row (.s1 et) e, .c (.s (.own γ)) =>
    match ha[γ]? with
    | some (.row (.s1 et') _ y) => if et = et' then .ok (.c (.s (.own S.heap.length)), [(.app, [x, y])], ha ++ [.row (.s1 et) e (.v S.n)], tch) else .error "append type"
    | _ => .error "append what"
  | .rows et e' e, .c (.s (.own γ)) =>
    match ha[γ]? with
    | some (.rows et' f' e'' _ y) =>
      if et = et' ∧ f' = e' ∧ e'' = e then .ok (.c (.s (.own S.heap.length)), [(.app, [x, y])], ha.set γ .dead ++ [.rows et e' e 0 (.v S.n)], γ :: tch) else .error "append rows type"
    | _ => .error "append what rows"
  | _, _ => .error "append kind"

/-- A store through the address of an element of an own slice. -/
def hopStore (P : Program) (S : SS) (t : TypeId) (β : Nat) (i : Atom) (sz' off : Nat) (v : SV) : Res Hop := do
  let sz ← need (sizeB P t) "store size"
  match S.heap[β]? with
  | some (.row (.s1 et) e x) =>
    match svCells v with
    | some (_, vs) =>
      if sz' = et.cells.length ∧ vs.length = sz ∧ off + sz ≤ et.cells.length ∧ 0 < sz then do
        let ys ← elemPush.cellAtoms0 ((et.cells.drop off).take sz) vs
        if et.agg then
          if sz = et.cells.length then .ok (SV.undef, [(.mkagg, ys), (.set, [x, i, .v S.n])], S.heap.set β (.row (.s1 et) e (.v (S.n + 1))), [β])
          else
            let m := et.cells.length
            let pre : List Push := (.idx, [x, i]) :: (List.range m).map fun j => (.proj j, [.v S.n])
            let cells : List Atom := ((List.range m).map fun j => Atom.v (S.n + 1 + j)).take off ++ ys ++ ((List.range m).map fun j => Atom.v (S.n + 1 + j)).drop (off + sz)
            .ok (SV.undef, pre ++ [(.mkagg, cells), (.set, [x, i, .v (S.n + 1 + m)])], S.heap.set β (.row (.s1 et) e (.v (S.n + 2 + m))), [β])
        else match ys with
          | [y] => if et.cells.length = 1 then .ok (SV.undef, [(.set, [x, i, y])], S.heap.set β (.row (.s1 et) e (.v S.n)), [β]) else .error "store element"
          | _ => .error "store element"
      else .error "store shape"
    | none => .error "store value"
  | some (.rows et e' e ver x) =>
    match v with
    | .c (.s (.own γ)) =>
      match S.heap[γ]? with
      | some (.row (.s1 et') e'' y) =>
        if γ ≠ β ∧ et = et' ∧ e'' = e' ∧ sz' = 1 ∧ off = 0 ∧ sz = 1 then .ok (SV.undef, [(.set, [x, i, y])], (S.heap.set γ .dead).set β (.rows et e' e (ver + 1) (.v S.n)), [β, γ]) else .error "store row type"
      | _ => .error "store row"
    | _ => .error "store in rows"
  | _ => .error "store block"


/-- The value of a new variable's or a part's store. -/
def hop (P : Program) (S : SS) (o : Oper) : Res Hop :=
  match o.op with
  | .box _ x => do
    let a ← getSV S x
    match svCells a with
    | some (_, cs) => if cs.all plainCV then .ok (.c (.s (.vptr S.heap.length 0)), [], S.heap ++ [.var cs], []) else .error "box cells"
    | none => .error "box"
  | .alloc t => do
    let i ← need (P.info? t) "alloc type"
    let z ← need i.zero "alloc zero"
    let cs ← need (litCells z.cells.toList) "alloc cells"
    .ok (.c (.s (.vptr S.heap.length 0)), [], S.heap ++ [.var cs], [])
  | .store t p x => do
    let pa ← getSV S p
    let a ← getSV S x
    match pa with
    | .c (.s (.vptr β off)) => do
      let sz ← need (sizeB P t) "store size"
      match svCells a with
      | some (_, vs) =>
        match S.heap[β]? with
        | some (.var cs) =>
          if vs.length = sz ∧ off + sz ≤ cs.length ∧ vs.all plainCV then .ok (SV.undef, [], S.heap.set β (.var (cs.take off ++ vs ++ cs.drop (off + sz))), [β]) else .error "store shape"
        | _ => .error "store block"
      | none => .error "store"
    | .c (.s (.eptr β i sz off)) => hopStore P S t β i sz off a
    | _ => .error "store"
  | .buildSlice t len parts => do
    let l ← svParts S none parts.toList
    hopBuildSlice P S t len l
  | .makeSlice t l c => do hopMakeSlice P S t (← getSV S l) (← getSV S c)
  | .call { callee := .builtin .append, args, argTypes } => do
    match ← getSVs S none args.toList, argTypes.toList with
    | [a, b], [t, t'] => if t = t' then hopAppend P S t a b else .error "append types"
    | _, _ => .error "append"
  | .slice t x lo hi none => do
    match ← getSV S x with
    | .c (.s (.own β)) => do
      let a ← (match lo with | none => .ok none | some y => do let v ← getSV S y; .ok (some v))
      let b ← (match hi with | none => .ok none | some y => do let v ← getSV S y; .ok (some v))
      match S.heap[β]? with
      | some (.row (.s1 et) _ l) => do let (v, ps) ← lopSlice P S.n t l (.s1 et) a b; .ok (v, ps, S.heap.set β .dead, [β])
      | some (.rows et _ _ _ l) => do let (v, ps) ← lopSlice P S.n t l (.s2 et) a b; .ok (v, ps, S.heap.set β .dead, [β])
      | _ => .error "slice block"
    | _ => .error "slice"
  | _ => .error "no operation"

/-- Which function is called: by its name, or as a value with what it captured. -/
def calleeOf (S : SS) : Operand → Res (FuncId × List SV)
  | .func f => .ok (f, [])
  | .tmp t => do
    match ← getSV S (.tmp t) with
    | .c (.fn f cs) => .ok (f, cs.map fun c => .c (.s c))
    | _ => .error "callee"
  | _ => .error "callee"

def sop (E : Env) (ops : List Oper) (S : SS) (o : Oper) : Res (SS × Guard × Eff × List Nat) := do
  let g ← guardOf S ops o
  match lop E.P E.ext S g o with
  | .ok r => do
    let (v, ps) := ownPlace S.n g r
    if g.isSome ∧ freshSV S.n ps.length v = false then .error "guarded value" else do
    let slots ← put S o.dst (wrapG g v)
    .ok ({ S with n := S.n + ps.length, slots }, g, .prims ps, [])
  | .error why =>
    match o.op with
    | .call { callee := .value fo, args, .. } => do
      let (f, caps) ← calleeOf S fo
      match E.sig f with
      | some (key, sg) => do
        let as ← getSVs S g args.toList
        let ar ← argAll S S.n sg.params (as ++ caps)
        let n1 := S.n + ar.pre.length
        let m := resCount sg.results + sg.keeps.length
        let (heap', post) := afterMA ar.mas (n1 + resCount sg.results) (n1 + m) S.heap
        let (rs, bs) := resAll sg.results n1 S.heap.length
        let v ← need (resSV rs) "result shape"
        if ¬ (ar.mas.map MA.β).Nodup ∨ ar.rds.any (fun β => (ar.mas.map MA.β).contains β) = true then .error "one own block twice" else
        if g.isSome ∧ (bs.isEmpty = false ∨ ar.mas.isEmpty = false ∨ ar.pre.isEmpty = false ∨ freshSV n1 m v = false) then .error "own results under a guard" else do
        let slots ← put S o.dst (wrapG g v)
        .ok ({ n := n1 + m + post.length, slots, heap := heap' ++ bs }, g, .call ar.pre key ar.xs m post, ar.mas.map MA.β)
      | none => .error "no signature"
    | _ =>
      if g.isSome then .error why else do
      let (v, ps, heap, tch) ← hop E.P S o
      let slots ← put S o.dst v
      .ok ({ n := S.n + ps.length, slots, heap }, g, .prims ps, tch)

end Vs

namespace Vs
open Go Go.RowKit

/-! ### Reading -/
def unflat (agg : Bool) (ds : List D) : D := if agg then .agg ds else ds.headD .undef

def RdB : BT → Value → D → Prop
  | .int k, v, d => ∃ n, v = .int k n ∧ d = .int n
  | .bool, v, d => ∃ b, v = .bool b ∧ d = .bool b
  | .flt k, v, d => ∃ b, v = .float k b ∧ d = .flt (canon k b)
  | .str, v, d => ∃ s, v = .string s ∧ d = .str s

/-- Cells beside their data. -/
def RdCs {α : Type} (R : α → Value → D → Prop) : List α → List Value → List D → Prop
  | [], [], [] => True
  | t :: ts, v :: vs, d :: ds => R t v d ∧ RdCs R ts vs ds
  | _, _, _ => False

/-- A row of cells, element by element. -/
def RdRow {α : Type} (R : α → Value → D → Prop) (ts : List α) : List Value → List (List D) → Prop
  | xs, [] => xs = []
  | xs, l :: ls => ∃ c r, xs = c ++ r ∧ RdCs R ts c l ∧ RdRow R ts r ls

/-- A slice's value that reads, over blocks that F lets. -/
def RdSl (w : World) (F : Nat → Prop) (rr : List Value → List (List D) → Prop) (agg : Bool) (v : Value) (d : D) : Prop :=
  ∃ ls : List (List D), d = .lst (ls.map (unflat agg)) ∧ (((∃ a cap, v = .slice a 0 cap ∧ (a = none → cap = 0)) ∧ ls = []) ∨
    ∃ b off cap xs, v = .slice (some ⟨b, off, none⟩) ls.length cap ∧ ls.length ≤ cap ∧ F b ∧ (∀ (j : Nat) u, xs[j]? = some u → w.cell? ⟨b, off + j, none⟩ = some u) ∧ rr xs ls)

def rr1 (e : ET) : List Value → List (List D) → Prop := RdRow RdB e.cells
def rr2 (w : World) (F : Nat → Prop) (e : ET) : List Value → List (List D) → Prop := RdRow (fun (_ : Unit) v d => RdSl w F (rr1 e) e.agg v d) [()]

def RdC (w : World) (F : Nat → Prop) : CT → Value → D → Prop
  | .b t => RdB t
  | .s1 e => RdSl w F (rr1 e) e.agg
  | .s2 e => RdSl w F (rr2 w F e) false

def rowRd (w : World) (F : Nat → Prop) : CT → List Value → List (List D) → Prop
  | .s1 e => rr1 e
  | .s2 e => rr2 w F e
  | .b _ => fun _ _ => False

theorem RdCs.mono {α : Type} {R R' : α → Value → D → Prop} (h : ∀ t v d, R t v d → R' t v d) : ∀ {ts : List α} {vs : List Value} {ds : List D}, RdCs R ts vs ds → RdCs R' ts vs ds
  | [], [], [], _ => trivial
  | _ :: _, _ :: _, _ :: _, ⟨a, b⟩ => ⟨h _ _ _ a, RdCs.mono h b⟩

theorem RdRow.mono {α : Type} {R R' : α → Value → D → Prop} (h : ∀ t v d, R t v d → R' t v d) {ts : List α} : ∀ {ls : List (List D)} {xs : List Value}, RdRow R ts xs ls → RdRow R' ts xs ls
  | [], _, e => e
  | _ :: _, _, ⟨c, r, e, a, b⟩ => ⟨c, r, e, a.mono h, RdRow.mono h b⟩

/-- What F lets has not turned, and F' lets it. -/
structure Stays (F F' : Nat → Prop) (w w' : World) : Prop where
  le : ∀ b, F b → F' b
  same : ∀ b, F b → w'.heap[b]? = w.heap[b]?

theorem Stays.cell {F F' : Nat → Prop} {w w' : World} (h : Stays F F' w w') {b : Nat} (hb : F b) (o : Nat) : w'.cell? ⟨b, o, none⟩ = w.cell? ⟨b, o, none⟩ :=
  World.cell?_of_block (a := ⟨b, o, none⟩) (h.same b hb)

theorem RdSl.mono {F F' : Nat → Prop} {w w' : World} (h : Stays F F' w w') {rr rr' : List Value → List (List D) → Prop} (hr : ∀ xs ls, rr xs ls → rr' xs ls) {agg : Bool} {v : Value} {d : D}
    (hh : RdSl w F rr agg v d) : RdSl w' F' rr' agg v d := by
  obtain ⟨ls, hd, hn | ⟨b, off, cap, xs, hv, hcap, hb, hc, hx⟩⟩ := hh
  · exact ⟨ls, hd, .inl hn⟩
  · exact ⟨ls, hd, .inr ⟨b, off, cap, xs, hv, hcap, h.le b hb, fun j u hu => by rw [h.cell hb]; exact hc j u hu, hr _ _ hx⟩⟩

theorem rr2.mono {F F' : Nat → Prop} {w w' : World} (h : Stays F F' w w') {e : ET} : ∀ xs ls, rr2 w F e xs ls → rr2 w' F' e xs ls :=
  fun _ _ => RdRow.mono fun _ _ _ => RdSl.mono h fun _ _ h => h

theorem RdC.mono {F F' : Nat → Prop} {w w' : World} (h : Stays F F' w w') {t : CT} {v : Value} {d : D} (hh : RdC w F t v d) : RdC w' F' t v d := by
  cases t with
  | b t => exact hh
  | s1 e => exact RdSl.mono h (fun _ _ h => h) hh
  | s2 e => exact RdSl.mono h (rr2.mono h) hh

theorem rowRd.mono {F F' : Nat → Prop} {w w' : World} (h : Stays F F' w w') {t : CT} {xs : List Value} {ls : List (List D)} (hh : rowRd w F t xs ls) : rowRd w' F' t xs ls := by
  cases t with
  | b t => exact hh
  | s1 e => exact hh
  | s2 e => exact rr2.mono h _ _ hh

/-! ### Symbolic values and what they stand for -/
def Atom.get (ρ : List D) : Atom → Option D
  | .v i => ρ[i]?
  | .c d => some d

theorem Atom.ev_of_get {ρ : List D} {x : Atom} {d : D} (h : x.get ρ = some d) : x.ev ρ = d := by
  cases x with
  | v i => simp only [Atom.get] at h; simp [Atom.ev, List.getD_eq_getElem?_getD, h]
  | c d' => simp only [Atom.get, Option.some.injEq] at h; exact h

theorem Atom.get_append {ρ σ : List D} {x : Atom} {d : D} (h : x.get ρ = some d) : x.get (ρ ++ σ) = some d := by
  cases x with
  | v i =>
    simp only [Atom.get] at *
    rw [List.getElem?_append_left]
    · exact h
    · rcases Nat.lt_or_ge i ρ.length with h' | h'
      · exact h'
      · rw [List.getElem?_eq_none h'] at h; cases h
  | c d' => exact h

/-- What an own block stands for: its value, and the versions of its cells, if these are own slices too. -/
structure MV where
  v : Value
  hist : List (List Value)
abbrev Mu := Nat → MV
/-- The block that an own thing's value leads to. -/
def blkOf : Value → Option Nat
  | .pointer (some a) => some a.block
  | .slice (some a) _ _ => some a.block
  | _ => none
/-- The own slices in its cells. -/
def MV.inner (m : MV) : List Value := (m.hist.getLast?).getD []
def MV.own (m : MV) (b : Nat) : Prop := blkOf m.v = some b ∨ ∃ u ∈ m.inner, blkOf u = some b
def MV.one (v : Value) : MV := ⟨v, []⟩
theorem MV.inner_nil {m : MV} (h : m.hist = []) : m.inner = [] := by simp [MV.inner, h]
theorem MV.own_flat {m : MV} (h : m.hist = []) {b : Nat} : m.own b ↔ blkOf m.v = some b := by simp [MV.own, MV.inner_nil h]

def live (h : List SB) (β : Nat) : Prop := ∃ sb, h[β]? = some sb ∧ sb ≠ .dead

/-- Blocks that stay: whatever there is, but for the own blocks. -/
def Fz (X : Nat → Prop) (h : List SB) (μ : Mu) (w : World) (b : Nat) : Prop := (b < w.heap.size ∧ ¬ X b) ∧ ∀ β, live h β → ¬ (μ β).own b

def FCR (w : World) (F : Nat → Prop) (hl : Nat) (μ : Mu) (ρ : List D) : FC → Value → Prop
  | .d t x, v => ∃ d, x.get ρ = some d ∧ RdC w F t v d
  | .o β, v => β < hl ∧ v = (μ β).v ∧ ∃ a len cap, (μ β).v = .slice a len cap

def CVR0 (w : World) (F : Nat → Prop) (hl : Nat) (μ : Mu) (ρ : List D) : CV0 → Value → Prop
  | .undef, _ => True
  | .nils, v => v = .slice none 0 0
  | .dat t x, v => ∃ d, x.get ρ = some d ∧ RdC w F t v d
  | .own β, v => β < hl ∧ v = (μ β).v ∧ ∃ a len cap, (μ β).v = .slice a len cap
  | .vptr β off, v => β < hl ∧ ∃ b, (μ β).v = .pointer (some ⟨b, 0, none⟩) ∧ v = .pointer (some ⟨b, off, none⟩)
  | .eptr β i sz off, v => β < hl ∧ ∃ b len cap n, (μ β).v = .slice (some ⟨b, 0, none⟩) len cap ∧ i.get ρ = some (.int n) ∧ 0 ≤ n ∧ n < (len : Int) ∧ v = .pointer (some ⟨b, n.toNat * sz + off, none⟩)
  | .rref β ver i, v => β < hl ∧ ∃ l n, (μ β).hist[ver]? = some l ∧ i.get ρ = some (.int n) ∧ 0 ≤ n ∧ l[n.toNat]? = some v ∧ ∃ a len cap, v = .slice a len cap
  | .fcel cs off, v => ∃ b o, v = .pointer (some ⟨b, o + off, none⟩) ∧ F b ∧ ∀ (j : Nat) c, cs[j]? = some c → ∃ u, w.cell? ⟨b, o + j, none⟩ = some u ∧ FCR w F hl μ ρ c u

def CVR (w : World) (F : Nat → Prop) (hl : Nat) (μ : Mu) (ρ : List D) : CV → Value → Prop
  | .s c, v => CVR0 w F hl μ ρ c v
  | .fn f caps, v => ∃ cs, v = .func (.func f) #[] cs ∧ cs.size = caps.length ∧ ∀ (j : Nat) c u, caps[j]? = some c → cs[j]? = some u → CVR0 w F hl μ ρ c u

/-- Cells side by side. -/
def CVRs (w : World) (F : Nat → Prop) (hl : Nat) (μ : Mu) (ρ : List D) : List CV → List Value → Prop
  | [], [] => True
  | c :: cs, v :: vs => CVR w F hl μ ρ c v ∧ CVRs w F hl μ ρ cs vs
  | _, _ => False

def PVR (w : World) (F : Nat → Prop) (hl : Nat) (μ : Mu) (ρ : List D) (agg : Bool) (cs : List CV) (v : Value) : Prop :=
  match agg with
  | true => ∃ arr : Array Value, v = .agg arr ∧ CVRs w F hl μ ρ cs arr.toList
  | false => ∃ c, cs = [c] ∧ CVR w F hl μ ρ c v

def TVR (w : World) (F : Nat → Prop) (hl : Nat) (μ : Mu) (ρ : List D) : List (Bool × List CV) → List Value → Prop
  | [], [] => True
  | (ag, cs) :: r, v :: vs => PVR w F hl μ ρ ag cs v ∧ TVR w F hl μ ρ r vs
  | _, _ => False

/-- What was passed over has no truth value in its place. -/
def unset (ρ : List D) : SV → Prop
  | .c (.s (.dat _ (.v i))) => ∃ d, ρ[i]? = some d ∧ ∀ b, d ≠ .bool b
  | _ => True

def SVR (w : World) (F : Nat → Prop) (hl : Nat) (μ : Mu) (ρ : List D) : SV → Value → Prop
  | .c x, v => CVR w F hl μ ρ x v
  | .agg cs, v => ∃ arr : Array Value, v = .agg arr ∧ CVRs w F hl μ ρ cs arr.toList
  | .tup vs, v => ∃ arr : Array Value, v = .tuple arr ∧ TVR w F hl μ ρ vs arr.toList
  | .gd g want s, v => g.get ρ ≠ none ∧ (g.get ρ = some (.bool want) → SVR w F hl μ ρ s v) ∧ (g.get ρ ≠ some (.bool want) → v = Go.undef ∧ unset ρ s)

/-- What the new environment and world leave as it was. -/
structure Grows (F F' : Nat → Prop) (hl hl' : Nat) (μ μ' : Mu) (ρ ρ' : List D) (w w' : World) : Prop where
  stays : Stays F F' w w'
  env : ∃ σ, ρ' = ρ ++ σ
  len : hl ≤ hl'
  mu : ∀ β, β < hl → (μ' β).v = (μ β).v ∧ ∃ ext, (μ' β).hist = (μ β).hist ++ ext

section
variable {F F' : Nat → Prop} {μ μ' : Mu} {hl hl' : Nat} {ρ ρ' : List D} {w w' : World}

theorem Grows.get (h : Grows F F' hl hl' μ μ' ρ ρ' w w') {x : Atom} {d : D} (hx : x.get ρ = some d) : x.get ρ' = some d := by
  obtain ⟨σ, rfl⟩ := h.env
  exact Atom.get_append hx

theorem Grows.v (h : Grows F F' hl hl' μ μ' ρ ρ' w w') {β : Nat} (hb : β < hl) : (μ' β).v = (μ β).v := (h.mu β hb).1

theorem FCR.mono (h : Grows F F' hl hl' μ μ' ρ ρ' w w') {c : FC} {v : Value} (hh : FCR w F hl μ ρ c v) : FCR w' F' hl' μ' ρ' c v := by
  cases c with
  | d t x => obtain ⟨d, hx, hd⟩ := hh; exact ⟨d, h.get hx, hd.mono h.stays⟩
  | o β => obtain ⟨hb, hh⟩ := hh; refine ⟨Nat.lt_of_lt_of_le hb h.len, ?_⟩; rw [h.v hb]; exact hh

theorem CVR0.mono (h : Grows F F' hl hl' μ μ' ρ ρ' w w') {c : CV0} {v : Value} (hh : CVR0 w F hl μ ρ c v) : CVR0 w' F' hl' μ' ρ' c v := by
  cases c with
  | undef => trivial
  | nils => exact hh
  | dat t x => obtain ⟨d, hx, hd⟩ := hh; exact ⟨d, h.get hx, hd.mono h.stays⟩
  | own β => obtain ⟨hb, hh⟩ := hh; refine ⟨Nat.lt_of_lt_of_le hb h.len, ?_⟩; rw [h.v hb]; exact hh
  | vptr β off => obtain ⟨hb, hh⟩ := hh; refine ⟨Nat.lt_of_lt_of_le hb h.len, ?_⟩; rw [h.v hb]; exact hh
  | eptr β i sz off =>
    obtain ⟨hb, b, len, cap, n, h1, h2, h3⟩ := hh
    refine ⟨Nat.lt_of_lt_of_le hb h.len, b, len, cap, n, ?_, h.get h2, h3⟩
    rw [h.v hb]; exact h1
  | rref β ver i =>
    obtain ⟨hb, l, n, h1, h2, h3⟩ := hh
    obtain ⟨_, ext, he⟩ := h.mu β hb
    refine ⟨Nat.lt_of_lt_of_le hb h.len, l, n, ?_, h.get h2, h3⟩
    rw [he, List.getElem?_append_left (List.getElem?_eq_some_iff.1 h1).1]; exact h1
  | fcel cs off =>
    obtain ⟨b, o, h1, h2, h3⟩ := hh
    refine ⟨b, o, h1, h.stays.le b h2, fun j c hj => ?_⟩
    obtain ⟨u, a1, a2⟩ := h3 j c hj
    exact ⟨u, by rw [h.stays.cell h2]; exact a1, a2.mono h⟩

theorem CVR.mono (h : Grows F F' hl hl' μ μ' ρ ρ' w w') {c : CV} {v : Value} (hh : CVR w F hl μ ρ c v) : CVR w' F' hl' μ' ρ' c v := by
  cases c with
  | s c => exact CVR0.mono h hh
  | fn f caps => obtain ⟨cs, h1, h2, h3⟩ := hh; exact ⟨cs, h1, h2, fun j c u a b => (h3 j c u a b).mono h⟩

theorem CVRs.mono (h : Grows F F' hl hl' μ μ' ρ ρ' w w') : ∀ {cs : List CV} {vs : List Value}, CVRs w F hl μ ρ cs vs → CVRs w' F' hl' μ' ρ' cs vs
  | [], [], _ => trivial
  | _ :: _, _ :: _, ⟨a, b⟩ => ⟨a.mono h, CVRs.mono h b⟩

theorem PVR.mono (h : Grows F F' hl hl' μ μ' ρ ρ' w w') {ag : Bool} {cs : List CV} {v : Value} (hh : PVR w F hl μ ρ ag cs v) : PVR w' F' hl' μ' ρ' ag cs v := by
  cases ag with
  | true => obtain ⟨arr, e, hc⟩ := hh; exact ⟨arr, e, hc.mono h⟩
  | false => obtain ⟨c, e, hc⟩ := hh; exact ⟨c, e, hc.mono h⟩

theorem TVR.mono (h : Grows F F' hl hl' μ μ' ρ ρ' w w') : ∀ {cs : List (Bool × List CV)} {vs : List Value}, TVR w F hl μ ρ cs vs → TVR w' F' hl' μ' ρ' cs vs
  | [], [], _ => trivial
  | (_, _) :: _, _ :: _, ⟨a, b⟩ => ⟨a.mono h, TVR.mono h b⟩

theorem SVR.mono (h : Grows F F' hl hl' μ μ' ρ ρ' w w') : ∀ {s : SV} {v : Value}, SVR w F hl μ ρ s v → SVR w' F' hl' μ' ρ' s v
  | .c _, _, hh => CVR.mono h hh
  | .agg _, _, ⟨arr, e, hc⟩ => ⟨arr, e, hc.mono h⟩
  | .tup _, _, ⟨arr, e, hc⟩ => ⟨arr, e, hc.mono h⟩
  | .gd g want s, v, ⟨h0, hh, hu⟩ => by
    cases hg : g.get ρ with
    | none => exact absurd hg h0
    | some d =>
      have := h.get hg
      refine ⟨by rw [this]; simp, fun hw => SVR.mono h (hh ?_), fun hw => ?_⟩
      · rw [this] at hw
        rw [hg]; exact hw
      · rw [this] at hw
        obtain ⟨h1, h2⟩ := hu (by rw [hg]; exact hw)
        refine ⟨h1, ?_⟩
        unfold unset at h2 ⊢
        split
        · rename_i i
          obtain ⟨d', hd, hb⟩ := h2
          have hx : (Atom.v i).get ρ = some d' := hd
          exact ⟨d', h.get hx, hb⟩
        · trivial
end

/-- Own slices side by side: no block is met twice. -/
def Apart (us : List Value) : Prop := ∀ (i j : Nat) u u', us[i]? = some u → us[j]? = some u' → i ≠ j → ∀ b, blkOf u = some b → blkOf u' ≠ some b

/-- An own slice of own slices: its rows. -/
def RowsD (w : World) (et : ET) (e' : TypeId) (us : List Value) (ls : List (List (List D))) : Prop :=
  us.length = ls.length ∧ ∀ (i : Nat) u l, us[i]? = some u → ls[i]? = some l → ∃ n xs, w.ownsRow 0 e' et.cells.length u n xs ∧ l.length = n ∧ RdRow RdB et.cells xs l
def rowsDat (agg : Bool) (ls : List (List (List D))) : D := .lst (ls.map fun l => .lst (l.map (unflat agg)))

/-- An own block. 'Mine': which blocks may be own (new ones, or such as were handed over). -/
def BlkR (Mine : Nat → Prop) (w : World) (F : Nat → Prop) (hl : Nat) (μ : Mu) (ρ : List D) : SB → MV → Prop
  | .dead, _ => True
  | .hid, m => ∀ b, m.own b → b < w.heap.size
  | .var cs, m => m.hist = [] ∧ ∃ b arr T, m.v = .pointer (some ⟨b, 0, none⟩) ∧ Mine b ∧ w.heap[b]? = some (.cells arr T (0, 0)) ∧ CVRs w F hl μ ρ cs arr.toList
  | .row t e x, m => m.hist = [] ∧ ∃ n xs ls, w.ownsRow 0 e (rowSz t) m.v n xs ∧ (∀ b, m.own b → Mine b) ∧ x.get ρ = some (.lst (ls.map (unflat (rowAgg t)))) ∧ ls.length = n ∧ rowRd w F t xs ls
  | .rows et e' e ver x, m => m.hist.length = ver + 1 ∧ ∃ n ls, w.ownsRow 0 e 1 m.v n m.inner ∧ (∀ b, m.own b → Mine b) ∧ x.get ρ = some (rowsDat et.agg ls) ∧ ls.length = n ∧ RowsD w et e' m.inner ls ∧
      Apart m.inner ∧ ∀ u ∈ m.inner, ∀ b, blkOf u = some b → blkOf m.v ≠ some b

/-- What was there when the call began, but for what was handed over ('M'), is as it was. -/
structure Keeps (M : Nat → Prop) (w w' : World) : Prop where
  os : w'.os = w.os
  tape : w'.tape = w.tape
  output : w'.output = w.output
  size : w.heap.size ≤ w'.heap.size
  block : ∀ k, k < w.heap.size → ¬ M k → w'.heap[k]? = w.heap[k]?

theorem Keeps.refl (M : Nat → Prop) (w : World) : Keeps M w w := ⟨rfl, rfl, rfl, Nat.le_refl _, fun _ _ _ => rfl⟩
theorem Keeps.trans {M : Nat → Prop} {a b c : World} (h : Keeps M a b) (k : Keeps M b c) : Keeps M a c :=
  ⟨k.os.trans h.os, k.tape.trans h.tape, k.output.trans h.output, Nat.le_trans h.size k.size,
    fun i hi hm => (k.block i (Nat.lt_of_lt_of_le hi h.size) hm).trans (h.block i hi hm)⟩

/-- What was handed over when the call began: the blocks, and the values that lead to them. -/
structure Hand where
  M : Nat → Prop
  anc : List Value
instance : CoeFun Hand (fun _ => Nat → Prop) := ⟨Hand.M⟩
instance : Coe Hand (Nat → Prop) := ⟨Hand.M⟩

/-- A symbolic state holds of a frame's temporaries and a world. -/
structure R (X : Nat → Prop) (M : Hand) (w0 : World) (S : SS) (μ : Mu) (ρ : List D) (a : Act) (w : World) : Prop where
  keeps : Keeps M w0 w
  len : ρ.length = S.n
  size : a.tmps.size = S.slots.length
  defers : a.defers = []
  slots : ∀ (i : Nat) s, S.slots[i]? = some s → SVR w (Fz X S.heap μ w) S.heap.length μ ρ s (a.tmps.getD i Go.undef)
  blocks : ∀ (β : Nat) sb, S.heap[β]? = some sb → BlkR (fun b => w0.heap.size ≤ b ∨ M b) w (Fz X S.heap μ w) S.heap.length μ ρ sb (μ β)
  ex : ∀ b, X b → b < w.heap.size
  inj : ∀ β γ, live S.heap β → live S.heap γ → β ≠ γ → ∀ b, (μ β).own b → ¬ (μ γ).own b
  exo : ∀ β, live S.heap β → ∀ b, (μ β).own b → ¬ X b
  anc : ∀ (β : Nat) v, M.anc[β]? = some v → β < S.heap.length ∧ (μ β).v = v

theorem MV.hist_last {m : MV} {ver : Nat} (h : m.hist.length = ver + 1) : m.hist[ver]? = some m.inner := by
  unfold MV.inner
  rw [List.getLast?_eq_getElem?, h, Nat.add_sub_cancel]
  rw [List.getElem?_eq_getElem (by omega)]
  rfl

theorem ownsRow_slice {w : World} {e : TypeId} {sz n : Nat} {v : Value} {xs : List Value} (h : w.ownsRow 0 e sz v n xs) : ∃ a cap, v = .slice a n cap := by
  rcases h.2 with ⟨e1, e2⟩ | ⟨g, cap, cur, e1, _⟩
  · exact ⟨none, 0, by rw [e1, e2]⟩
  · exact ⟨_, _, e1⟩

theorem FCR_cv {w : World} {F : Nat → Prop} {hl : Nat} {μ : Mu} {ρ : List D} {c : FC} {v : Value} : FCR w F hl μ ρ c v ↔ CVR w F hl μ ρ c.cv v := by
  cases c <;> exact Iff.rfl

end Vs

namespace Vs
open Go Go.RowKit

/-- Nothing but the count of draws has turned. -/
structure Quiet (w w' : World) : Prop where
  heap : w'.heap = w.heap
  os : w'.os = w.os
  tape : w'.tape = w.tape
  output : w'.output = w.output

theorem Quiet.refl (w : World) : Quiet w w := ⟨rfl, rfl, rfl, rfl⟩
theorem Quiet.drew (w : World) : Quiet w { w with drawn := w.drawn + 1 } := ⟨rfl, rfl, rfl, rfl⟩

/-! ### Floats -/
theorem isnan_fnan (k : FloatKind) : isnan k (fnan k) = true := by cases k <;> decide

theorem canon_of {k : FloatKind} {x : Nat} (h : isnan k x = false) : canon k x = x := by simp [canon, h]
theorem canon_nan {k : FloatKind} {x : Nat} (h : isnan k x = true) : canon k x = fnan k := by simp [canon, h]
theorem isnan_canon (k : FloatKind) (x : Nat) : isnan k (canon k x) = isnan k x := by
  cases h : isnan k x with
  | true => rw [canon_nan h, isnan_fnan]
  | false => rw [canon_of h, h]
theorem canon_canon (k : FloatKind) (x : Nat) : canon k (canon k x) = canon k x := by
  cases h : isnan k x with
  | true => rw [canon_nan h, canon_nan (isnan_fnan k)]
  | false => rw [canon_of h, canon_of h]

theorem read_nan {k : FloatKind} {x : Nat} (h : isnan k x = true) : ∃ s t, k.format.read x = .nan s t := by
  unfold isnan FloatKind.decode Ieee.Datum.isNaN at h
  split at h
  · rename_i s t e; exact ⟨s, t, e⟩
  · cases h

/-- A function of two data that gives nothing where one is a NaN does not see which NaN it is. -/
theorem canon_two {α : Type} (k : FloatKind) (f : Ieee.Datum → Ieee.Datum → Option α) (h1 : ∀ s t d, f (.nan s t) d = none) (h2 : ∀ d s t, f d (.nan s t) = none) (x y : Nat) :
    f (k.format.read (canon k x)) (k.format.read (canon k y)) = f (k.format.read x) (k.format.read y) := by
  cases hx : isnan k x with
  | true =>
    obtain ⟨s, t, e⟩ := read_nan hx
    obtain ⟨s', t', e'⟩ := read_nan (isnan_fnan k)
    rw [canon_nan hx, e, e', h1, h1]
  | false =>
    rw [canon_of hx]
    cases hy : isnan k y with
    | true =>
      obtain ⟨s, t, e⟩ := read_nan hy
      obtain ⟨s', t', e'⟩ := read_nan (isnan_fnan k)
      rw [canon_nan hy, e, e', h2, h2]
    | false => rw [canon_of hy]

theorem canon_one {α : Type} (k : FloatKind) (f : Ieee.Datum → Option α) (h1 : ∀ s t, f (.nan s t) = none) (x : Nat) : f (k.format.read (canon k x)) = f (k.format.read x) := by
  cases hx : isnan k x with
  | true =>
    obtain ⟨s, t, e⟩ := read_nan hx
    obtain ⟨s', t', e'⟩ := read_nan (isnan_fnan k)
    rw [canon_nan hx, e, e', h1, h1]
  | false => rw [canon_of hx]

theorem add_canon (k : FloatKind) (x y : Nat) : k.format.add (canon k x) (canon k y) = k.format.add x y :=
  canon_two k (fun a b => (a.sum b).map k.format.write) (by intro s t d; cases d <;> rfl) (by intro d s t; cases d <;> rfl) x y
theorem sub_canon (k : FloatKind) (x y : Nat) : k.format.sub (canon k x) (canon k y) = k.format.sub x y :=
  canon_two k (fun a b => (a.sum b.opposite).map k.format.write) (by intro s t d; cases d <;> rfl) (by intro d s t; cases d <;> rfl) x y
theorem mul_canon (k : FloatKind) (x y : Nat) : k.format.mul (canon k x) (canon k y) = k.format.mul x y :=
  canon_two k (fun a b => (a.product b).map k.format.write) (by intro s t d; cases d <;> rfl) (by intro d s t; cases d <;> rfl) x y
theorem div_canon (k : FloatKind) (x y : Nat) : k.format.div (canon k x) (canon k y) = k.format.div x y :=
  canon_two k (fun a b => (a.quotient (k.format.fractionBits + 2) b).map k.format.write) (by intro s t d; cases d <;> rfl) (by intro d s t; cases d <;> rfl) x y
theorem order_canon (k : FloatKind) (x y : Nat) : k.format.order (canon k x) (canon k y) = k.format.order x y :=
  canon_two k (fun a b => a.order b) (by intro s t d; cases d <;> rfl) (by intro d s t; cases d <;> rfl) x y
theorem order_some {k : FloatKind} {x y : Nat} {o : Ordering} (h : k.format.order x y = some o) : isnan k x = false ∧ isnan k y = false := by
  have key : ∀ {z : Nat}, isnan k z = true → ∃ s t, k.format.read z = .nan s t := fun hz => read_nan hz
  refine ⟨?_, ?_⟩
  · cases hx : isnan k x with
    | false => rfl
    | true =>
      obtain ⟨s, t, e⟩ := key hx
      have : k.format.order x y = (k.format.read x).order (k.format.read y) := rfl
      rw [this, e] at h
      generalize k.format.read y = d at h
      cases d <;> cases h
  · cases hy : isnan k y with
    | false => rfl
    | true =>
      obtain ⟨s, t, e⟩ := key hy
      have : k.format.order x y = (k.format.read x).order (k.format.read y) := rfl
      rw [this, e] at h
      generalize k.format.read x = d at h
      cases d <;> cases h
theorem sqrt_canon (k : FloatKind) (x : Nat) : k.format.sqrt (canon k x) = k.format.sqrt x :=
  canon_one k (fun a => (a.root (k.format.fractionBits + 2)).map k.format.write) (by intro s t; rfl) x

/-- The bits of a NaN that the tape gives are a NaN's. -/
theorem isnan32 {c : Nat} (h1 : 2139095040 < c % 2147483648) : isnan .f32 c = true := by
  have e1 : FloatKind.f32.format.signWeight = 2147483648 := rfl
  have e2 : FloatKind.f32.format.binade = 8388608 := rfl
  have e3 : FloatKind.f32.format.infRung = 2139095040 := rfl
  unfold isnan FloatKind.decode Ieee.Format.read
  simp only [e1, e2, e3]
  rw [if_neg (by omega), if_neg (by omega), if_neg (by omega)]
  rfl
theorem isnan64 {c : Nat} (h1 : 9218868437227405312 < c % 9223372036854775808) : isnan .f64 c = true := by
  have e1 : FloatKind.f64.format.signWeight = 9223372036854775808 := rfl
  have e2 : FloatKind.f64.format.binade = 4503599627370496 := rfl
  have e3 : FloatKind.f64.format.infRung = 9218868437227405312 := rfl
  unfold isnan FloatKind.decode Ieee.Format.read
  simp only [e1, e2, e3]
  rw [if_neg (by omega), if_neg (by omega), if_neg (by omega)]
  rfl

theorem nanBits_cut (k : FloatKind) (x y t : Nat) : isnan k ((Question.nanBits k x y).cut t) = true := by
  have h1 : t % 2 ≤ 1 := by omega
  cases k
  · have h2 : t / 2 % (2 ^ 23 - 1) < 2 ^ 23 - 1 := Nat.mod_lt _ (by decide)
    refine isnan32 ?_; simp only [Question.cut]
    generalize t % 2 = a at *; generalize t / 2 % (2 ^ 23 - 1) = b at *; omega
  · have h2 : t / 2 % (2 ^ 52 - 1) < 2 ^ 52 - 1 := Nat.mod_lt _ (by decide)
    refine isnan64 ?_; simp only [Question.cut]
    generalize t % 2 = a at *; generalize t / 2 % (2 ^ 52 - 1) = b at *; omega
theorem nanConv_cut (k : FloatKind) (x t : Nat) : isnan k ((Question.nanConv k x).cut t) = true := by
  cases k
  · exact nanBits_cut .f32 0 0 t
  · exact nanBits_cut .f64 0 0 t

theorem canon_neg (k : FloatKind) (x : Nat) : fneg k (canon k x) = canon k (Op.negFloat k x) := by
  unfold fneg
  cases hx : isnan k x with
  | false => rw [canon_of hx]
  | true =>
    have key : ∀ y, isnan k y = true → isnan k (Op.negFloat k y) = true := by
      intro y hy
      obtain ⟨s, t, e⟩ := read_nan hy
      cases k
      · have e1 : FloatKind.f32.format.signWeight = 2147483648 := rfl
        have e2 : FloatKind.f32.format.binade = 8388608 := rfl
        have e3 : FloatKind.f32.format.infRung = 2139095040 := rfl
        refine isnan32 ?_
        have hm : Op.negFloat .f32 y % 2147483648 = y % 2147483648 := by
          have := @Nat.xor_mod_two_pow y (2 ^ 31) 31
          have h2 : (2 ^ 31 % 2 ^ 31 : Nat) = 0 := by decide
          rw [h2, Nat.xor_zero] at this
          exact this
        rw [hm]
        unfold Ieee.Format.read at e
        simp only [e1, e2, e3] at e
        split at e
        · cases e
        · split at e
          · cases e
          · split at e
            · cases e
            · omega
      · have e1 : FloatKind.f64.format.signWeight = 9223372036854775808 := rfl
        have e2 : FloatKind.f64.format.binade = 4503599627370496 := rfl
        have e3 : FloatKind.f64.format.infRung = 9218868437227405312 := rfl
        refine isnan64 ?_
        have hm : Op.negFloat .f64 y % 9223372036854775808 = y % 9223372036854775808 := by
          have := @Nat.xor_mod_two_pow y (2 ^ 63) 63
          have h2 : (2 ^ 63 % 2 ^ 63 : Nat) = 0 := by decide
          rw [h2, Nat.xor_zero] at this
          exact this
        rw [hm]
        unfold Ieee.Format.read at e
        simp only [e1, e2, e3] at e
        split at e
        · cases e
        · split at e
          · cases e
          · split at e
            · cases e
            · omega
    rw [canon_nan (key _ hx), canon_nan (key _ (by rw [isnan_canon]; exact hx))]

section
variable {P : Program} (w : World)

def opRes (op : BinOp) (k : FloatKind) (x y : Nat) : Option Nat :=
  match op with | .add => k.format.add x y | .sub => k.format.sub x y | .mul => k.format.mul x y | _ => k.format.div x y

theorem run_farith (op : BinOp) (t : TypeId) (k : FloatKind) (x y r : Nat) (h : farith op k (canon k x) (canon k y) = some r) :
    ∃ c w', (binOp op t (.float k x) (.float k y)).run P w = .ok (.float k c) w' ∧ Quiet w w' ∧ canon k c = r := by
  have key : ∀ o : Option Nat, o = opRes op k x y → fin k o = r →
      ∃ c w', (binOp op t (.float k x) (.float k y)).run P w = .ok (.float k c) w' ∧ Quiet w w' ∧ canon k c = r := by
    intro o ho hr
    cases o with
    | some q =>
      refine ⟨q, w, ?_, Quiet.refl w, hr⟩
      unfold farith at h
      cases op <;> simp only [Option.some.injEq, reduceCtorEq] at h <;> simp only [opRes] at ho <;> simp [binOp, Op.floatArith, ← ho]
    | none =>
      refine ⟨(Question.nanBits k x y).cut (w.tape w.drawn (.nanBits k x y)), { w with drawn := w.drawn + 1 }, ?_, Quiet.drew w, (canon_nan (nanBits_cut k x y _)).trans hr⟩
      unfold farith at h
      cases op <;> simp only [Option.some.injEq, reduceCtorEq] at h <;> simp only [opRes] at ho <;> simp [binOp, Op.floatArith, ← ho, Question.forced]
  unfold farith at h
  cases op <;> simp only [Option.some.injEq, reduceCtorEq] at h
  · exact key _ rfl (by rw [← h, fadd, add_canon]; rfl)
  · exact key _ rfl (by rw [← h, fsub, sub_canon]; rfl)
  · exact key _ rfl (by rw [← h, fmul, mul_canon]; rfl)
  · exact key _ rfl (by rw [← h, fdiv, div_canon]; rfl)

theorem run_fcmp (op : BinOp) (t : TypeId) (k : FloatKind) (x y : Nat) (b : Bool) (h : fcmp op k (canon k x) (canon k y) = some b) :
    (binOp op t (.float k x) (.float k y)).run P w = .ok (.bool b) w := by
  unfold fcmp at h
  cases op <;> simp only [Option.some.injEq, reduceCtorEq] at h
  all_goals (subst h; simp [binOp, Op.floatCmp, feq, flt, fle, fgt, fge, order_canon, bne])

theorem run_icmp (op : BinOp) (t : TypeId) (k : IntKind) (x y : Int) (b : Bool) (h : icmp op x y = some b) :
    (binOp op t (.int k x) (.int k y)).run P w = .ok (.bool b) w := by
  unfold icmp at h
  cases op <;> simp only [Option.some.injEq, reduceCtorEq] at h
  all_goals (subst h; simp [binOp, Op.intCmp])

theorem run_iarith (op : BinOp) (t : TypeId) (k : IntKind) (x y z : Int) (h : iarith op k x y = some z) :
    (binOp op t (.int k x) (.int k y)).run P w = .ok (.int k z) w := by
  unfold iarith at h
  cases op <;> simp only [Option.some.injEq, reduceCtorEq] at h
  all_goals (subst h; simp [binOp, Op.intArith])

theorem run_idiv (op : BinOp) (t : TypeId) (k : IntKind) (x y z : Int) (h : idiv op k x y = some z) :
    (binOp op t (.int k x) (.int k y)).run P w = .ok (.int k z) w := by
  unfold idiv at h
  split at h
  · cases h
  · rename_i hy
    cases op <;> simp only [Option.some.injEq, reduceCtorEq] at h
    all_goals (subst h; simp [binOp, Op.intDiv, hy])

theorem run_ibits (op : BinOp) (t : TypeId) (k : IntKind) (x y z : Int) (h : ibits op k x y = some z) :
    (binOp op t (.int k x) (.int k y)).run P w = .ok (.int k z) w := by
  unfold ibits at h
  cases op <;> simp only [Option.some.injEq, reduceCtorEq] at h
  all_goals (subst h; simp [binOp, Op.intBits])

theorem run_ishift (op : BinOp) (t : TypeId) (k k' : IntKind) (x y z : Int) (h : ishift op k x y = some z) :
    (binOp op t (.int k x) (.int k' y)).run P w = .ok (.int k z) w := by
  unfold ishift at h
  split at h
  · cases h
  · rename_i hy
    cases op <;> simp only [Option.some.injEq, reduceCtorEq] at h
    all_goals (subst h; simp [binOp, Op.shift, hy])

theorem run_f2f (s k : FloatKind) (x r : Nat) (h : f2f s k (canon s x) = some r) :
    ∃ c w', (Conv.floatToFloat s x k).run P w = .ok (.float k c) w' ∧ Quiet w w' ∧ canon k c = r := by
  unfold f2f at h
  unfold Conv.floatToFloat
  by_cases hsk : s = k
  · subst hsk
    simp only [if_true, Option.some.injEq] at h
    exact ⟨x, w, by simp, Quiet.refl w, h⟩
  · simp only [hsk, if_false] at h ⊢
    cases hx : isnan s x with
    | true =>
      rw [canon_nan hx] at h
      obtain ⟨a, b, e⟩ := read_nan hx
      obtain ⟨a', b', e'⟩ := read_nan (isnan_fnan s)
      simp only [FloatKind.decode, e', Option.some.injEq] at h
      simp only [FloatKind.decode, e]
      refine ⟨(Question.nanConv k x).cut (w.tape w.drawn (.nanConv k x)), { w with drawn := w.drawn + 1 }, ?_, Quiet.drew w, (canon_nan (nanConv_cut k x _)).trans h⟩
      simp [Question.forced]
    | false =>
      rw [canon_of hx] at h
      cases hd : s.decode x with
      | nan a b => simp [isnan, hd, Ieee.Datum.isNaN] at hx
      | infinity a =>
        simp only [hd, Option.some.injEq] at h
        exact ⟨_, w, by simp, Quiet.refl w, h⟩
      | number a m e =>
        simp only [hd] at h
        split at h
        · cases h
        · rename_i hi
          simp only [Option.some.injEq] at h
          exact ⟨_, w, by simp [hi], Quiet.refl w, h⟩

theorem run_f2i (s : FloatKind) (k : IntKind) (x : Nat) (n : Int) (h : f2i s k (canon s x) = some n) : (Conv.floatToInt s x k).run P w = .ok (.int k n) w := by
  unfold f2i at h
  have e := canon_one s (fun d => d.toInt .zero) (by intro a b; rfl) x
  simp only [FloatKind.decode] at h
  rw [e] at h
  unfold Conv.floatToInt
  simp only [FloatKind.decode]
  split at h
  · rename_i m hm
    split at h
    · rename_i hb
      simp only [Option.some.injEq] at h
      subst h
      simp [hm, hb.1, hb.2]
    · cases h
  · cases h

end
end Vs

namespace Vs
open Go Go.RowKit

def pushAll : List Push → List D → Option (List D)
  | [], ρ => some ρ
  | (p, xs) :: ps, ρ => match p.ev (evs ρ xs) with | some d => pushAll ps (ρ ++ [d]) | none => none

theorem pushAll_env : ∀ {ps : List Push} {ρ ρ' : List D}, pushAll ps ρ = some ρ' → ∃ σ, ρ' = ρ ++ σ ∧ σ.length = ps.length
  | [], ρ, ρ', h => by simp only [pushAll, Option.some.injEq] at h; exact ⟨[], by simp [h]⟩
  | (p, xs) :: ps, ρ, ρ', h => by
    simp only [pushAll] at h
    split at h
    · rename_i d _
      obtain ⟨σ, e, hl⟩ := pushAll_env h
      exact ⟨d :: σ, by simp [e], by simp [hl]⟩
    · cases h

theorem pushAll_one {p : Prim} {xs : List Atom} {ρ ρ' : List D} (h : pushAll [(p, xs)] ρ = some ρ') : ∃ d, p.ev (evs ρ xs) = some d ∧ ρ' = ρ ++ [d] := by
  simp only [pushAll] at h
  split at h
  · rename_i d e; exact ⟨d, e, by simpa using h.symm⟩
  · cases h

theorem get_new {ρ : List D} {d : D} {n : Nat} (h : ρ.length = n) : (Atom.v n).get (ρ ++ [d]) = some d := by
  subst h; simp [Atom.get]

theorem need_ok {α : Type} {o : Option α} {why : String} {a : α} (h : need o why = .ok a) : o = some a := by
  cases o with
  | none => cases h
  | some b => simp only [need, Except.ok.injEq] at h; rw [h]

theorem bind_ok {α β : Type} {x : Res α} {f : α → Res β} {b : β} (h : (x >>= f) = .ok b) : ∃ a, x = .ok a ∧ f a = .ok b := by
  cases x with
  | error e => cases h
  | ok a => exact ⟨a, rfl, h⟩

section
variable {P : Program} {w : World} {F : Nat → Prop} {hl : Nat} {μ : Mu} {ρ : List D}

/-! ### Literals -/
theorem litCell_ok {v : Value} {c : CV0} (h : litCell v = some c) : CVR0 w F hl μ ρ c v := by
  unfold litCell at h
  split at h <;> simp only [Option.some.injEq, reduceCtorEq] at h <;> subst h
  · exact ⟨_, rfl, _, rfl, rfl⟩
  · exact ⟨_, rfl, _, rfl, rfl⟩
  · exact ⟨_, rfl, _, rfl, rfl⟩
  · exact ⟨_, rfl, _, rfl, rfl⟩
  · rfl

theorem litCells_ok : ∀ {vs : List Value} {cs : List CV}, litCells vs = some cs → CVRs w F hl μ ρ cs vs
  | [], cs, h => by simp only [litCells, Option.some.injEq] at h; subst h; trivial
  | v :: vs, cs, h => by
    simp only [litCells] at h
    split at h
    · rename_i c cs' h1 h2
      simp only [Option.some.injEq] at h
      subst h
      exact ⟨litCell_ok h1, litCells_ok h2⟩
    · cases h

theorem litSV_ok {v : Value} {s : SV} (h : litSV v = some s) : SVR w F hl μ ρ s v := by
  unfold litSV at h
  split at h
  · rename_i arr
    cases hc : litCells arr.toList with
    | none => simp [hc] at h
    | some cs =>
      simp only [hc, Option.map_some, Option.some.injEq] at h
      subst h
      exact ⟨arr, rfl, litCells_ok hc⟩
  · cases hc : litCell v with
    | none => simp [hc] at h
    | some c =>
      simp only [hc, Option.map_some, Option.some.injEq] at h
      subst h
      exact litCell_ok hc

/-! ### Binary operations -/
theorem rd_int {x : Atom} {k : IntKind} {v : Value} (h : SVR w F hl μ ρ (.c (.s (.dat (.b (.int k)) x))) v) : ∃ n, v = .int k n ∧ x.get ρ = some (.int n) := by
  obtain ⟨d, hx, n, hv, hd⟩ := h; subst hd; exact ⟨n, hv, hx⟩
theorem rd_flt {x : Atom} {k : FloatKind} {v : Value} (h : SVR w F hl μ ρ (.c (.s (.dat (.b (.flt k)) x))) v) : ∃ b, v = .float k b ∧ x.get ρ = some (.flt (canon k b)) := by
  obtain ⟨d, hx, n, hv, hd⟩ := h; subst hd; exact ⟨n, hv, hx⟩
theorem rd_bool {x : Atom} {v : Value} (h : SVR w F hl μ ρ (.c (.s (.dat (.b .bool) x))) v) : ∃ b, v = .bool b ∧ x.get ρ = some (.bool b) := by
  obtain ⟨d, hx, n, hv, hd⟩ := h; subst hd; exact ⟨n, hv, hx⟩

theorem mk_int {w' : World} {x : Atom} {k : IntKind} {n : Int} (h : x.get ρ = some (.int n)) : SVR w' F hl μ ρ (bdat (.int k) x) (.int k n) := ⟨_, h, n, rfl, rfl⟩
theorem mk_flt {w' : World} {x : Atom} {k : FloatKind} {b : Nat} (h : x.get ρ = some (.flt (canon k b))) : SVR w' F hl μ ρ (bdat (.flt k) x) (.float k b) := ⟨_, h, b, rfl, rfl⟩
theorem mk_bool {w' : World} {x : Atom} {b : Bool} (h : x.get ρ = some (.bool b)) : SVR w' F hl μ ρ (bdat .bool x) (.bool b) := ⟨_, h, b, rfl, rfl⟩

theorem map_some_eq {α β : Type} {o : Option α} {f : α → β} {b : β} (h : o.map f = some b) : ∃ a, o = some a ∧ f a = b := by
  cases o with
  | none => cases h
  | some a => exact ⟨a, rfl, by simpa using h⟩

/-! ### Structs and arrays of plain values, compared -/
theorem evs_cons {ρ : List D} {x : Atom} {xs : List Atom} {d : D} (h : x.get ρ = some d) : evs ρ (x :: xs) = d :: evs ρ xs := by
  simp only [evs, List.map_cons, Atom.ev_of_get h]

theorem eqAtoms_ok : ∀ {ts : List BT} {cs : List CV} {vs : List Value} {ks : List (Option FloatKind)} {xs : List Atom}, eqAtoms ts cs = .ok (ks, xs) → CVRs w F hl μ ρ cs vs →
    RdCs RdB ts vs (evs ρ xs) ∧ ts.map kOf = ks.map some ∧ (evs ρ xs).length = ks.length
  | [], [], vs, ks, xs, h, hv => by
    simp only [eqAtoms, Except.ok.injEq, Prod.mk.injEq] at h
    obtain ⟨rfl, rfl⟩ := h
    cases vs with
    | nil => exact ⟨trivial, rfl, rfl⟩
    | cons v vs => cases hv
  | t :: ts, c :: cs, vs, ks, xs, h, hv => by
    unfold eqAtoms at h
    split at h
    · rename_i he1 he2
      cases he1
    · rename_i t1 ts1 t' x cs1 he1 he2
      cases he1
      cases he2
      split at h
      case h_2 => cases h
      rename_i k hk
      split at h
      case isFalse => cases h
      rename_i ht
      subst ht
      obtain ⟨⟨ks', xs'⟩, h1, h2⟩ := bind_ok h
      simp only [Except.ok.injEq, Prod.mk.injEq] at h2
      obtain ⟨rfl, rfl⟩ := h2
      cases vs with
      | nil => cases hv
      | cons v vs =>
        obtain ⟨hc, hr⟩ := hv
        obtain ⟨d, hx, hd⟩ := hc
        obtain ⟨i1, i2, i3⟩ := eqAtoms_ok h1 hr
        rw [evs_cons hx]
        exact ⟨⟨hd, i1⟩, by simp [hk, i2], by simp [i3]⟩
    · cases h
  | [], _ :: _, _, _, _, h, _ => by simp [eqAtoms] at h
  | _ :: _, [], _, _, _, h, _ => by simp [eqAtoms] at h

theorem ctOf_inv {t : TypeId} {b : BT} (h : ctOf P t = some b) : (∃ k, b = .flt k ∧ P.underlying t = some (.float k)) ∨ (∃ k, b = .int k ∧ P.underlying t = some (.int k)) ∨ (b = .bool ∧ P.underlying t = some .bool) ∨ b = .str := by
  unfold ctOf at h
  split at h
  all_goals first
    | (cases h; done)
    | (simp only [Option.some.injEq] at h; subst h; rename_i e; first | exact .inr (.inr (.inl ⟨rfl, e⟩)) | exact .inr (.inl ⟨_, rfl, e⟩) | exact .inl ⟨_, rfl, e⟩ | exact .inr (.inr (.inr rfl)))

/-- One cell compared. -/
theorem cell_eq {b : BT} {k : Option FloatKind} {ks : List (Option FloatKind)} {u v : Value} {d e : D} {ds es : List D} {r : Bool} (hu : RdB b u d) (hv : RdB b v e) (hk : kOf b = some k)
    (h : eqCells (k :: ks) (d :: ds) (e :: es) = some r) :
    ∃ r1 r2, eqCells ks ds es = some r2 ∧ r = (r1 && r2) ∧ ∀ (t : TypeId) (n : Nat) (w : World), ctOf P t = some b → (Op.equalIn (n + 1) t u v).run P w = .ok r1 w := by
  cases b with
  | flt q =>
    simp only [kOf, Option.some.injEq] at hk
    subst hk
    obtain ⟨x, rfl, rfl⟩ := hu
    obtain ⟨y, rfl, rfl⟩ := hv
    simp only [eqCells, Option.map_eq_some_iff] at h
    obtain ⟨r2, h2, rfl⟩ := h
    refine ⟨_, r2, h2, rfl, fun t n w ht => ?_⟩
    rcases ctOf_inv ht with ⟨k, e1, e2⟩ | ⟨k, e1, e2⟩ | ⟨e1, e2⟩ | e1
    · cases e1
      simp [Op.equalIn, run_underlying e2, Op.floatEq, feq, order_canon]
    · cases e1
    · cases e1
    · cases e1
  | int q =>
    simp only [kOf, Option.some.injEq] at hk
    subst hk
    obtain ⟨x, rfl, rfl⟩ := hu
    obtain ⟨y, rfl, rfl⟩ := hv
    simp only [eqCells, Option.map_eq_some_iff] at h
    obtain ⟨r2, h2, rfl⟩ := h
    refine ⟨_, r2, h2, rfl, fun t n w ht => ?_⟩
    rcases ctOf_inv ht with ⟨k, e1, e2⟩ | ⟨k, e1, e2⟩ | ⟨e1, e2⟩ | e1
    · cases e1
    · cases e1
      simp [Op.equalIn, run_underlying e2]
    · cases e1
    · cases e1
  | bool =>
    simp only [kOf, Option.some.injEq] at hk
    subst hk
    obtain ⟨x, rfl, rfl⟩ := hu
    obtain ⟨y, rfl, rfl⟩ := hv
    simp only [eqCells, Option.map_eq_some_iff] at h
    obtain ⟨r2, h2, rfl⟩ := h
    refine ⟨_, r2, h2, rfl, fun t n w ht => ?_⟩
    rcases ctOf_inv ht with ⟨k, e1, e2⟩ | ⟨k, e1, e2⟩ | ⟨e1, e2⟩ | e1
    · cases e1
    · cases e1
    · simp [Op.equalIn, run_underlying e2]
    · cases e1
  | str => cases hk

theorem run_part_cell {e : TypeId} (he : isAggB P e = some false) {xs : Array Value} {off : Nat} {v : Value} (hx : xs[off]? = some v) (w : World) : (part e xs off).run P w = .ok v w := by
  unfold isAggB at he
  split at he
  · cases he
  · cases he
  · rename_i d h1 h2 hu
    cases d <;> first | (simp [part, isAgg, run_underlying hu, hx]; done) | exact absurd rfl (h1 _) | exact absurd rfl (h2 _ _)
  · cases he

theorem drop_cell {xs : Array Value} {j : Nat} {v : Value} {vs : List Value} (h : xs.toList.drop j = v :: vs) : xs[j]? = some v ∧ xs.toList.drop (j + 1) = vs := by
  constructor
  · have := congrArg (·[0]?) h
    simpa using this
  · rw [← List.drop_drop, h]
    rfl

theorem eqFields_ok {xs ys : Array Value} (n : Nat) : ∀ {fs : List Field} {j : Nat} {ts : List BT} {us vs : List Value} {ds es : List D} {ks : List (Option FloatKind)} {r : Bool} (w : World),
    eqFieldsB P j fs = some ts → ts.map kOf = ks.map some → xs.toList.drop j = us → ys.toList.drop j = vs → RdCs RdB ts us ds → RdCs RdB ts vs es → eqCells ks ds es = some r →
    (Op.eqFields (n + 1) xs ys fs).run P w = .ok r w
  | [], j, ts, us, vs, ds, es, ks, r, w, h, hk, _, _, hu, hv, hr => by
    simp only [eqFieldsB, Option.some.injEq] at h
    subst h
    cases ks with
    | cons k ks => simp at hk
    | nil =>
      cases us <;> cases ds <;> try cases hu
      cases vs <;> cases es <;> try cases hv
      simp only [eqCells, Option.some.injEq] at hr
      subst hr
      simp [Op.eqFields]
  | f :: fs, j, ts, us, vs, ds, es, ks, r, w, h, hk, hx, hy, hu, hv, hr => by
    unfold eqFieldsB at h
    split at h
    case isFalse => cases h
    rename_i hf
    obtain ⟨hname, hoff, hagg⟩ := hf
    split at h
    case h_2 => cases h
    rename_i b bs hb hbs
    simp only [Option.some.injEq] at h
    subst h
    cases ks with
    | nil => simp at hk
    | cons k ks =>
      simp only [List.map_cons, List.cons.injEq] at hk
      obtain ⟨hk1, hk2⟩ := hk
      cases us <;> cases ds <;> try cases hu
      cases vs <;> cases es <;> try cases hv
      rename_i u us d ds hu1 hu2 v vs e es hv1 hv2
      obtain ⟨r1, r2, h2, rfl, heq⟩ := cell_eq (P := P) hu1 hv1 hk1 hr
      obtain ⟨gx, hx'⟩ := drop_cell hx
      obtain ⟨gy, hy'⟩ := drop_cell hy
      have ih := eqFields_ok n w hbs hk2 hx' hy' hu2 hv2 h2
      simp only [Op.eqFields, hname, ne_eq, not_false_eq_true, if_true, Sem.run_bind, hoff, run_part_cell hagg gx, run_part_cell hagg gy, heq _ n w hb, Result.andThen_ok]
      cases r1
      · simp
      · simpa using ih

theorem eqItems_ok {e : TypeId} {b : BT} {xs ys : Array Value} (n : Nat) (hc : P.cellsOf e = 1) (hagg : isAggB P e = some false) (hb : ctOf P e = some b) :
    ∀ {m j : Nat} {us vs : List Value} {ds es : List D} {ks : List (Option FloatKind)} {r : Bool} (w : World),
    (List.replicate m b).map kOf = ks.map some → xs.toList.drop j = us → ys.toList.drop j = vs → RdCs RdB (List.replicate m b) us ds → RdCs RdB (List.replicate m b) vs es → eqCells ks ds es = some r →
    (Op.eqItems (n + 1) e (P.cellsOf e) xs ys (List.range' j m)).run P w = .ok r w
  | 0, j, us, vs, ds, es, ks, r, w, hk, _, _, hu, hv, hr => by
    cases ks with
    | cons k ks => simp at hk
    | nil =>
      simp only [List.replicate_zero] at hu hv
      cases us <;> cases ds <;> try cases hu
      cases vs <;> cases es <;> try cases hv
      simp only [eqCells, Option.some.injEq] at hr
      subst hr
      simp [Op.eqItems]
  | m + 1, j, us, vs, ds, es, ks, r, w, hk, hx, hy, hu, hv, hr => by
    cases ks with
    | nil => simp at hk
    | cons k ks =>
      simp only [List.replicate_succ, List.map_cons, List.cons.injEq] at hk hu hv
      obtain ⟨hk1, hk2⟩ := hk
      cases us <;> cases ds <;> try cases hu
      cases vs <;> cases es <;> try cases hv
      rename_i u us d ds hu1 hu2 v vs e es hv1 hv2
      obtain ⟨r1, r2, h2, rfl, heq⟩ := cell_eq (P := P) hu1 hv1 hk1 hr
      obtain ⟨gx, hx'⟩ := drop_cell hx
      obtain ⟨gy, hy'⟩ := drop_cell hy
      have ih := eqItems_ok n hc hagg hb w hk2 hx' hy' hu2 hv2 h2
      rw [hc] at ih
      simp only [List.range'_succ, Op.eqItems, Sem.run_bind, hc, Nat.mul_one, run_part_cell hagg gx, run_part_cell hagg gy, heq _ n w hb, Result.andThen_ok]
      cases r1
      · simp
      · simpa using ih

/-- Two values of a type of plain cells, compared. -/
theorem flatEq_ok {t : TypeId} {ts : List BT} {xs ys : Array Value} {ds es : List D} {ks : List (Option FloatKind)} {r : Bool} (h : flatEq P t = some ts) (hk : ts.map kOf = ks.map some)
    (hu : RdCs RdB ts xs.toList ds) (hv : RdCs RdB ts ys.toList es) (hr : eqCells ks ds es = some r) (w : World) :
    P.eqGuardType P.depth t = false ∧ (Op.equalIn 10000 t (.agg xs) (.agg ys)).run P w = .ok r w := by
  unfold flatEq at h
  split at h
  · cases h
  rename_i hg
  refine ⟨by simpa using hg, ?_⟩
  split at h
  · rename_i fs hfs
    split at h
    · cases h
    rename_i hst
    have hf : P.fieldsOf t = fs := by simp [Program.fieldsOf, hfs]
    rw [show (10000 : Nat) = 9999 + 1 from rfl, run_equalIn_agg w 9999 t xs ys (by rw [hf]; exact hfs) (by simpa using hst), hf]
    exact eqFields_ok 9998 (j := 0) w h hk rfl rfl hu hv hr
  · rename_i n e hae
    split at h
    case isFalse => cases h
    rename_i hc
    obtain ⟨hagg, hsz⟩ := hc
    obtain ⟨b, hb, rfl⟩ := map_some_eq h
    unfold sizeB at hsz
    obtain ⟨i, hi, hs⟩ := map_some_eq hsz
    have hcell : P.cellsOf e = 1 := by simp [Program.cellsOf, hi, hs]
    rw [show (10000 : Nat) = 9999 + 1 from rfl, run_equalIn_array w 9999 xs ys hae hi, List.range_eq_range']
    exact eqItems_ok 9998 hcell hagg hb w hk rfl rfl hu hv hr
  · cases h

theorem lopBin_ok {op : BinOp} {t : TypeId} {sa sb v : SV} {ps : List Push} {va vb : Value} {ρ' : List D} (h : lopBin ρ.length op (isBoolT P t) (flatEq P t) sa sb = .ok (v, ps))
    (ha : SVR w F hl μ ρ sa va) (hb : SVR w F hl μ ρ sb vb) (hp : pushAll ps ρ = some ρ') :
    (∀ x y w1, (eqGuard op t x y va vb).run P w1 = .ok () w1) ∧ ∃ u w', (binOp op t va vb).run P w = .ok u w' ∧ Quiet w w' ∧ ∀ w1, SVR w1 F hl μ ρ' v u := by
  unfold lopBin at h
  split at h
  · rename_i cs ds
    split at h
    case h_2 => cases h
    rename_i ts hts
    obtain ⟨⟨ks, xs⟩, h1, h2⟩ := bind_ok h
    obtain ⟨⟨ks', ys⟩, h3, h4⟩ := bind_ok h2
    obtain ⟨xr, rfl, hx⟩ := ha
    obtain ⟨yr, rfl, hy⟩ := hb
    obtain ⟨i1, i2, i3⟩ := eqAtoms_ok h1 hx
    obtain ⟨j1, _, _⟩ := eqAtoms_ok h3 hy
    have key : ∀ (d : D) (neg : Bool), (Prim.aeq ks neg).ev (evs ρ (xs ++ ys)) = some d → ∃ r, d = .bool (match neg with | true => !r | false => r) ∧ ∀ w, P.eqGuardType P.depth t = false ∧ (Op.equalIn 10000 t (.agg xr) (.agg yr)).run P w = .ok r w := by
      intro d neg hd
      simp only [Prim.ev, evs, List.map_append] at hd
      simp only [evs] at i3 i1 j1
      rw [List.take_left' (by rw [← i3]), List.drop_left' (by rw [← i3])] at hd
      obtain ⟨r, hr, rfl⟩ := map_some_eq hd
      exact ⟨r, rfl, fun w => flatEq_ok hts i2 i1 j1 hr w⟩
    dsimp only at h4
    split at h4
    · simp only [Except.ok.injEq, Prod.mk.injEq] at h4
      obtain ⟨rfl, rfl⟩ := h4
      obtain ⟨d, hd, rfl⟩ := pushAll_one hp
      obtain ⟨r, rfl, hr⟩ := key d _ hd
      refine ⟨fun x y w1 => run_eqGuard_agg w1 _ t x y xr yr (hr w1).1, .bool r, w, ?_, Quiet.refl w, fun w1 => mk_bool (get_new rfl)⟩
      rw [run_eql_struct, (hr w).2]
      rfl
    · simp only [Except.ok.injEq, Prod.mk.injEq] at h4
      obtain ⟨rfl, rfl⟩ := h4
      obtain ⟨d, hd, rfl⟩ := pushAll_one hp
      obtain ⟨r, rfl, hr⟩ := key d _ hd
      refine ⟨fun x y w1 => run_eqGuard_agg w1 _ t x y xr yr (hr w1).1, .bool !r, w, ?_, Quiet.refl w, fun w1 => mk_bool (get_new rfl)⟩
      rw [run_neq_struct, (hr w).2]
      rfl
    · cases h4
  · rename_i k x k' y
    obtain ⟨n, rfl, hx⟩ := rd_int ha
    obtain ⟨m, rfl, hy⟩ := rd_int hb
    refine ⟨fun _ _ w1 => by unfold eqGuard; cases op <;> rfl, ?_⟩
    split at h
    · simp only [Except.ok.injEq, Prod.mk.injEq] at h
      obtain ⟨rfl, rfl⟩ := h
      obtain ⟨d, hd, rfl⟩ := pushAll_one hp
      simp only [evs, List.map_cons, List.map_nil, Atom.ev_of_get hx, Atom.ev_of_get hy, Prim.ev] at hd
      obtain ⟨z, hz, rfl⟩ := map_some_eq hd
      exact ⟨_, w, run_ishift w _ t k k' n m z hz, Quiet.refl w, fun w1 => mk_int (get_new rfl)⟩
    · simp only [Except.ok.injEq, Prod.mk.injEq] at h
      obtain ⟨rfl, rfl⟩ := h
      obtain ⟨d, hd, rfl⟩ := pushAll_one hp
      simp only [evs, List.map_cons, List.map_nil, Atom.ev_of_get hx, Atom.ev_of_get hy, Prim.ev] at hd
      obtain ⟨z, hz, rfl⟩ := map_some_eq hd
      exact ⟨_, w, run_ishift w _ t k k' n m z hz, Quiet.refl w, fun w1 => mk_int (get_new rfl)⟩
    all_goals
      split at h
      · rename_i hk
        subst hk
        simp only [Except.ok.injEq, Prod.mk.injEq] at h
        obtain ⟨rfl, rfl⟩ := h
        obtain ⟨d, hd, rfl⟩ := pushAll_one hp
        simp only [evs, List.map_cons, List.map_nil, Atom.ev_of_get hx, Atom.ev_of_get hy, Prim.ev] at hd
        obtain ⟨z, hz, rfl⟩ := map_some_eq hd
        first
          | exact ⟨_, w, run_iarith w _ t k n m z hz, Quiet.refl w, fun w1 => mk_int (get_new rfl)⟩
          | exact ⟨_, w, run_idiv w _ t k n m z hz, Quiet.refl w, fun w1 => mk_int (get_new rfl)⟩
          | exact ⟨_, w, run_ibits w _ t k n m z hz, Quiet.refl w, fun w1 => mk_int (get_new rfl)⟩
          | exact ⟨_, w, run_icmp w _ t k n m z hz, Quiet.refl w, fun w1 => mk_bool (get_new rfl)⟩
      · cases h
  · rename_i k x k' y
    obtain ⟨n, rfl, hx⟩ := rd_flt ha
    obtain ⟨m, rfl, hy⟩ := rd_flt hb
    refine ⟨fun _ _ w1 => by unfold eqGuard; cases op <;> rfl, ?_⟩
    split at h
    · rename_i hk
      subst hk
      split at h
      all_goals first
        | (cases h; done)
        | (simp only [Except.ok.injEq, Prod.mk.injEq] at h
           obtain ⟨rfl, rfl⟩ := h
           obtain ⟨d, hd, rfl⟩ := pushAll_one hp
           simp only [evs, List.map_cons, List.map_nil, Atom.ev_of_get hx, Atom.ev_of_get hy, Prim.ev] at hd
           obtain ⟨z, hz, rfl⟩ := map_some_eq hd
           first
             | (obtain ⟨c, w', e, q, hc⟩ := run_farith (P := P) w _ t k n m z hz
                exact ⟨_, w', e, q, fun w1 => mk_flt (by rw [hc]; exact get_new rfl)⟩)
             | exact ⟨_, w, run_fcmp w _ t k n m z hz, Quiet.refl w, fun w1 => mk_bool (get_new rfl)⟩)
    · cases h
  · rename_i x y
    obtain ⟨n, rfl, hx⟩ := rd_bool ha
    obtain ⟨m, rfl, hy⟩ := rd_bool hb
    split at h
    · rename_i hbt
      have hu : P.underlying t = some .bool := by
        unfold isBoolT at hbt
        split at hbt
        · assumption
        · cases hbt
      refine ⟨fun _ _ w1 => by unfold eqGuard; cases op <;> rfl, ?_⟩
      have he : ∀ w, (Op.equal t (.bool n) (.bool m)).run P w = .ok (n == m) w := fun w => by
        unfold Op.equal Op.maxDepth Op.equalIn
        simp [run_underlying hu]
      split at h
      all_goals first
        | (cases h; done)
        | (simp only [Except.ok.injEq, Prod.mk.injEq] at h
           obtain ⟨rfl, rfl⟩ := h
           obtain ⟨d, hd, rfl⟩ := pushAll_one hp
           simp only [evs, List.map_cons, List.map_nil, Atom.ev_of_get hx, Atom.ev_of_get hy, Prim.ev, Option.some.injEq] at hd
           subst hd
           refine ⟨_, w, ?_, Quiet.refl w, fun w1 => mk_bool (get_new rfl)⟩
           simp [binOp, he])
    · cases h
  · cases h

theorem lopConv_ok {src dst : TypeId} {sa v : SV} {ps : List Push} {va : Value} {ρ' : List D} (h : lopConv P ρ.length src dst sa = .ok (v, ps))
    (ha : SVR w F hl μ ρ sa va) (hp : pushAll ps ρ = some ρ') :
    ∃ u w', (convert src dst va).run P w = .ok u w' ∧ Quiet w w' ∧ ∀ w1, SVR w1 F hl μ ρ' v u := by
  unfold lopConv at h
  split at h
  all_goals first
    | (cases h; done)
    | skip
  · rename_i s k q x hs hd
    simp only [Except.ok.injEq, Prod.mk.injEq] at h
    obtain ⟨rfl, rfl⟩ := h
    obtain ⟨n, rfl, hx⟩ := rd_int ha
    obtain ⟨d, hd', rfl⟩ := pushAll_one hp
    simp only [evs, List.map_cons, List.map_nil, Atom.ev_of_get hx, Prim.ev, Option.some.injEq] at hd'
    subst hd'
    refine ⟨_, w, ?_, Quiet.refl w, fun w1 => mk_int (get_new rfl)⟩
    cases s <;> simp [convert, run_underlying hs, run_underlying hd, Conv.intToInt]
  · rename_i s k q x hs hd
    simp only [Except.ok.injEq, Prod.mk.injEq] at h
    obtain ⟨rfl, rfl⟩ := h
    obtain ⟨n, rfl, hx⟩ := rd_int ha
    obtain ⟨d, hd', rfl⟩ := pushAll_one hp
    simp only [evs, List.map_cons, List.map_nil, Atom.ev_of_get hx, Prim.ev, Option.some.injEq] at hd'
    subst hd'
    refine ⟨_, w, ?_, Quiet.refl w, fun w1 => mk_flt (b := k.nearest n) (get_new rfl)⟩
    cases s <;> simp [convert, run_underlying hs, run_underlying hd, Conv.intToFloat]
  · rename_i s k q x hs hd
    simp only [Except.ok.injEq, Prod.mk.injEq] at h
    obtain ⟨rfl, rfl⟩ := h
    obtain ⟨n, rfl, hx⟩ := rd_flt ha
    obtain ⟨d, hd', rfl⟩ := pushAll_one hp
    simp only [evs, List.map_cons, List.map_nil, Atom.ev_of_get hx, Prim.ev] at hd'
    obtain ⟨z, hz, rfl⟩ := map_some_eq hd'
    have := run_f2i (P := P) w q k n z hz
    refine ⟨_, w, ?_, Quiet.refl w, fun w1 => mk_int (get_new rfl)⟩
    cases s <;> simp [convert, run_underlying hs, run_underlying hd, this]
  · rename_i s k q x hs hd
    simp only [Except.ok.injEq, Prod.mk.injEq] at h
    obtain ⟨rfl, rfl⟩ := h
    obtain ⟨n, rfl, hx⟩ := rd_flt ha
    obtain ⟨d, hd', rfl⟩ := pushAll_one hp
    simp only [evs, List.map_cons, List.map_nil, Atom.ev_of_get hx, Prim.ev] at hd'
    obtain ⟨z, hz, rfl⟩ := map_some_eq hd'
    obtain ⟨c, w', e, qq, hc⟩ := run_f2f (P := P) w q k n z hz
    refine ⟨_, w', ?_, qq, fun w1 => mk_flt (by rw [hc]; exact get_new rfl)⟩
    cases s <;> simp [convert, run_underlying hs, run_underlying hd, e]

end
end Vs

namespace Vs
open Go Go.RowKit

/-! ### Lists of cells -/
theorem CVRs.length {w : World} {F : Nat → Prop} {hl : Nat} {μ : Mu} {ρ : List D} : ∀ {cs : List CV} {vs : List Value}, CVRs w F hl μ ρ cs vs → cs.length = vs.length
  | [], [], _ => rfl
  | _ :: _, _ :: _, ⟨_, b⟩ => by simp [CVRs.length b]
theorem CVRs.drop {w : World} {F : Nat → Prop} {hl : Nat} {μ : Mu} {ρ : List D} : ∀ {cs : List CV} {vs : List Value} (n : Nat), CVRs w F hl μ ρ cs vs → CVRs w F hl μ ρ (cs.drop n) (vs.drop n)
  | [], [], _, _ => by simp [CVRs]
  | _ :: _, _ :: _, 0, h => h
  | _ :: _, _ :: _, n + 1, ⟨_, b⟩ => CVRs.drop n b
theorem CVRs.take {w : World} {F : Nat → Prop} {hl : Nat} {μ : Mu} {ρ : List D} : ∀ {cs : List CV} {vs : List Value} (n : Nat), CVRs w F hl μ ρ cs vs → CVRs w F hl μ ρ (cs.take n) (vs.take n)
  | [], [], _, _ => by simp [CVRs]
  | _ :: _, _ :: _, 0, _ => trivial
  | _ :: _, _ :: _, n + 1, ⟨a, b⟩ => ⟨a, CVRs.take n b⟩
theorem CVRs.append {w : World} {F : Nat → Prop} {hl : Nat} {μ : Mu} {ρ : List D} : ∀ {cs : List CV} {vs : List Value} {cs' : List CV} {vs' : List Value}, CVRs w F hl μ ρ cs vs → CVRs w F hl μ ρ cs' vs' → CVRs w F hl μ ρ (cs ++ cs') (vs ++ vs')
  | [], [], _, _, _, h => h
  | _ :: _, _ :: _, _, _, ⟨a, b⟩, h => ⟨a, CVRs.append b h⟩
theorem CVRs.get {w : World} {F : Nat → Prop} {hl : Nat} {μ : Mu} {ρ : List D} : ∀ {cs : List CV} {vs : List Value} {j : Nat} {c : CV}, CVRs w F hl μ ρ cs vs → cs[j]? = some c → ∃ v, vs[j]? = some v ∧ CVR w F hl μ ρ c v
  | _ :: _, _ :: _, 0, c, ⟨a, _⟩, h => by simp only [List.getElem?_cons_zero, Option.some.injEq] at h; subst h; exact ⟨_, rfl, a⟩
  | _ :: _, _ :: _, j + 1, c, ⟨_, b⟩, h => by simp only [List.getElem?_cons_succ] at h ⊢; exact CVRs.get b h

theorem RdCs.length {α : Type} {Q : α → Value → D → Prop} : ∀ {ts : List α} {vs : List Value} {ds : List D}, RdCs Q ts vs ds → vs.length = ts.length ∧ ds.length = ts.length
  | [], [], [], _ => ⟨rfl, rfl⟩
  | _ :: _, _ :: _, _ :: _, ⟨_, b⟩ => by have := RdCs.length b; simp [this.1, this.2]
theorem RdCs.get {α : Type} {Q : α → Value → D → Prop} : ∀ {ts : List α} {vs : List Value} {ds : List D} {j : Nat} {t : α}, RdCs Q ts vs ds → ts[j]? = some t → ∃ v d, vs[j]? = some v ∧ ds[j]? = some d ∧ Q t v d
  | _ :: _, _ :: _, _ :: _, 0, t, ⟨a, _⟩, h => by simp only [List.getElem?_cons_zero, Option.some.injEq] at h; subst h; exact ⟨_, _, rfl, rfl, a⟩
  | _ :: _, _ :: _, _ :: _, j + 1, t, ⟨_, b⟩, h => by simp only [List.getElem?_cons_succ] at h ⊢; exact RdCs.get b h
theorem RdCs.mapT {α β : Type} {Q : α → Value → D → Prop} {Q' : β → Value → D → Prop} (f : α → β) (h : ∀ t v d, Q t v d → Q' (f t) v d) : ∀ {ts : List α} {vs : List Value} {ds : List D}, RdCs Q ts vs ds → RdCs Q' (ts.map f) vs ds
  | [], [], [], _ => trivial
  | _ :: _, _ :: _, _ :: _, ⟨a, b⟩ => ⟨h _ _ _ a, RdCs.mapT f h b⟩

/-! ### An element of a row -/
theorem RdRow.get {α : Type} {Q : α → Value → D → Prop} {ts : List α} : ∀ {ls : List (List D)} {xs : List Value} {i : Nat} {l : List D}, RdRow Q ts xs ls → ls[i]? = some l →
    ∃ c, RdCs Q ts c l ∧ ∀ (j : Nat) u, c[j]? = some u → xs[i * ts.length + j]? = some u
  | l' :: ls, xs, 0, l, ⟨c, r, e, a, b⟩, h => by
    simp only [List.getElem?_cons_zero, Option.some.injEq] at h
    subst h
    refine ⟨c, a, fun j u hu => ?_⟩
    subst e
    rw [Nat.zero_mul, Nat.zero_add, List.getElem?_append_left]
    · exact hu
    · rcases Nat.lt_or_ge j c.length with h | h
      · exact h
      · rw [List.getElem?_eq_none h] at hu; cases hu
  | l' :: ls, xs, i + 1, l, ⟨c, r, e, a, b⟩, h => by
    simp only [List.getElem?_cons_succ] at h
    obtain ⟨c', a', h'⟩ := RdRow.get b h
    refine ⟨c', a', fun j u hu => ?_⟩
    subst e
    have hl := a.length.1
    have := h' j u hu
    rw [List.getElem?_append_right (by rw [hl, Nat.add_mul]; omega)]
    rw [show (i + 1) * ts.length + j - c.length = i * ts.length + j from by rw [hl, Nat.add_mul]; omega]
    exact this

theorem RdRow.length {α : Type} {Q : α → Value → D → Prop} {ts : List α} : ∀ {ls : List (List D)} {xs : List Value}, RdRow Q ts xs ls → xs.length = ls.length * ts.length
  | [], xs, h => by simp only [RdRow] at h; subst h; simp
  | l :: ls, xs, ⟨c, r, e, a, b⟩ => by subst e; rw [List.length_append, a.length.1, RdRow.length b, List.length_cons, Nat.add_mul]; omega

theorem rowCells_length {t : CT} {w : World} {F : Nat → Prop} {xs : List Value} {ls : List (List D)} (h : rowRd w F t xs ls) : (rowCells t).length = rowSz t := by
  cases t with
  | b t => exact h.elim
  | s1 e => simp [rowCells, rowSz]
  | s2 e => rfl

theorem rowRd_get {t : CT} {w : World} {F : Nat → Prop} {xs : List Value} {ls : List (List D)} {i : Nat} {l : List D} (h : rowRd w F t xs ls) (hi : ls[i]? = some l) :
    ∃ c, RdCs (RdC w F) (rowCells t) c l ∧ ∀ (j : Nat) u, c[j]? = some u → xs[i * rowSz t + j]? = some u := by
  cases t with
  | b t => exact h.elim
  | s1 e =>
    obtain ⟨c, hc, hx⟩ := RdRow.get h hi
    exact ⟨c, RdCs.mapT CT.b (fun _ _ _ h => h) hc, hx⟩
  | s2 e =>
    obtain ⟨c, hc, hx⟩ := RdRow.get h hi
    exact ⟨c, RdCs.mapT (ts := [()]) (fun _ => CT.s1 e) (fun _ _ _ h => h) hc, hx⟩

theorem rowRd_sl {t : CT} {w : World} {F : Nat → Prop} {v : Value} {d : D} (h : RdC w F t v d) (ht : ∀ b, t ≠ .b b) : RdSl w F (rowRd w F t) (rowAgg t) v d := by
  cases t with
  | b t => exact absurd rfl (ht t)
  | s1 e => exact h
  | s2 e => exact h

section
variable {P : Program} {w : World} {F : Nat → Prop} {hl : Nat} {μ : Mu} {ρ : List D}

theorem ptrAdd_ok {s q : SV} {k : Nat} {v : Value} (h : ptrAdd s k = .ok q) (hs : SVR w F hl μ ρ s v) : ∃ b o, v = .pointer (some ⟨b, o, none⟩) ∧ SVR w F hl μ ρ q (.pointer (some ⟨b, o + k, none⟩)) := by
  unfold ptrAdd at h
  split at h <;> simp only [Except.ok.injEq, reduceCtorEq] at h
  · subst h
    obtain ⟨hb, b, h1, rfl⟩ := hs
    exact ⟨b, _, rfl, hb, b, h1, rfl⟩
  · subst h
    obtain ⟨hb, b, len, cap, n, h1, h2, h3, h4, rfl⟩ := hs
    refine ⟨b, _, rfl, hb, b, len, cap, n, h1, h2, h3, h4, ?_⟩
    rw [Nat.add_assoc]
  · subst h
    obtain ⟨b, o, rfl, h2, h3⟩ := hs
    refine ⟨b, _, rfl, b, o, ?_, h2, h3⟩
    rw [Nat.add_assoc]

theorem addr_add (b o k : Nat) : (⟨b, o, none⟩ : Addr).add k = ⟨b, o + k, none⟩ := by
  unfold Addr.add
  split
  · rename_i h; subst h; rfl
  · rfl

theorem isAggB_run {t : TypeId} {ag : Bool} (h : isAggB P t = some ag) (w : World) : (isAgg t).run P w = .ok ag w := by
  unfold isAggB at h
  unfold isAgg
  split at h
  · rename_i e; simp only [Option.some.injEq] at h; subst h; simp [run_underlying e]
  · rename_i e; simp only [Option.some.injEq] at h; subst h; simp [run_underlying e]
  · rename_i d e1 e2 e
    simp only [Option.some.injEq] at h; subst h
    simp only [Sem.run_bind, run_underlying e, Result.andThen_ok]
    cases d <;> first | rfl | (rename_i x; exact absurd e (e1 x)) | (rename_i x y; exact absurd e (e2 x y))
  · cases h

theorem sizeB_run {t : TypeId} {n : Nat} (h : sizeB P t = some n) (w : World) : (Go.sizeOf t).run P w = .ok n w := by
  unfold sizeB at h
  obtain ⟨i, hi, rfl⟩ := map_some_eq h
  simp [Go.sizeOf, typeInfo, hi]

theorem loadVar_ok {t : TypeId} {ag : Bool} {sz b o : Nat} {vs : List Value} (ha : isAggB P t = some ag) (hz : sizeB P t = some sz) (hl : vs.length = sz)
    (hc : ∀ (j : Nat) u, vs[j]? = some u → w.cell? ⟨b, o + j, none⟩ = some u) (h0 : 0 < sz) (w' : World) (hw : w'.heap = w.heap) :
    (loadVar t ⟨b, o, none⟩).run P w' = .ok (if ag then .agg vs.toArray else vs.headD Go.undef) w' := by
  have hc' : ∀ (j : Nat) u, vs[j]? = some u → w'.cell? ⟨b, o + j, none⟩ = some u := fun j u hu => by
    have := hc j u hu
    simpa [World.cell?, hw] using this
  unfold loadVar
  simp only [Sem.run_bind, isAggB_run ha, Result.andThen_ok]
  cases ag with
  | true =>
    have := run_loadCells_list (P := P) w' ⟨b, o, none⟩ vs (fun j v hv => by rw [addr_add]; exact hc' j v hv)
    rw [hl] at this
    simp [sizeB_run hz, this]
  | false =>
    cases vs with
    | nil => simp at hl; omega
    | cons v vs =>
      have := hc' 0 v rfl
      simp only [Nat.add_zero] at this
      simp [this]

/-- Cells that a pointer to cells reads: their values. -/
theorem fcel_vals {b o : Nat} : ∀ {cs : List (CT × Atom)} , (∀ (j : Nat) t x, cs[j]? = some (t, x) → ∃ u d, w.cell? ⟨b, o + j, none⟩ = some u ∧ x.get ρ = some d ∧ RdC w F t u d) →
    ∃ vs : List Value, vs.length = cs.length ∧ (∀ (j : Nat) u, vs[j]? = some u → w.cell? ⟨b, o + j, none⟩ = some u) ∧ CVRs w F hl μ ρ (cs.map fun (c, x) => .s (.dat c x)) vs
  | [], _ => ⟨[], rfl, by simp, trivial⟩
  | (t, x) :: cs, h => by
    obtain ⟨u, d, h1, h2, h3⟩ := h 0 t x rfl
    obtain ⟨vs, hl', hv, hr⟩ := fcel_vals (b := b) (o := o + 1) (cs := cs) (fun j t x hj => by
      have := h (j + 1) t x (by simpa using hj)
      rw [show o + 1 + j = o + (j + 1) from by omega]
      exact this)
    refine ⟨u :: vs, by simp [hl'], ?_, ⟨⟨d, h2, h3⟩, hr⟩⟩
    intro j v hj
    cases j with
    | zero => simp only [List.getElem?_cons_zero, Option.some.injEq] at hj; subst hj; exact h1
    | succ j =>
      simp only [List.getElem?_cons_succ] at hj
      have := hv j v hj
      rw [show o + 1 + j = o + (j + 1) from by omega] at this
      exact this

theorem mkSV_ok {ag : Bool} {cs : List CV} {s : SV} {vs : List Value} (h : mkSV ag cs = some s) (hc : CVRs w F hl μ ρ cs vs) : SVR w F hl μ ρ s (if ag then .agg vs.toArray else vs.headD Go.undef) := by
  unfold mkSV at h
  split at h
  · rename_i ha
    simp only [Option.some.injEq] at h; subst h
    simp only [ha]
    exact ⟨_, rfl, by simpa using hc⟩
  · rename_i ha
    split at h
    · simp only [Option.some.injEq] at h; subst h
      match vs, hc with
      | [v], ⟨a, _⟩ => simp only [ha]; exact a
    · cases h

/-- The projections of an element's data. -/
theorem proj_push {l : List D} {x : Atom} : ∀ {ts : List CT} {k : Nat} {ρ ρ' : List D}, x.get ρ = some (.agg l) → pushAll ((ts.zipIdx k).map fun (_, j) => (Prim.proj j, [x])) ρ = some ρ' →
    ∀ (j : Nat), j < ts.length → l[k + j]? ≠ none ∧ ρ'[ρ.length + j]? = l[k + j]? ∧ ∃ σ, ρ' = ρ ++ σ
  | [], k, ρ, ρ', _, _, j, hj => by simp at hj
  | t :: ts, k, ρ, ρ', hx, hp, j, hj => by
    simp only [List.zipIdx_cons, List.map_cons, pushAll, evs, List.map_nil, Atom.ev_of_get hx, Prim.ev] at hp
    split at hp
    · rename_i d hd
      have hx' : x.get (ρ ++ [d]) = some (.agg l) := Atom.get_append hx
      cases j with
      | zero =>
        obtain ⟨σ, e, _⟩ := pushAll_env hp
        subst e
        refine ⟨by simp [hd], ?_, ⟨[d] ++ σ, by simp⟩⟩
        simp [hd]
      | succ j =>
        have := proj_push (k := k + 1) hx' hp j (by simpa using hj)
        obtain ⟨h1, h2, σ, e⟩ := this
        refine ⟨by rw [show k + (j + 1) = k + 1 + j from by omega]; exact h1, ?_, ⟨[d] ++ σ, by simp [e]⟩⟩
        rw [show k + (j + 1) = k + 1 + j from by omega, ← h2]
        congr 1
        simp; omega
    · cases hp

theorem elemCells_ok {t : CT} {x : Atom} {c : List Value} {l : List D} {ρ' : List D} (hx : x.get ρ = some (unflat (rowAgg t) l)) (hc : RdCs (RdC w F) (rowCells t) c l)
    (hp : pushAll (elemCells ρ.length t x).2 ρ = some ρ') :
    ∀ (j : Nat) ct y, (elemCells ρ.length t x).1[j]? = some (ct, y) → ∃ u d, c[j]? = some u ∧ y.get ρ' = some d ∧ RdC w F ct u d := by
  intro j ct y hj
  cases t with
  | b t => simp [elemCells, rowAgg, rowCells] at hj
  | s2 e =>
    simp only [elemCells, rowAgg, rowCells] at hj hp
    cases j with
    | succ j => simp at hj
    | zero =>
      simp at hj
      obtain ⟨rfl, rfl⟩ := hj
      simp only [Bool.false_eq_true, if_false, pushAll, Option.some.injEq] at hp
      subst hp
      obtain ⟨u, d, hu, hd, hr⟩ := RdCs.get hc (t := CT.s1 e) (j := 0) rfl
      have hl := hc.length.2
      match l, hl with
      | [d'], _ =>
        simp only [List.getElem?_cons_zero, Option.some.injEq] at hd
        subst hd
        exact ⟨u, _, hu, by simpa [unflat, rowAgg] using hx, hr⟩
  | s1 e =>
    cases hag : e.agg with
    | true =>
      simp only [elemCells, rowAgg, hag, if_true, rowCells] at hj hp
      simp only [rowAgg, hag, unflat, if_true] at hx
      rw [List.getElem?_map, List.getElem?_zipIdx] at hj
      cases hb : (List.map CT.b e.cells)[j]? with
      | none => simp [hb] at hj
      | some ct' =>
        simp [hb] at hj
        obtain ⟨rfl, rfl⟩ := hj
        obtain ⟨u, d, hu, hd, hr⟩ := RdCs.get hc (t := ct') (j := j) hb
        have hlt : j < (List.map CT.b e.cells).length := by
          rcases Nat.lt_or_ge j (List.map CT.b e.cells).length with h | h
          · exact h
          · rw [List.getElem?_eq_none h] at hb; cases hb
        obtain ⟨_, h2, _⟩ := proj_push (k := 0) hx hp j hlt
        refine ⟨u, d, hu, ?_, hr⟩
        simp only [Atom.get]
        rw [h2, Nat.zero_add]
        exact hd
    | false =>
      simp only [elemCells, rowAgg, hag, Bool.false_eq_true, if_false, pushAll, Option.some.injEq] at hj hp
      simp only [rowAgg, hag, unflat, Bool.false_eq_true, if_false] at hx
      subst hp
      split at hj
      · rename_i ct' hct
        cases j with
        | succ j => simp at hj
        | zero =>
          simp at hj
          obtain ⟨rfl, rfl⟩ := hj
          obtain ⟨u, d, hu, hd, hr⟩ := RdCs.get hc (t := ct') (j := 0) (by rw [hct]; rfl)
          have hl := hc.length.2
          rw [hct] at hl
          match l, hl with
          | [d'], _ =>
            simp only [List.getElem?_cons_zero, Option.some.injEq] at hd
            subst hd
            exact ⟨u, _, hu, hx, hr⟩
      · simp at hj

end
end Vs

namespace Vs
open Go Go.RowKit

section
variable {P : Program} {w : World} {F : Nat → Prop} {hl : Nat} {μ : Mu} {ρ : List D}

theorem vals_of {Pos : Nat → Value → Prop} : ∀ {cs : List (CT × Atom)}, (∀ (j : Nat) t x, cs[j]? = some (t, x) → ∃ u d, Pos j u ∧ x.get ρ = some d ∧ RdC w F t u d) →
    ∃ vs : List Value, vs.length = cs.length ∧ (∀ (j : Nat) u, vs[j]? = some u → Pos j u) ∧ CVRs w F hl μ ρ (cs.map fun (c, x) => .s (.dat c x)) vs
  | [], _ => ⟨[], rfl, by simp, trivial⟩
  | (t, x) :: cs, h => by
    obtain ⟨u, d, h1, h2, h3⟩ := h 0 t x rfl
    obtain ⟨vs, hl', hv, hr⟩ := vals_of (Pos := fun j u => Pos (j + 1) u) (cs := cs) (fun j t x hj => h (j + 1) t x (by simpa using hj))
    refine ⟨u :: vs, by simp [hl'], ?_, ⟨⟨d, h2, h3⟩, hr⟩⟩
    intro j v hj
    cases j with
    | zero => simp only [List.getElem?_cons_zero, Option.some.injEq] at hj; subst hj; exact h1
    | succ j => simp only [List.getElem?_cons_succ] at hj; exact hv j v hj

theorem getElem?_part {α : Type} {cs : List α} {off sz j : Nat} {x : α} (h : ((cs.drop off).take sz)[j]? = some x) : cs[off + j]? = some x := by
  rw [List.getElem?_take] at h
  split at h
  · rw [List.getElem?_drop] at h; exact h
  · cases h

theorem cell_of_cells {b o : Nat} {arr : Array Value} {T : TypeId} {fr : Nat × Nat} (h : w.heap[b]? = some (.cells arr T fr)) : w.cell? ⟨b, o, none⟩ = arr[o]? := by
  simp [World.cell?, h]

theorem list_of_arr {arr : Array Value} {off sz j : Nat} {u : Value} (h : ((arr.toList.drop off).take sz)[j]? = some u) : arr[off + j]? = some u := by
  have := getElem?_part h
  simpa using this
end

theorem fvals_of {w : World} {F : Nat → Prop} {hl : Nat} {μ : Mu} {ρ : List D} {Pos : Nat → Value → Prop} : ∀ {cs : List FC}, (∀ (j : Nat) c, cs[j]? = some c → ∃ u, Pos j u ∧ FCR w F hl μ ρ c u) →
    ∃ vs : List Value, vs.length = cs.length ∧ (∀ (j : Nat) u, vs[j]? = some u → Pos j u) ∧ CVRs w F hl μ ρ (cs.map FC.cv) vs := by
  intro cs
  induction cs generalizing Pos with
  | nil => intro _; exact ⟨[], rfl, by simp, trivial⟩
  | cons c cs ih =>
    intro h
    obtain ⟨u, h1, h2⟩ := h 0 c rfl
    obtain ⟨vs, hl', hv, hr⟩ := ih (Pos := fun j => Pos (j + 1)) (fun j c hj => h (j + 1) c (by simpa using hj))
    refine ⟨u :: vs, by simp [hl'], fun j v hj => ?_, FCR_cv.1 h2, hr⟩
    cases j with
    | zero => simp only [List.getElem?_cons_zero, Option.some.injEq] at hj; subst hj; exact h1
    | succ j => simp only [List.getElem?_cons_succ] at hj; exact hv j v hj

section
variable {P : Program} {X : Nat → Prop} {M : Hand} {w0 w : World} {S : SS} {μ : Mu} {ρ : List D} {a : Act}

theorem lopLoad_ok {t : TypeId} {p v : SV} {ps : List Push} {va : Value} {ρ' : List D} (h : lopLoad P S t p = .ok (v, ps)) (hR : R X M w0 S μ ρ a w)
    (hv : SVR w (Fz X S.heap μ w) S.heap.length μ ρ p va) (hp : pushAll ps ρ = some ρ') :
    ∃ u, (Instr.loadAt t va).run P w = .ok u w ∧ SVR w (Fz X S.heap μ w) S.heap.length μ ρ' v u := by
  unfold lopLoad at h
  obtain ⟨ag, ha0, h1⟩ := bind_ok h
  obtain ⟨sz, hz0, h2⟩ := bind_ok h1
  have ha := need_ok ha0
  have hz := need_ok hz0
  clear h h1 ha0 hz0
  rename _ = Except.ok _ => h
  split at h
  · -- a variable's cells
    rename_i β off
    obtain ⟨_, b, hb, rfl⟩ := hv
    split at h
    · rename_i cs hcs
      obtain ⟨_, b', arr, T, hb', _, hheap, hC⟩ := hR.blocks β _ hcs
      rw [hb] at hb'
      simp only [Value.pointer.injEq, Option.some.injEq, Addr.mk.injEq, and_true] at hb'
      subst hb'
      dsimp only at h
      split at h
      · rename_i hlen
        obtain ⟨s, hs, h⟩ := bind_ok h
        simp only [Except.ok.injEq, Prod.mk.injEq] at h
        obtain ⟨rfl, rfl⟩ := h
        simp only [pushAll, Option.some.injEq] at hp
        subst hp
        have hC' := (hC.drop off).take sz
        have hvl : ((arr.toList.drop off).take sz).length = sz := by rw [← hC'.length]; exact hlen.1
        refine ⟨_, ?_, mkSV_ok (need_ok hs) hC'⟩
        simp only [Instr.loadAt, Instr.sureAddr, Sem.run_bind, Sem.run_pure, Result.andThen_ok]
        exact loadVar_ok ha hz hvl (fun j u hu => by rw [cell_of_cells hheap]; exact list_of_arr hu) hlen.2 w rfl
      · cases h
    · cases h
  · -- frozen cells
    rename_i cs off
    obtain ⟨b, o, rfl, _, hc⟩ := hv
    dsimp only at h
    split at h
    · rename_i hlen
      obtain ⟨s, hs, h⟩ := bind_ok h
      simp only [Except.ok.injEq, Prod.mk.injEq] at h
      obtain ⟨rfl, rfl⟩ := h
      simp only [pushAll, Option.some.injEq] at hp
      subst hp
      obtain ⟨vs, hvl, hvc, hC⟩ := fvals_of (w := w) (F := Fz X S.heap μ w) (ρ := ρ) (cs := (cs.drop off).take sz) (Pos := fun j u => w.cell? ⟨b, o + off + j, none⟩ = some u) (hl := S.heap.length) (μ := μ) (fun j c hj => by
        have := hc (off + j) c (getElem?_part hj)
        rw [Nat.add_assoc]
        exact this)
      refine ⟨_, ?_, mkSV_ok (need_ok hs) hC⟩
      simp only [Instr.loadAt, Instr.sureAddr, Sem.run_bind, Sem.run_pure, Result.andThen_ok]
      exact loadVar_ok ha hz (hvl.trans hlen.1) hvc hlen.2 w rfl
    · cases h
  · -- an element of an own row
    rename_i β i sz' off
    obtain ⟨hv1, b, len, cap, n, hb, hi, h0, hn, rfl⟩ := hv
    split at h
    · rename_i rt e x hrow
      obtain ⟨_, m, xs, ls, hown, _, hx, hm, hrd⟩ := hR.blocks β _ hrow
      dsimp only at h
      split at h
      · rename_i hlen
        obtain ⟨s, hs, h⟩ := bind_ok h
        simp only [Except.ok.injEq, Prod.mk.injEq] at h
        obtain ⟨rfl, rfl⟩ := h
        simp only [pushAll, evs, List.map_cons, List.map_nil, Atom.ev_of_get hx, Atom.ev_of_get hi, Prim.ev, List.length_map] at hp
        rcases hown.2 with ⟨hnil, _⟩ | ⟨g, cap', cur, hsl, _, hheap, _, _, _, htake⟩
        · rw [hb] at hnil; cases hnil
        rw [hb] at hsl
        simp only [Value.slice.injEq, Option.some.injEq, Addr.mk.injEq, and_true] at hsl
        obtain ⟨rfl, rfl, rfl⟩ := hsl
        have hlt : n.toNat < ls.length := by omega
        obtain ⟨l, hl⟩ : ∃ l, ls[n.toNat]? = some l := ⟨_, List.getElem?_eq_getElem hlt⟩
        rw [if_pos (by omega)] at hp
        simp only [List.getElem?_map, hl, Option.map_some] at hp
        obtain ⟨c, hc, hcx⟩ := rowRd_get hrd hl
        have hn1 : (ρ ++ [unflat (rowAgg rt) l]).length = S.n + 1 := by simp [hR.len]
        rw [← hn1] at hp hs hlen
        have hgo := elemCells_ok (w := w) (F := Fz X S.heap μ w) (t := rt) (x := .v S.n) (ρ := ρ ++ [unflat (rowAgg rt) l]) (get_new hR.len) hc hp
        obtain ⟨vs, hvl, hvc, hC⟩ := vals_of (w := w) (F := Fz X S.heap μ w) (Pos := fun j u => w.cell? ⟨b, n.toNat * sz' + off + j, none⟩ = some u) (hl := S.heap.length) (μ := μ) (ρ := ρ')
            (cs := ((elemCells (ρ ++ [unflat (rowAgg rt) l]).length rt (.v S.n)).1.drop off).take sz) (fun j t x hj => by
          obtain ⟨u, d, hu, hd, hr⟩ := hgo (off + j) t x (getElem?_part hj)
          refine ⟨u, d, ?_, hd, hr⟩
          have := hcx _ _ hu
          rw [cell_of_cells hheap]
          rw [← htake] at this
          rw [List.getElem?_take] at this
          split at this
          · rw [hlen.1, Nat.add_assoc]
            simpa using this
          · cases this)
        refine ⟨_, ?_, mkSV_ok (need_ok hs) hC⟩
        simp only [Instr.loadAt, Instr.sureAddr, Sem.run_bind, Sem.run_pure, Result.andThen_ok]
        exact loadVar_ok ha hz (hvl.trans hlen.2.1) hvc hlen.2.2 w rfl
      · cases h
    · -- an own row of own rows
      rename_i et e' e ver x hrow
      obtain ⟨hh, m, ls, hown, _, hx, hm, ⟨hrl, hrd⟩, _⟩ := hR.blocks β _ hrow
      split at h
      · rename_i hc
        obtain ⟨rfl, rfl, rfl, rfl⟩ := hc
        simp only [Except.ok.injEq, Prod.mk.injEq] at h
        obtain ⟨rfl, rfl⟩ := h
        simp only [pushAll, Option.some.injEq] at hp
        subst hp
        rcases hown.2 with ⟨hnil, _⟩ | ⟨g, cap', cur, hsl, _, hheap, _, _, _, htake⟩
        · rw [hb] at hnil; cases hnil
        rw [hb] at hsl
        simp only [Value.slice.injEq, Option.some.injEq, Addr.mk.injEq, and_true] at hsl
        obtain ⟨rfl, rfl, rfl⟩ := hsl
        have hil : (μ β).inner.length = len := by have := hown.1; omega
        have hlt : n.toNat < (μ β).inner.length := by omega
        obtain ⟨uu, hu⟩ : ∃ u, (μ β).inner[n.toNat]? = some u := ⟨_, List.getElem?_eq_getElem hlt⟩
        have hll : n.toNat < ls.length := by omega
        obtain ⟨k, ys, hk, _⟩ := hrd n.toNat _ _ hu (List.getElem?_eq_getElem hll)
        obtain ⟨a', cap'', hsl'⟩ := ownsRow_slice hk
        have hcell : w.cell? ⟨b, n.toNat, none⟩ = some uu := by
          rw [cell_of_cells hheap]
          have h2 := hu
          rw [← htake, List.getElem?_take] at h2
          split at h2
          · simpa using h2
          · cases h2
        refine ⟨uu, ?_, hv1, (μ β).inner, n, MV.hist_last hh, hi, h0, hu, a', k, cap'', hsl'⟩
        simp only [Instr.loadAt, Instr.sureAddr, Sem.run_bind, Sem.run_pure, Result.andThen_ok]
        have := loadVar_ok (P := P) (w := w) (b := b) (o := n.toNat * 1 + 0) (vs := [uu]) ha hz rfl (fun j u hu' => by
          cases j with
          | zero => simp only [List.getElem?_cons_zero, Option.some.injEq] at hu'; subst hu'; simpa using hcell
          | succ j => simp at hu') (by decide) w rfl
        simpa using this
      · cases h
    · cases h
  · cases h

end

section
variable {P : Program} {w : World} {F : Nat → Prop} {hl : Nat} {μ : Mu} {ρ : List D}

theorem lopFieldAddr_ok {s : TypeId} {p v : SV} {f : Nat} {ps : List Push} {va : Value} (h : lopFieldAddr P s p f = .ok (v, ps)) (hv : SVR w F hl μ ρ p va) :
    ps = [] ∧ ∃ u, (Instr.fieldAt s va f).run P w = .ok u w ∧ SVR w F hl μ ρ v u := by
  unfold lopFieldAddr at h
  split at h
  · rename_i fs hs
    split at h
    · rename_i fd hf
      split at h
      · rename_i hz
        obtain ⟨q, hq, h⟩ := bind_ok h
        simp only [Except.ok.injEq, Prod.mk.injEq] at h
        obtain ⟨rfl, rfl⟩ := h
        obtain ⟨b, o, rfl, hq'⟩ := ptrAdd_ok hq hv
        refine ⟨rfl, _, ?_, hq'⟩
        cases hsz : sizeB P fd.type with
        | none => simp [hsz] at hz
        | some k =>
          have hk : k ≠ 0 := by simp [hsz] at hz; omega
          simp only [Instr.fieldAt, Sem.run_bind, run_underlying hs, Result.andThen_ok, hf, Instr.sureAddr, Sem.run_pure, fieldPlace, sizeB_run hsz, hk, if_false, addr_add]
      · cases h
    · cases h
  · cases h

theorem atomNat_ok {x : Atom} {k : Nat} (h : atomNat x = some k) : x.get ρ = some (.int k) := by
  unfold atomNat at h
  split at h
  · rename_i i
    split at h
    · rename_i hi
      simp only [Option.some.injEq] at h
      subst h
      simp only [Atom.get]
      rw [Int.toNat_of_nonneg hi]
    · cases h
  · cases h

theorem rd_nat {x : Atom} {k : IntKind} {v : Value} {j : Nat} (h : SVR w F hl μ ρ (.c (.s (.dat (.b (.int k)) x))) v) (hj : atomNat x = some j) : v = .int k j := by
  obtain ⟨n, rfl, hx⟩ := rd_int h
  rw [atomNat_ok hj] at hx
  simp only [Option.some.injEq, D.int.injEq] at hx
  rw [hx]

theorem lopPart_ok {t : TypeId} {cs : List CV} {off : Nat} {v : SV} {ps : List Push} {arr : Array Value} (h : lopPart P t cs off = .ok (v, ps)) (hc : CVRs w F hl μ ρ cs arr.toList) :
    ps = [] ∧ ∃ u, (part t arr off).run P w = .ok u w ∧ SVR w F hl μ ρ v u := by
  unfold lopPart at h
  obtain ⟨ag, ha0, h1⟩ := bind_ok h
  obtain ⟨sz, hz0, h2⟩ := bind_ok h1
  have ha := need_ok ha0
  have hz := need_ok hz0
  clear h h1 ha0 hz0
  rename _ = Except.ok _ => h
  dsimp only at h
  split at h
  · rename_i hlen
    obtain ⟨s, hs, h⟩ := bind_ok h
    simp only [Except.ok.injEq, Prod.mk.injEq] at h
    obtain ⟨rfl, rfl⟩ := h
    have hC := (hc.drop off).take sz
    have hvl : ((arr.toList.drop off).take sz).length = sz := by rw [← hC.length]; exact hlen.1
    refine ⟨rfl, _, ?_, mkSV_ok (need_ok hs) hC⟩
    unfold part
    simp only [Sem.run_bind, isAggB_run ha, Result.andThen_ok]
    cases ag with
    | true =>
      have e : (arr.extract off (off + sz)) = ((arr.toList.drop off).take sz).toArray := by
        apply Array.ext'
        simp [List.take_drop]
      simp [sizeB_run hz, e]
    | false =>
      have h1 : sz ≠ 0 := by omega
      have h2 : off < arr.size := by simp at hvl; omega
      simp only [Bool.false_eq_true, if_false]
      have e1 : arr[off]? = some arr[off] := Array.getElem?_eq_getElem h2
      rw [e1]
      simp only [Sem.run_pure]
      congr 1
      have e2 : ((arr.toList.drop off).take sz).head? = some arr[off] := by
        rw [List.head?_take, if_neg h1, List.head?_drop]
        simp [e1]
      cases hq : (arr.toList.drop off).take sz with
      | nil => simp [hq] at e2
      | cons y ys => simp only [hq, List.head?_cons, Option.some.injEq] at e2; simp [e2]
  · cases h

theorem lopField_ok {t : TypeId} {x v : SV} {f : Nat} {ps : List Push} {va : Value} (h : lopField P t x f = .ok (v, ps)) (hv : SVR w F hl μ ρ x va) :
    ps = [] ∧ ∃ u, (Instr.field t va f).run P w = .ok u w ∧ SVR w F hl μ ρ v u := by
  unfold lopField at h
  split at h
  · rename_i fs cs hs
    obtain ⟨arr, rfl, hc⟩ := hv
    split at h
    · rename_i fd hf
      obtain ⟨e, u, hu, hr⟩ := lopPart_ok h hc
      refine ⟨e, u, ?_, hr⟩
      simp only [Instr.field, Sem.run_bind, run_underlying hs, Result.andThen_ok, hf, asAgg, Sem.run_pure]
      exact hu
    · cases h
  · cases h

theorem lopIndex_ok {t : TypeId} {x i v : SV} {ps : List Push} {va vi : Value} (h : lopIndex P t x i = .ok (v, ps)) (hv : SVR w F hl μ ρ x va) (hi : SVR w F hl μ ρ i vi) :
    ps = [] ∧ ∃ u, (Instr.index t va vi).run P w = .ok u w ∧ SVR w F hl μ ρ v u := by
  unfold lopIndex at h
  split at h
  · rename_i len e cs k ix hs
    obtain ⟨arr, rfl, hc⟩ := hv
    split at h
    · rename_i j sz hj hz
      have := rd_nat hi hj
      subst this
      split at h
      · rename_i hlt
        obtain ⟨e', u, hu, hr⟩ := lopPart_ok h hc
        refine ⟨e', u, ?_, hr⟩
        simp only [Instr.index, asIntOf, Sem.run_bind, Sem.run_pure, Result.andThen_ok, run_underlying hs]
        rw [if_pos (by omega)]
        simp only [Sem.run_bind, sizeB_run hz, Result.andThen_ok, Int.toNat_natCast]
        exact hu
      · cases h
    · cases h
  · cases h

end
end Vs

namespace Vs
open Go Go.RowKit

section
variable {P : Program} {X : Nat → Prop} {M : Hand} {w0 w : World} {S : SS} {μ : Mu} {ρ : List D} {a : Act}

theorem map_get_lt {ls : List (List D)} {i : Nat} {ag : Bool} {d : D} (h : (ls.map (unflat ag))[i]? = some d) : ∃ l, ls[i]? = some l ∧ d = unflat ag l := by
  rw [List.getElem?_map] at h
  obtain ⟨l, hl, e⟩ := map_some_eq h
  exact ⟨l, hl, e.symm⟩

theorem lopIndexAddr_ok {t : TypeId} {x i v : SV} {ps : List Push} {vx vi : Value} {ρ' : List D} (h : lopIndexAddr P S t x i = .ok (v, ps)) (hR : R X M w0 S μ ρ a w)
    (hx : SVR w (Fz X S.heap μ w) S.heap.length μ ρ x vx) (hi : SVR w (Fz X S.heap μ w) S.heap.length μ ρ i vi) (hp : pushAll ps ρ = some ρ') :
    ∃ u, (Instr.indexAt t vx vi).run P w = .ok u w ∧ SVR w (Fz X S.heap μ w) S.heap.length μ ρ' v u := by
  unfold lopIndexAddr at h
  split at h
  · rename_i e k ix hs
    obtain ⟨n, rfl, hn⟩ := rd_int hi
    split at h
    · -- a frozen slice of plain elements
      rename_i et l
      split at h
      · rename_i hz
        simp only [Except.ok.injEq, Prod.mk.injEq] at h
        obtain ⟨rfl, rfl⟩ := h
        obtain ⟨d, hl, ls, rfl, hd⟩ := hx
        simp only [pushAll, evs, List.map_cons, List.map_nil, Atom.ev_of_get hl, Atom.ev_of_get hn, Prim.ev, List.length_map] at hp
        split at hp
        · rename_i d hd'
          split at hd'
          · rename_i hb
            obtain ⟨el, hel, rfl⟩ := map_get_lt hd'
            rcases hd with ⟨_, rfl⟩ | ⟨b, off, cap, xs, rfl, _, hF, hc, hrr⟩
            · simp at hel
            have hn1 : (ρ ++ [unflat et.agg el]).length = S.n + 1 := by simp [hR.len]
            obtain ⟨c, hcc, hcx⟩ := rowRd_get (w := w) (F := Fz X S.heap μ w) (t := .s1 et) hrr hel
            rw [← hn1] at hp ⊢
            have hgo := elemCells_ok (w := w) (F := Fz X S.heap μ w) (t := .s1 et) (x := .v S.n) (ρ := ρ ++ [unflat et.agg el]) (get_new hR.len) hcc hp
            refine ⟨.pointer (some ⟨b, off + n.toNat * et.cells.length, none⟩), ?_, b, off + n.toNat * et.cells.length, rfl, hF, ?_⟩
            · simp [Instr.indexAt, asIntOf, run_underlying hs, sizeB_run hz, addr_add, hb.1, hb.2]
            · intro j c hj
              rw [List.getElem?_map] at hj
              obtain ⟨⟨t, x⟩, hj', rfl⟩ := map_some_eq hj
              obtain ⟨u, d, hu, hd, hr⟩ := hgo j t x hj'
              refine ⟨u, ?_, d, hd, hr⟩
              have := hc _ _ (hcx _ _ hu)
              rw [Nat.add_assoc]
              exact this
          · cases hd'
        · cases hp
      · cases h
    · -- a frozen slice of slices
      rename_i et l
      split at h
      · rename_i hz
        simp only [Except.ok.injEq, Prod.mk.injEq] at h
        obtain ⟨rfl, rfl⟩ := h
        obtain ⟨d, hl, ls, rfl, hd⟩ := hx
        obtain ⟨d, hd', rfl⟩ := pushAll_one hp
        simp only [evs, List.map_cons, List.map_nil, Atom.ev_of_get hl, Atom.ev_of_get hn, Prim.ev, List.length_map] at hd'
        split at hd'
        · rename_i hb
          obtain ⟨el, hel, rfl⟩ := map_get_lt hd'
          rcases hd with ⟨_, rfl⟩ | ⟨b, off, cap, xs, rfl, _, hF, hc, hrr⟩
          · simp at hel
          obtain ⟨c, hcc, hcx⟩ := rowRd_get (w := w) (F := Fz X S.heap μ w) (t := .s2 et) hrr hel
          refine ⟨.pointer (some ⟨b, off + n.toNat * 1, none⟩), ?_, b, off + n.toNat * 1, rfl, hF, ?_⟩
          · simp [Instr.indexAt, asIntOf, run_underlying hs, sizeB_run hz, addr_add, hb.1, hb.2]
          · intro j c hj
            cases j with
            | succ j => simp at hj
            | zero =>
              simp only [List.getElem?_cons_zero, Option.some.injEq] at hj
              subst hj
              obtain ⟨u, d, hu, hd, hr⟩ := RdCs.get hcc (t := CT.s1 et) (j := 0) rfl
              have hl := hcc.length.2
              match el, hl with
              | [d'], _ =>
                simp only [List.getElem?_cons_zero, Option.some.injEq] at hd
                subst hd
                refine ⟨u, ?_, _, get_new hR.len, by simpa [unflat] using hr⟩
                have := hc _ _ (hcx _ _ hu)
                simpa [rowSz] using this
        · cases hd'
      · cases h
    · -- an own row
      rename_i β
      split at h
      · rename_i rt e' l hrow
        split at h
        · rename_i hz
          simp only [Except.ok.injEq, Prod.mk.injEq] at h
          obtain ⟨rfl, rfl⟩ := h
          obtain ⟨hβ, rfl, _⟩ := hx
          obtain ⟨_, m, xs, ls, hown, _, hl, hm, hrd⟩ := hR.blocks β _ hrow
          obtain ⟨d, hd', rfl⟩ := pushAll_one hp
          simp only [evs, List.map_cons, List.map_nil, Atom.ev_of_get hl, Atom.ev_of_get hn, Prim.ev, List.length_map] at hd'
          split at hd'
          · rename_i hb
            rcases hown.2 with ⟨_, h0⟩ | ⟨g, cap', cur, hsl, _, hheap, _, _, _, htake⟩
            · omega
            refine ⟨.pointer (some ⟨g, n.toNat * rowSz rt, none⟩), ?_, hβ, g, m, cap', n, hsl, Atom.get_append hn, hb.1, by omega, rfl⟩
            rw [hsl]
            have h2 : n < (m : Int) := by omega
            simp [Instr.indexAt, asIntOf, run_underlying hs, sizeB_run hz, addr_add, hb.1, h2]
          · cases hd'
        · cases h
      · -- an own row of own rows
        rename_i et f e' ver l hrow
        split at h
        · rename_i hz
          simp only [Except.ok.injEq, Prod.mk.injEq] at h
          obtain ⟨rfl, rfl⟩ := h
          obtain ⟨hβ, rfl, _⟩ := hx
          obtain ⟨_, m, ls, hown, _, hl, hm, _⟩ := hR.blocks β _ hrow
          obtain ⟨d, hd', rfl⟩ := pushAll_one hp
          simp only [evs, List.map_cons, List.map_nil, Atom.ev_of_get hl, Atom.ev_of_get hn, rowsDat, Prim.ev, List.length_map] at hd'
          split at hd'
          · rename_i hb
            rcases hown.2 with ⟨_, h0⟩ | ⟨g, cap', cur, hsl, _, hheap, _, _, _, htake⟩
            · omega
            refine ⟨.pointer (some ⟨g, n.toNat * 1, none⟩), ?_, hβ, g, m, cap', n, hsl, Atom.get_append hn, hb.1, by omega, rfl⟩
            rw [hsl]
            have h2 : n < (m : Int) := by omega
            simp [Instr.indexAt, asIntOf, run_underlying hs, sizeB_run hz, addr_add, hb.1, h2]
          · cases hd'
        · cases h
      · cases h
    · cases h
  · rename_i len e k ix hs
    split at h
    · rename_i j sz hj hz
      have := rd_nat hi hj
      subst this
      split at h
      · rename_i hlt
        obtain ⟨q, hq, h⟩ := bind_ok h
        simp only [Except.ok.injEq, Prod.mk.injEq] at h
        obtain ⟨rfl, rfl⟩ := h
        obtain ⟨b, o, rfl, hq'⟩ := ptrAdd_ok hq hx
        simp only [pushAll, Option.some.injEq] at hp
        subst hp
        refine ⟨_, ?_, hq'⟩
        simp [Instr.indexAt, asIntOf, run_underlying hs, sizeB_run hz, addr_add, Instr.sureAddr]
        intro h3; omega
      · cases h
    · cases h
  · cases h

theorem lopLen_ok {t : TypeId} {x v : SV} {ps : List Push} {vx : Value} {ρ' : List D} {ty : TypeId} {ats : Array TypeId} (h : lopLen P S t x = .ok (v, ps)) (hR : R X M w0 S μ ρ a w) (hat : ats[0]? = some t)
    (hx : SVR w (Fz X S.heap μ w) S.heap.length μ ρ x vx) (hp : pushAll ps ρ = some ρ') :
    ∃ u, (Builtin.len_ ats ty #[vx]).run P w = .ok u w ∧ SVR w (Fz X S.heap μ w) S.heap.length μ ρ' v u := by
  have key : ∀ (e : TypeId) (l : Atom) (n : Nat) (ds : List D), P.underlying t = some (.slice e) → l.get ρ = some (.lst ds) → ds.length = n → (∃ a cap, vx = .slice a n cap) → pushAll [(Prim.len, [l])] ρ = some ρ' →
      ∃ u, (Builtin.len_ ats ty #[vx]).run P w = .ok u w ∧ SVR w (Fz X S.heap μ w) S.heap.length μ ρ' (bdat (.int .i64) (.v S.n)) u := by
    intro e l n ds hs hl hn ⟨ad, cap, hv⟩ hp
    subst hv
    obtain ⟨d, hd, rfl⟩ := pushAll_one hp
    simp only [evs, List.map_cons, List.map_nil, Atom.ev_of_get hl, Prim.ev, Option.some.injEq] at hd
    subst hd
    refine ⟨.int .i64 n, ?_, mk_int (by rw [← hn]; exact get_new hR.len)⟩
    simp [Builtin.len_, hat, run_underlying hs, goInt]
  have frozen : ∀ (ct : CT) (l : Atom), (∀ b, ct ≠ .b b) → SVR w (Fz X S.heap μ w) S.heap.length μ ρ (.c (.s (.dat ct l))) vx → ∃ ds n, l.get ρ = some (.lst ds) ∧ ds.length = n ∧ ∃ a cap, vx = .slice a n cap := by
    intro ct l hct ⟨d, hl, hd⟩
    obtain ⟨ls, rfl, hd2⟩ := rowRd_sl hd hct
    rcases hd2 with ⟨⟨a, cap, rfl, _⟩, rfl⟩ | ⟨b, off, cap, xs, rfl, _⟩
    · exact ⟨_, 0, hl, rfl, _, _, rfl⟩
    · exact ⟨_, _, hl, by simp, _, _, rfl⟩
  unfold lopLen at h
  split at h
  · rename_i e et l hs
    simp only [Except.ok.injEq, Prod.mk.injEq] at h
    obtain ⟨rfl, rfl⟩ := h
    obtain ⟨ds, n, h1, h2, h3⟩ := frozen _ l (by simp) hx
    exact key e l n ds hs h1 h2 h3 hp
  · rename_i e et l hs
    simp only [Except.ok.injEq, Prod.mk.injEq] at h
    obtain ⟨rfl, rfl⟩ := h
    obtain ⟨ds, n, h1, h2, h3⟩ := frozen _ l (by simp) hx
    exact key e l n ds hs h1 h2 h3 hp
  · rename_i e β hs
    split at h
    · rename_i rt e' l hrow
      simp only [Except.ok.injEq, Prod.mk.injEq] at h
      obtain ⟨rfl, rfl⟩ := h
      obtain ⟨hβ, rfl, _⟩ := hx
      obtain ⟨_, m, xs, ls, hown, _, hl, hm, hrd⟩ := hR.blocks β _ hrow
      refine key e l m _ hs hl (by simp [hm]) ?_ hp
      rcases hown.2 with ⟨h1, h0⟩ | ⟨g, cap', cur, hsl, _⟩
      · subst h0; exact ⟨_, _, h1⟩
      · exact ⟨_, _, hsl⟩
    · rename_i et f e' ver l hrow
      simp only [Except.ok.injEq, Prod.mk.injEq] at h
      obtain ⟨rfl, rfl⟩ := h
      obtain ⟨hβ, rfl, _⟩ := hx
      obtain ⟨_, m, ls, hown, _, hl, hm, _⟩ := hR.blocks β _ hrow
      exact key e l m _ hs hl (by simp [hm]) (ownsRow_slice hown) hp
    · cases h
  · rename_i e hs
    simp only [Except.ok.injEq, Prod.mk.injEq] at h
    obtain ⟨rfl, rfl⟩ := h
    have hx : vx = .slice none 0 0 := hx
    subst hx
    refine ⟨.int .i64 0, ?_, mk_int rfl⟩
    simp [Builtin.len_, hat, run_underlying hs, goInt]
  · cases h

end

section
variable {P : Program} {w : World} {F : Nat → Prop} {hl : Nat} {μ : Mu} {ρ : List D}

/-! ### Composites -/
theorem foldl_fill (off : Nat) : ∀ (vs : List Value) (k : Nat) (arr : Array Value), off + k + vs.length ≤ arr.size →
    ((vs.zipIdx k).foldl (fun (cs : Array Value) (x : Value × Nat) => cs.setIfInBounds (off + x.2) x.1) arr).toList = arr.toList.take (off + k) ++ vs ++ arr.toList.drop (off + k + vs.length)
  | [], k, arr, _ => by simp
  | v :: vs, k, arr, h => by
    simp only [List.length_cons] at h
    rw [List.zipIdx_cons, List.foldl_cons, foldl_fill off vs (k + 1) _ (by simp; omega)]
    have h1 : off + k < arr.toList.length := by simp; omega
    have h2 : off + k < (arr.toList.set (off + k) v).length := by simpa using h1
    simp only [Array.toList_setIfInBounds]
    rw [show off + (k + 1) = off + k + 1 from rfl, List.take_succ_eq_append_getElem h2, List.getElem_set_self, List.take_set_of_le (Nat.le_refl _), List.drop_set_of_lt (by omega)]
    rw [show off + k + 1 + vs.length = off + k + (v :: vs).length from by simp; omega]
    simp

theorem CVR_one {c : CV} {v : Value} (hp : plainCV c = true) (h : CVR w F hl μ ρ c v) : v.oneCell' = true := by
  have sl : ∀ (rr : List Value → List (List D) → Prop) (ag : Bool) (d : D), RdSl w F rr ag v d → v.oneCell' = true := by
    rintro rr ag d ⟨ls, _, ⟨⟨a, cap, rfl, _⟩, _⟩ | ⟨b, off, cap, xs, rfl, _⟩⟩ <;> rfl
  cases c with
  | fn f caps => obtain ⟨cs, rfl, _⟩ := h; rfl
  | s c =>
    cases c with
    | undef => simp [plainCV] at hp
    | nils => simp only [CVR, CVR0] at h; subst h; rfl
    | dat t x =>
      obtain ⟨d, _, hd⟩ := h
      cases t with
      | b t => cases t <;> (obtain ⟨n, rfl, _⟩ := hd; rfl)
      | s1 e => exact sl _ _ _ hd
      | s2 e => exact sl _ _ _ hd
    | own β => obtain ⟨_, rfl, a, l, c, e⟩ := h; rw [e]; rfl
    | vptr β off => obtain ⟨_, b, _, rfl⟩ := h; rfl
    | eptr β i sz off => obtain ⟨_, b, _, _, _, _, _, _, _, rfl⟩ := h; rfl
    | rref β ver i => obtain ⟨_, l, n, _, _, _, _, a, len, cap, rfl⟩ := h; rfl
    | fcel cs off => obtain ⟨b, o, rfl, _⟩ := h; rfl

theorem cells_one {v : Value} (h : v.oneCell' = true) : v.cells = #[v] := by cases v <;> first | rfl | (simp [Value.oneCell'] at h; done)

theorem svCells_ok {s : SV} {ag : Bool} {cs : List CV} {v : Value} (h : svCells s = some (ag, cs)) (hp : cs.all plainCV = true) (hs : SVR w F hl μ ρ s v) : CVRs w F hl μ ρ cs v.cells.toList := by
  unfold svCells at h
  split at h <;> simp only [Option.some.injEq, Prod.mk.injEq, reduceCtorEq] at h
  · obtain ⟨rfl, rfl⟩ := h
    rw [cells_one (CVR_one (by simpa using hp) hs)]
    exact ⟨hs, trivial⟩
  · obtain ⟨rfl, rfl⟩ := h
    obtain ⟨arr, rfl, hc⟩ := hs
    exact hc

theorem CVRs_one {cs : List CV} {vs : List Value} (hp : cs.all plainCV = true) (h : CVRs w F hl μ ρ cs vs) : ∀ v ∈ vs, v.oneCell' = true := by
  induction cs generalizing vs with
  | nil => cases vs with | nil => simp | cons _ _ => exact h.elim
  | cons c cs ih =>
    cases vs with
    | nil => exact h.elim
    | cons u us =>
      simp only [List.all_cons, Bool.and_eq_true] at hp
      intro v hv
      rcases List.mem_cons.1 hv with rfl | hv
      · exact CVR_one hp.1 h.1
      · exact ih hp.2 h.2 v hv

/-- Parts beside their values. -/
def PartsR (w : World) (F : Nat → Prop) (hl : Nat) (μ : Mu) (ρ : List D) : List (Nat × SV) → List (Nat × Value) → Prop
  | [], [] => True
  | (i, s) :: r, (j, v) :: q => i = j ∧ SVR w F hl μ ρ s v ∧ PartsR w F hl μ ρ r q
  | _, _ => False

theorem fillS_ok {place : Nat → Option (Nat × Nat)} : ∀ {parts : List (Nat × SV)} {vals : List (Nat × Value)} {cs cs' : List CV} {arr : Array Value}, fillS place cs parts = .ok cs' → CVRs w F hl μ ρ cs arr.toList →
    PartsR w F hl μ ρ parts vals → ∃ arr', Instr.fill place arr vals = some arr' ∧ CVRs w F hl μ ρ cs' arr'.toList
  | [], [], cs, cs', arr, h, hc, _ => by simp only [fillS, Except.ok.injEq] at h; subst h; exact ⟨arr, rfl, hc⟩
  | (i, s) :: r, (j, v) :: q, cs, cs', arr, h, hc, ⟨hij, hs, hr⟩ => by
    subst hij
    simp only [fillS] at h
    split at h
    · rename_i off sz ag vs hpl hcl
      split at h
      · rename_i hlen
        have hv := svCells_ok hcl hlen.2.2 hs
        have hvl : v.cells.size = sz := by have := hv.length; simp at this; omega
        have hcl' : cs.length = arr.size := by have := hc.length; simpa using this
        have hsp : (v.cells.zipIdx.foldl (fun (cs : Array Value) (x : Value × Nat) => cs.setIfInBounds (off + x.2) x.1) arr).toList = arr.toList.take off ++ v.cells.toList ++ arr.toList.drop (off + vs.length) := by
          have e := foldl_fill off v.cells.toList 0 arr (by have := hv.length; simp at this ⊢; omega)
          rw [← Array.foldl_toList, Array.toList_zipIdx]
          rw [e]
          have := hv.length
          simp at this ⊢
          rw [this]
        have hc' : CVRs w F hl μ ρ (cs.take off ++ vs ++ cs.drop (off + vs.length)) (v.cells.zipIdx.foldl (fun (cs : Array Value) (x : Value × Nat) => cs.setIfInBounds (off + x.2) x.1) arr).toList := by
          rw [hsp]
          exact ((hc.take off).append hv).append (hc.drop _)
        obtain ⟨arr', h1, h2⟩ := fillS_ok h hc' hr
        refine ⟨arr', ?_, h2⟩
        simp only [Instr.fill, hpl]
        rw [if_neg]
        · exact h1
        · have := hlen.2.1
          have := hv.length
          simp at this ⊢
          omega
      · cases h
    · cases h

theorem lopBuild_ok {t : TypeId} {parts : List (Nat × SV)} {vals : Array (Nat × Value)} {v : SV} {ps : List Push} (h : lopBuild P t parts = .ok (v, ps)) (hp : PartsR w F hl μ ρ parts vals.toList) :
    ps = [] ∧ ∃ u, (Instr.build t vals).run P w = .ok u w ∧ SVR w F hl μ ρ v u := by
  unfold lopBuild at h
  obtain ⟨i, hi0, h1⟩ := bind_ok h
  obtain ⟨z, hz0, h2⟩ := bind_ok h1
  obtain ⟨zs, hzs0, h3⟩ := bind_ok h2
  have hi := need_ok hi0
  have hz := need_ok hz0
  have hzs := litCells_ok (w := w) (F := F) (hl := hl) (μ := μ) (ρ := ρ) (need_ok hzs0)
  clear h h1 h2 hi0 hz0 hzs0
  split at h3
  · rename_i fs hs
    obtain ⟨places, hpl, h4⟩ := bind_ok h3
    obtain ⟨cs, hcs, h5⟩ := bind_ok h4
    simp only [Except.ok.injEq, Prod.mk.injEq] at h5
    obtain ⟨rfl, rfl⟩ := h5
    obtain ⟨arr', hf, hc⟩ := fillS_ok hcs hzs hp
    refine ⟨rfl, .agg arr', run_build w t vals arr' ?_, arr', rfl, hc⟩
    simp only [Program.built, hi, hs, hz, need_ok hpl]
    exact hf
  · rename_i n e hs
    obtain ⟨ie, hie, h4⟩ := bind_ok h3
    obtain ⟨cs, hcs, h5⟩ := bind_ok h4
    simp only [Except.ok.injEq, Prod.mk.injEq] at h5
    obtain ⟨rfl, rfl⟩ := h5
    obtain ⟨arr', hf, hc⟩ := fillS_ok hcs hzs hp
    refine ⟨rfl, .agg arr', run_build w t vals arr' ?_, arr', rfl, hc⟩
    simp only [Program.built, hi, hs, hz, need_ok hie]
    exact hf
  · cases h3

end
end Vs

namespace Vs
open Go Go.RowKit

theorem pushAll_append : ∀ {p q : List Push} {ρ : List D}, pushAll (p ++ q) ρ = (pushAll p ρ).bind (pushAll q)
  | [], q, ρ => rfl
  | (f, xs) :: p, q, ρ => by
    simp only [List.cons_append, pushAll]
    cases f.ev (evs ρ xs) with
    | none => rfl
    | some d => exact pushAll_append

theorem RdRow.dropN {α : Type} {Q : α → Value → D → Prop} {ts : List α} : ∀ {ls : List (List D)} {xs : List Value} (k : Nat), k ≤ ls.length → RdRow Q ts xs ls → RdRow Q ts (xs.drop (k * ts.length)) (ls.drop k)
  | ls, xs, 0, _, h => by simpa using h
  | [], _, k + 1, hk, _ => by simp at hk
  | l :: ls, xs, k + 1, hk, ⟨c, r, e, a, b⟩ => by
    subst e
    have hl := a.length.1
    rw [List.drop_succ_cons, Nat.add_mul, Nat.one_mul, Nat.add_comm, ← List.drop_drop, ← hl, List.drop_left, hl]
    exact RdRow.dropN k (by simpa using hk) b

theorem RdRow.takeN {α : Type} {Q : α → Value → D → Prop} {ts : List α} : ∀ {ls : List (List D)} {xs : List Value} (k : Nat), k ≤ ls.length → RdRow Q ts xs ls → RdRow Q ts (xs.take (k * ts.length)) (ls.take k)
  | ls, xs, 0, _, h => by simp [RdRow]
  | [], _, k + 1, hk, _ => by simp at hk
  | l :: ls, xs, k + 1, hk, ⟨c, r, e, a, b⟩ => by
    subst e
    have hl := a.length.1
    rw [List.take_succ_cons]
    refine ⟨c, r.take (k * ts.length), ?_, a, RdRow.takeN k (by simpa using hk) b⟩
    rw [show (k + 1) * ts.length = c.length + k * ts.length from by rw [hl, Nat.add_mul]; omega, List.take_length_add_append]

theorem rowRd_part {t : CT} {w : World} {F : Nat → Prop} {xs : List Value} {ls : List (List D)} {a b : Nat} (hab : a ≤ b) (hb : b ≤ ls.length) (h : rowRd w F t xs ls) :
    rowRd w F t ((xs.take (b * rowSz t)).drop (a * rowSz t)) ((ls.take b).drop a) := by
  cases t with
  | b t => exact h.elim
  | s1 e => exact RdRow.dropN a (by simp; omega) (RdRow.takeN b hb h)
  | s2 e => exact RdRow.dropN a (by simp; omega) (RdRow.takeN b hb h)

section
variable {P : Program} {w : World}

theorem run_sliceBounds {len cap a b : Nat} {lo hi : Option Value} (hlo : match lo with | some v => v = .int .i64 a | none => a = 0) (hhi : match hi with | some v => v = .int .i64 b | none => b = len) (hab : a ≤ b) (hb : b ≤ cap) :
    (Instr.sliceBounds true len cap lo hi none).run P w = .ok (a, b, cap) w := by
  cases lo with
  | none =>
    simp only at hlo
    subst hlo
    cases hi with
    | none => simp only at hhi; subst hhi; simp [Instr.sliceBounds]
    | some v =>
      simp only at hhi
      subst hhi
      simp [Instr.sliceBounds, Instr.sliceBound, asIntOf, hb]
  | some u =>
    simp only at hlo
    subst hlo
    cases hi with
    | none => simp only at hhi; subst hhi; simp [Instr.sliceBounds, Instr.sliceBound, asIntOf, hab]
    | some v =>
      simp only at hhi
      subst hhi
      simp [Instr.sliceBounds, Instr.sliceBound, asIntOf, hab, hb]

/-- A part of what reads. -/
theorem slice_part {t e : TypeId} {ct : CT} {F : Nat → Prop} {v : Value} {ds : List D} {a b : Nat} {lo hi : Option Value} (ht : P.underlying t = some (.slice e)) (hz : sizeB P e = some (rowSz ct)) (hct : isSl ct = true) (hv : RdC w F ct v (.lst ds))
    (hlo : match lo with | some v => v = .int .i64 a | none => a = 0) (hhi : match hi with | some v => v = .int .i64 b | none => b = ds.length) (hab : a ≤ b) (hb : b ≤ ds.length) :
    ∃ u, (Instr.sliceAt t v lo hi none).run P w = .ok u w ∧ RdC w F ct u (.lst ((ds.take b).drop a)) := by
  have hne : ∀ b, ct ≠ .b b := fun b e => by subst e; cases hct
  have back : ∀ {u d}, RdSl w F (rowRd w F ct) (rowAgg ct) u d → RdC w F ct u d := by
    intro u d h
    cases ct with
    | b t => exact absurd rfl (hne t)
    | s1 e => exact h
    | s2 e => exact h
  obtain ⟨ls, hd, hvv⟩ := rowRd_sl hv hne
  simp only [D.lst.injEq] at hd
  subst hd
  simp only [List.length_map] at hhi hb
  rcases hvv with ⟨⟨ad, cap, rfl, hcap0⟩, rfl⟩ | ⟨g, off, cap, xs, rfl, hcap, hF, hc, hr⟩
  · simp only [List.length_nil, Nat.le_zero] at hb
    subst hb
    obtain rfl := Nat.le_zero.1 hab
    have h1 := run_sliceBounds (P := P) (w := w) (len := 0) (cap := cap) hlo hhi (Nat.le_refl _) (Nat.zero_le _)
    cases ad with
    | none =>
      obtain rfl := hcap0 rfl
      refine ⟨.slice none 0 0, ?_, back ⟨[], rfl, .inl ⟨⟨none, 0, rfl, fun _ => rfl⟩, rfl⟩⟩⟩
      simp [Instr.sliceAt, Instr.slice, run_underlying ht, h1, sizeB_run hz]
    | some ad =>
      by_cases hm : cap = 0
      · refine ⟨.slice (some ad) 0 cap, ?_, back ⟨[], rfl, .inl ⟨⟨some ad, cap, rfl, fun h => by cases h⟩, rfl⟩⟩⟩
        subst hm
        simp [Instr.sliceAt, Instr.slice, run_underlying ht, h1, sizeB_run hz]
      · refine ⟨.slice (some (ad.add 0)) 0 cap, ?_, back ⟨[], rfl, .inl ⟨⟨some (ad.add 0), cap, rfl, fun h => by cases h⟩, rfl⟩⟩⟩
        simp [Instr.sliceAt, Instr.slice, run_underlying ht, h1, sizeB_run hz, hm]
  · have h1 := run_sliceBounds (P := P) (w := w) (len := ls.length) (cap := cap) hlo hhi hab (Nat.le_trans hb hcap)
    have hlen : ((ls.take b).drop a).length = b - a := by simp; omega
    have hdat : ((ls.map (unflat (rowAgg ct))).take b).drop a = ((ls.take b).drop a).map (unflat (rowAgg ct)) := by simp
    by_cases hm : cap = a
    · have hba : b = a := by omega
      refine ⟨.slice (some ⟨g, off, none⟩) (b - a) (cap - a), ?_, back ⟨(ls.take b).drop a, by rw [hdat], .inr ⟨g, off, cap - a, [], by rw [hlen], by omega, hF, by simp, ?_⟩⟩⟩
      · subst hm
        simp [Instr.sliceAt, Instr.slice, run_underlying ht, h1, sizeB_run hz]
      · have he : (ls.take b).drop a = [] := List.eq_nil_of_length_eq_zero (by omega)
        rw [he]
        cases ct with
        | b t => exact absurd rfl (hne t)
        | s1 e => rfl
        | s2 e => rfl
    · refine ⟨.slice (some ⟨g, off + a * rowSz ct, none⟩) (b - a) (cap - a), ?_, back ⟨(ls.take b).drop a, by rw [hdat], .inr ⟨g, off + a * rowSz ct, cap - a, _, by rw [hlen], by omega, hF, fun j u hj => ?_, rowRd_part hab hb hr⟩⟩⟩
      · simp [Instr.sliceAt, Instr.slice, run_underlying ht, h1, sizeB_run hz, hm, addr_add]
      · rw [List.getElem?_drop, List.getElem?_take] at hj
        split at hj
        · rw [Nat.add_assoc]; exact hc _ _ hj
        · cases hj
end

section
variable {P : Program} {X : Nat → Prop} {M : Hand} {w0 w : World} {S : SS} {μ : Mu} {ρ : List D} {a : Act}

def OptR {α β : Type} (R : α → β → Prop) : Option α → Option β → Prop
  | some a, some b => R a b
  | none, none => True
  | _, _ => False

/-- The bounds of a part: what they reckon to. -/
theorem lopSlice_ok {F : Nat → Prop} {hl : Nat} {t : TypeId} {l : Atom} {ct : CT} {lo hi : Option SV} {v : SV} {ps : List Push} {vx : Value} {vlo vhi : Option Value} {ds : List D} {ρ' : List D}
    (h : lopSlice P ρ.length t l ct lo hi = .ok (v, ps)) (hl' : l.get ρ = some (.lst ds)) (hx : RdC w F ct vx (.lst ds))
    (hlo : OptR (SVR w F hl μ ρ) lo vlo) (hhi : OptR (SVR w F hl μ ρ) hi vhi)
    (hp : pushAll ps ρ = some ρ') : ∃ u, (Instr.sliceAt t vx vlo vhi none).run P w = .ok u w ∧ SVR w F hl μ ρ' v u := by
  unfold lopSlice at h
  split at h
  · rename_i e ht
    split at h
    · rename_i sz hz
      split at h
      · rename_i hc
        obtain ⟨rfl, hct⟩ := hc
        obtain ⟨⟨b, pb⟩, h1, h2⟩ := bind_ok h
        dsimp only at h2
        obtain ⟨x, h3, h4⟩ := bind_ok h2
        simp only [Except.ok.injEq, Prod.mk.injEq] at h4
        obtain ⟨rfl, rfl⟩ := h4
        -- the lower bound
        have hA : ∃ n, x.get ρ = some (.int n) ∧ (match vlo with | some u => u = .int .i64 n | none => n = 0) := by
          split at h3
          · simp only [Except.ok.injEq] at h3
            subst h3
            cases vlo with
            | none => exact ⟨0, rfl, rfl⟩
            | some u => exact hlo.elim
          · rename_i y
            simp only [Except.ok.injEq] at h3
            subst h3
            cases vlo with
            | none => exact hlo.elim
            | some u => obtain ⟨n, rfl, hn⟩ := rd_int hlo; exact ⟨n, hn, rfl⟩
          · cases h3
        obtain ⟨n, hn, hvn⟩ := hA
        have hB : ∃ m ρ1, pushAll pb ρ = some ρ1 ∧ b.get ρ1 = some (.int m) ∧ ρ1.length = ρ.length + pb.length ∧ (∃ σ, ρ1 = ρ ++ σ) ∧ (match vhi with | some u => u = .int .i64 m | none => m = ds.length) := by
          split at h1
          · simp only [Except.ok.injEq, Prod.mk.injEq] at h1
            obtain ⟨rfl, rfl⟩ := h1
            cases vhi with
            | none =>
              refine ⟨ds.length, ρ ++ [.int ds.length], ?_, get_new rfl, by simp, ⟨_, rfl⟩, rfl⟩
              simp [pushAll, evs, Atom.ev_of_get hl', Prim.ev]
            | some u => exact hhi.elim
          · rename_i y
            simp only [Except.ok.injEq, Prod.mk.injEq] at h1
            obtain ⟨rfl, rfl⟩ := h1
            cases vhi with
            | none => exact hhi.elim
            | some u => obtain ⟨m, rfl, hm⟩ := rd_int hhi; exact ⟨m, ρ, rfl, hm, rfl, ⟨[], by simp⟩, rfl⟩
          · cases h1
        obtain ⟨m, ρ1, hp1, hm, hlen1, ⟨σ, rfl⟩, hvm⟩ := hB
        rw [pushAll_append, hp1] at hp
        simp only [Option.bind_some] at hp
        obtain ⟨d, hd, rfl⟩ := pushAll_one hp
        simp only [evs, List.map_cons, List.map_nil, Atom.ev_of_get (Atom.get_append hl'), Atom.ev_of_get (Atom.get_append (σ := σ) hn), Atom.ev_of_get hm, Prim.ev] at hd
        split at hd
        · rename_i hb
          simp only [Option.some.injEq] at hd
          subst hd
          obtain ⟨u, hu, hr⟩ := slice_part (P := P) (w := w) (a := n.toNat) (b := m.toNat) (lo := vlo) (hi := vhi) ht hz hct hx
            (by cases vlo with
              | none => simp only at hvn ⊢; subst hvn; rfl
              | some u => simp only at hvn ⊢; rw [hvn, Int.toNat_of_nonneg hb.1])
            (by cases vhi with
              | none => simp only at hvm ⊢; subst hvm; simp
              | some u => simp only at hvm ⊢; rw [hvm, Int.toNat_of_nonneg (Int.le_trans hb.1 hb.2.1)])
            (by omega) (by omega)
          exact ⟨u, hu, _, get_new hlen1, hr⟩
        · cases hd
      · cases h
    · cases h
  · cases h

end
end Vs

namespace Vs
open Go Go.RowKit

def extFn : Ext → Array Value → Sem Value
  | .sqrt => Extern.MathSqrt.sqrt
  | .f64bits => Extern.MathFloatBits.float64bits
  | .f64frombits => Extern.MathFloatBits.float64frombits
  | .f32bits => Extern.MathFloatBits.float32bits
  | .f32frombits => Extern.MathFloatBits.float32frombits

/-- The functions of the library that the executor takes for known are what the model says. -/
def ExtOk (P : Program) (X : FuncId → Option Ext) : Prop :=
  ∀ f e, X f = some e → ∀ args w, (callFunc f args).run P w = ((extFn e args).run P w).andThen fun v w' => .ok (.value v) w'

section
variable {P : Program} {w : World} {F : Nat → Prop} {hl : Nat} {μ : Mu} {ρ : List D}

theorem gd_get {g : Atom} {want : Bool} {s : SV} {v : Value} (h : SVR w F hl μ ρ (.gd g want s) v) (hg : g.get ρ = some (.bool want)) : SVR w F hl μ ρ s v := h.2.1 hg

theorem ev_bool {x : Atom} {b : Bool} (h : x.ev ρ = .bool b) : x.get ρ = some (.bool b) := by
  cases x with
  | v i =>
    simp only [Atom.ev, List.getD_eq_getElem?_getD] at h
    simp only [Atom.get]
    cases hi : ρ[i]? with
    | none => simp [hi] at h
    | some d => simp [hi] at h; rw [h]
  | c d => simp only [Atom.ev] at h; simp [Atom.get, h]

theorem guard_get {x : Atom} {want : Bool} (h : Guard.ok ρ (some (x, want)) = true) : x.get ρ = some (.bool want) := by
  simp only [Guard.ok] at h
  split at h
  · rename_i b hb
    have : b = want := by simpa using h
    subst this
    exact ev_bool hb
  · cases h

theorem strip_ok {g : Guard} {s : SV} {v : Value} (hg : g.ok ρ = true) (h : SVR w F hl μ ρ s v) : SVR w F hl μ ρ (strip g s) v := by
  unfold strip
  split
  · split
    · rename_i i want j want' s' e
      obtain ⟨rfl, rfl⟩ := e
      exact gd_get h (guard_get hg)
    · exact h
  · exact h

theorem getSV_ok {S : SS} {a : Act} {o : Operand} {s : SV} (h : getSV S o = .ok s) (hS : ∀ (i : Nat) s, S.slots[i]? = some s → SVR w F hl μ ρ s (a.tmps.getD i Go.undef)) : SVR w F hl μ ρ s (a.eval o) := by
  unfold getSV at h
  split at h
  · exact hS _ _ (need_ok h)
  · exact litSV_ok (need_ok h)
  · simp only [Except.ok.injEq] at h
    subst h
    exact ⟨#[], rfl, rfl, by intro j c u h; simp at h⟩
  · cases h

theorem lopPick_inv {n : Nat} {c A B v : SV} {ps : List Push}
    (h : (match c, A, B with
      | .c (.s (.dat (.b .bool) x)), .c (.s (.dat (.b t) y)), .c (.s (.dat (.b t') z)) => if t = t' then .ok (bdat t (.v n), [(.pick, [x, y, z])]) else .error "pick types"
      | _, _, _ => .error "pick" : Res Loc) = .ok (v, ps)) :
    ∃ x t y z, c = .c (.s (.dat (.b .bool) x)) ∧ A = .c (.s (.dat (.b t) y)) ∧ B = .c (.s (.dat (.b t) z)) ∧ v = bdat t (.v n) ∧ ps = [(.pick, [x, y, z])] := by
  split at h
  · split at h
    · rename_i e
      subst e
      simp only [Except.ok.injEq, Prod.mk.injEq] at h
      exact ⟨_, _, _, _, rfl, rfl, rfl, h.1.symm, h.2.symm⟩
    · cases h
  · cases h

/-- What a choice may take from under a guard. -/
theorem pick_arm {c s A : SV} {x : Atom} {want : Bool} {v : Value} (hA : (match c, s with | .c (.s (.dat _ (.v i))), .gd (.v j) w' s' => if w' = want then (if i = j then s' else s) else s | _, _ => s) = A)
    (hc : c = .c (.s (.dat (.b .bool) x))) (hx : x.get ρ = some (.bool want)) (hs : SVR w F hl μ ρ s v) : SVR w F hl μ ρ A v := by
  subst hc
  rw [← hA]
  split
  · rename_i t i j w' s' e
    simp only [SV.c.injEq, CV.s.injEq, CV0.dat.injEq] at e
    obtain ⟨_, rfl⟩ := e
    split
    · rename_i hw
      subst hw
      split
      · rename_i hij
        subst hij
        exact gd_get hs hx
      · exact hs
    · exact hs
  · exact hs

theorem lopPick_ok {c sa sb v : SV} {ps : List Push} {vc va vb : Value} {ρ' : List D} (h : lopPick ρ.length c sa sb = .ok (v, ps)) (hc : SVR w F hl μ ρ c vc) (ha : SVR w F hl μ ρ sa va) (hb : SVR w F hl μ ρ sb vb)
    (hp : pushAll ps ρ = some ρ') : ∃ b, vc = .bool b ∧ SVR w F hl μ ρ' v (if b then va else vb) := by
  unfold lopPick at h
  dsimp only at h
  obtain ⟨x, t, y, z, rfl, hA, hB, rfl, rfl⟩ := lopPick_inv h
  obtain ⟨b, rfl, hx⟩ := rd_bool hc
  obtain ⟨d, hd, rfl⟩ := pushAll_one hp
  simp only [evs, List.map_cons, List.map_nil, Atom.ev_of_get hx, Prim.ev, Option.some.injEq] at hd
  refine ⟨b, rfl, ?_⟩
  cases b with
  | true =>
    obtain ⟨d', hy, hr⟩ := pick_arm hA rfl hx ha
    simp only [if_true] at hd ⊢
    rw [Atom.ev_of_get hy] at hd
    subst hd
    exact ⟨_, get_new rfl, hr⟩
  | false =>
    obtain ⟨d', hz, hr⟩ := pick_arm hB rfl hx hb
    simp only [Bool.false_eq_true, if_false] at hd ⊢
    rw [Atom.ev_of_get hz] at hd
    subst hd
    exact ⟨_, get_new rfl, hr⟩

theorem run_sqrt (x : Nat) : ∃ c w', (Extern.MathSqrt.sqrt #[.float .f64 x]).run P w = .ok (.float .f64 c) w' ∧ Quiet w w' ∧ canon .f64 c = fsqrt .f64 (canon .f64 x) := by
  unfold fsqrt
  rw [sqrt_canon]
  have e : Extern.MathSqrt.sqrt #[.float .f64 x] = (match FloatKind.f64.format.sqrt x with | some r => pure (.float .f64 r) | none => do pure (.float .f64 (← choose (.nanBits .f64 x x)))) := rfl
  rw [e]
  cases FloatKind.f64.format.sqrt x with
  | some r => exact ⟨r, w, rfl, Quiet.refl w, rfl⟩
  | none =>
    refine ⟨(Question.nanBits .f64 x x).cut (w.tape w.drawn (.nanBits .f64 x x)), { w with drawn := w.drawn + 1 }, ?_, Quiet.drew w, canon_nan (nanBits_cut .f64 x x _)⟩
    simp [Question.forced]

theorem lopExt_ok {e : Ext} {xs : List SV} {v : SV} {ps : List Push} {vs : List Value} {ρ' : List D} (h : lopExt ρ.length e xs = .ok (v, ps))
    (hl' : xs.length = vs.length) (hx : ∀ (j : Nat) s u, xs[j]? = some s → vs[j]? = some u → SVR w F hl μ ρ s u) (hp : pushAll ps ρ = some ρ') :
    ∃ u w', (extFn e vs.toArray).run P w = .ok u w' ∧ Quiet w w' ∧ SVR w F hl μ ρ' v u := by
  unfold lopExt at h
  split at h
  all_goals first
    | (cases h; done)
    | skip
  all_goals
    simp only [Except.ok.injEq, Prod.mk.injEq] at h
    obtain ⟨rfl, rfl⟩ := h
    obtain ⟨d, hd, rfl⟩ := pushAll_one hp
    obtain ⟨u, rfl⟩ : ∃ u, vs = [u] := List.length_eq_one_iff.1 (by simpa using hl'.symm)
    have hu := hx 0 _ u rfl rfl
  · obtain ⟨n, rfl, hn⟩ := rd_flt hu
    simp only [evs, List.map_cons, List.map_nil, Atom.ev_of_get hn, Prim.ev, Option.some.injEq] at hd
    subst hd
    obtain ⟨c, w', e, q, hc⟩ := run_sqrt (P := P) (w := w) n
    exact ⟨_, w', e, q, mk_flt (by rw [hc]; exact get_new rfl)⟩
  · obtain ⟨n, rfl, hn⟩ := rd_flt hu
    simp only [evs, List.map_cons, List.map_nil, Atom.ev_of_get hn, Prim.ev] at hd
    split at hd
    · cases hd
    · rename_i hnan
      simp only [Option.some.injEq] at hd
      subst hd
      rw [isnan_canon] at hnan
      refine ⟨.int .u64 n, w, rfl, Quiet.refl w, mk_int ?_⟩
      rw [canon_of (by simpa using hnan)]
      exact get_new rfl
  · obtain ⟨n, rfl, hn⟩ := rd_flt hu
    simp only [evs, List.map_cons, List.map_nil, Atom.ev_of_get hn, Prim.ev] at hd
    split at hd
    · cases hd
    · rename_i hnan
      simp only [Option.some.injEq] at hd
      subst hd
      rw [isnan_canon] at hnan
      refine ⟨.int .u32 n, w, rfl, Quiet.refl w, mk_int ?_⟩
      rw [canon_of (by simpa using hnan)]
      exact get_new rfl
  · obtain ⟨n, rfl, hn⟩ := rd_int hu
    simp only [evs, List.map_cons, List.map_nil, Atom.ev_of_get hn, Prim.ev, Option.some.injEq] at hd
    subst hd
    exact ⟨.float .f64 n.toNat, w, rfl, Quiet.refl w, mk_flt (get_new rfl)⟩
  · obtain ⟨n, rfl, hn⟩ := rd_int hu
    simp only [evs, List.map_cons, List.map_nil, Atom.ev_of_get hn, Prim.ev, Option.some.injEq] at hd
    subst hd
    exact ⟨.float .f32 n.toNat, w, rfl, Quiet.refl w, mk_flt (get_new rfl)⟩

end

section
variable {P : Program} {X : Nat → Prop} {M : Hand} {w0 w : World} {S : SS} {μ : Mu} {ρ : List D} {a : Act}

theorem getSVs_ok {g : Guard} (hg : g.ok ρ = true) (hS : ∀ (i : Nat) s, S.slots[i]? = some s → SVR w (Fz X S.heap μ w) S.heap.length μ ρ s (a.tmps.getD i Go.undef)) :
    ∀ {os : List Operand} {ss : List SV}, getSVs S g os = .ok ss → ss.length = os.length ∧ ∀ (j : Nat) s u, ss[j]? = some s → (os.map a.eval)[j]? = some u → SVR w (Fz X S.heap μ w) S.heap.length μ ρ s u
  | [], ss, h => by simp only [getSVs, Except.ok.injEq] at h; subst h; simp
  | o :: os, ss, h => by
    simp only [getSVs] at h
    obtain ⟨s, hs, h1⟩ := bind_ok h
    obtain ⟨l, hl, h2⟩ := bind_ok h1
    simp only [Except.ok.injEq] at h2
    subst h2
    obtain ⟨i1, i2⟩ := getSVs_ok hg hS hl
    refine ⟨by simp [i1], fun j s' u hj hu => ?_⟩
    cases j with
    | zero =>
      simp only [List.getElem?_cons_zero, Option.some.injEq, List.map_cons] at hj hu
      subst hj hu
      exact strip_ok hg (getSV_ok hs hS)
    | succ j => simp only [List.getElem?_cons_succ, List.map_cons] at hj hu; exact i2 j s' u hj hu

theorem svParts_ok {g : Guard} (hg : g.ok ρ = true) (hS : ∀ (i : Nat) s, S.slots[i]? = some s → SVR w (Fz X S.heap μ w) S.heap.length μ ρ s (a.tmps.getD i Go.undef)) :
    ∀ {os : List (Nat × Operand)} {ss : List (Nat × SV)}, svParts S g os = .ok ss → PartsR w (Fz X S.heap μ w) S.heap.length μ ρ ss (os.map fun (i, x) => (i, a.eval x))
  | [], ss, h => by simp only [svParts, Except.ok.injEq] at h; subst h; trivial
  | (i, o) :: os, ss, h => by
    simp only [svParts] at h
    obtain ⟨s, hs, h1⟩ := bind_ok h
    obtain ⟨l, hl, h2⟩ := bind_ok h1
    simp only [Except.ok.injEq] at h2
    subst h2
    exact ⟨rfl, strip_ok hg (getSV_ok hs hS), svParts_ok hg hS hl⟩

theorem capsOf_ok : ∀ {ss : List SV} {cs : List CV0}, capsOf ss = .ok cs → cs.length = ss.length ∧ ∀ (j : Nat) c, cs[j]? = some c → ss[j]? = some (.c (.s c))
  | [], cs, h => by simp only [capsOf, Except.ok.injEq] at h; subst h; simp
  | s :: ss, cs, h => by
    unfold capsOf at h
    split at h
    · rename_i heq; cases heq
    · rename_i c r heq
      simp only [List.cons.injEq] at heq
      obtain ⟨rfl, rfl⟩ := heq
      obtain ⟨l, h1, h2⟩ := bind_ok h
      simp only [Except.ok.injEq] at h2
      subst h2
      obtain ⟨i1, i2⟩ := capsOf_ok h1
      refine ⟨by simp [i1], fun j c' hj => ?_⟩
      cases j with
      | zero => simp only [List.getElem?_cons_zero, Option.some.injEq] at hj; subst hj; rfl
      | succ j => simp only [List.getElem?_cons_succ] at hj ⊢; exact i2 j c' hj
    · cases h

theorem lop_ok {XE : FuncId → Option Ext} {g : Guard} {o : Oper} {v : SV} {ps : List Push} {ρ' : List D} (hX : ExtOk P XE) (h : lop P XE S g o = .ok (v, ps)) (hR : R X M w0 S μ ρ a w) (hg : g.ok ρ = true)
    (hp : pushAll ps ρ = some ρ') : ∃ u w', (execOp a.eval o).run P w = .ok (.value u) w' ∧ Quiet w w' ∧ SVR w (Fz X S.heap μ w) S.heap.length μ ρ' v u := by
  have get : ∀ {x : Operand} {s : SV}, (do let a ← getSV S x; Except.ok (strip g a) : Res SV) = .ok s → SVR w (Fz X S.heap μ w) S.heap.length μ ρ s (a.eval x) := by
    intro x s hs
    obtain ⟨s', h1, h2⟩ := bind_ok hs
    simp only [Except.ok.injEq] at h2
    subst h2
    exact strip_ok hg (getSV_ok h1 hR.slots)
  have hn : S.n = ρ.length := hR.len.symm
  unfold lop at h
  dsimp only at h
  split at h
  · -- move
    rename_i x ho
    obtain ⟨s, hs, h1⟩ := bind_ok h
    simp only [Except.ok.injEq, Prod.mk.injEq] at h1
    obtain ⟨rfl, rfl⟩ := h1
    simp only [pushAll, Option.some.injEq] at hp
    subst hp
    exact ⟨_, w, by simp [execOp, ho], Quiet.refl w, get hs⟩
  · rename_i x ho
    obtain ⟨s, hs, h1⟩ := bind_ok h
    simp only [Except.ok.injEq, Prod.mk.injEq] at h1
    obtain ⟨rfl, rfl⟩ := h1
    simp only [pushAll, Option.some.injEq] at hp
    subst hp
    exact ⟨_, w, by simp [execOp, ho], Quiet.refl w, get hs⟩
  · -- pick
    rename_i c x y ho
    obtain ⟨sc, h1, h2⟩ := bind_ok h
    obtain ⟨sx, h3, h4⟩ := bind_ok h2
    obtain ⟨sy, h5, h6⟩ := bind_ok h4
    rw [hn] at h6
    obtain ⟨b, hb, hr⟩ := lopPick_ok h6 (get h1) (get h3) (get h5) hp
    exact ⟨_, w, by simp [execOp, ho, hb, asBool], Quiet.refl w, hr⟩
  · -- nilCheck
    rename_i x ho
    obtain ⟨s, hs, h1⟩ := bind_ok h
    obtain ⟨q, hq, h2⟩ := bind_ok h1
    simp only [Except.ok.injEq, Prod.mk.injEq] at h2
    obtain ⟨rfl, rfl⟩ := h2
    simp only [pushAll, Option.some.injEq] at hp
    subst hp
    obtain ⟨b, o', hv, hr⟩ := ptrAdd_ok hq (get hs)
    exact ⟨.pointer (some ⟨b, o', none⟩), w, by simp [execOp, ho, hv], Quiet.refl w, hr⟩
  · -- binOp
    rename_i op t x y t' ho
    obtain ⟨sx, h1, h2⟩ := bind_ok h
    obtain ⟨sy, h3, h4⟩ := bind_ok h2
    rw [hn] at h4
    obtain ⟨he, u, w', hu, q, hr⟩ := lopBin_ok (P := P) (t := t) h4 (get h1) (get h3) hp
    exact ⟨u, w', by simp [execOp, ho, he, hu], q, hr w⟩
  · -- unOp
    rename_i op t x ho
    obtain ⟨sx, h1, h2⟩ := bind_ok h
    have hx := get h1
    split at h2
    · rename_i y
      simp only [Except.ok.injEq, Prod.mk.injEq] at h2
      obtain ⟨rfl, rfl⟩ := h2
      obtain ⟨b, hb, hy⟩ := rd_bool hx
      obtain ⟨d, hd, rfl⟩ := pushAll_one hp
      simp only [evs, List.map_cons, List.map_nil, Atom.ev_of_get hy, Prim.ev, Option.some.injEq] at hd
      subst hd
      exact ⟨.bool !b, w, by simp [execOp, ho, hb, Op.unary], Quiet.refl w, mk_bool (get_new hR.len)⟩
    · rename_i k y
      simp only [Except.ok.injEq, Prod.mk.injEq] at h2
      obtain ⟨rfl, rfl⟩ := h2
      obtain ⟨b, hb, hy⟩ := rd_flt hx
      obtain ⟨d, hd, rfl⟩ := pushAll_one hp
      simp only [evs, List.map_cons, List.map_nil, Atom.ev_of_get hy, Prim.ev, Option.some.injEq] at hd
      subst hd
      exact ⟨.float k (Op.negFloat k b), w, by simp [execOp, ho, hb, Op.unary], Quiet.refl w, mk_flt (by rw [← canon_neg]; exact get_new hR.len)⟩
    · rename_i k y
      simp only [Except.ok.injEq, Prod.mk.injEq] at h2
      obtain ⟨rfl, rfl⟩ := h2
      obtain ⟨b, hb, hy⟩ := rd_int hx
      obtain ⟨d, hd, rfl⟩ := pushAll_one hp
      have e0 : (Atom.c (.int 0)).ev ρ = .int 0 := rfl
      simp only [evs, List.map_cons, List.map_nil, e0, Atom.ev_of_get hy, Prim.ev, iarith, Option.map_some, Option.some.injEq] at hd
      subst hd
      exact ⟨.int k (k.wrap (0 - b)), w, by simp [execOp, ho, hb, Op.unary, Op.intArith], Quiet.refl w, mk_int (get_new hR.len)⟩
    · cases h2
  · -- convert
    rename_i src dst x ho
    obtain ⟨sx, h1, h2⟩ := bind_ok h
    rw [hn] at h2
    obtain ⟨u, w', hu, q, hr⟩ := lopConv_ok h2 (get h1) hp
    exact ⟨u, w', by simp [execOp, ho, hu], q, hr w⟩
  · -- load
    rename_i t x ho
    obtain ⟨sx, h1, h2⟩ := bind_ok h
    obtain ⟨u, hu, hr⟩ := lopLoad_ok h2 hR (get h1) hp
    exact ⟨u, w, by simp [execOp, ho, hu], Quiet.refl w, hr⟩
  · rename_i s x f ho
    obtain ⟨sx, h1, h2⟩ := bind_ok h
    obtain ⟨rfl, u, hu, hr⟩ := lopFieldAddr_ok h2 (get h1)
    simp only [pushAll, Option.some.injEq] at hp
    subst hp
    exact ⟨u, w, by simp [execOp, ho, hu], Quiet.refl w, hr⟩
  · rename_i s x f ho
    obtain ⟨sx, h1, h2⟩ := bind_ok h
    obtain ⟨rfl, u, hu, hr⟩ := lopField_ok h2 (get h1)
    simp only [pushAll, Option.some.injEq] at hp
    subst hp
    exact ⟨u, w, by simp [execOp, ho, hu], Quiet.refl w, hr⟩
  · rename_i t x i ho
    obtain ⟨sx, h1, h2⟩ := bind_ok h
    obtain ⟨si, h3, h4⟩ := bind_ok h2
    obtain ⟨u, hu, hr⟩ := lopIndexAddr_ok h4 hR (get h1) (get h3) hp
    exact ⟨u, w, by simp [execOp, ho, hu], Quiet.refl w, hr⟩
  · rename_i t x i ho
    obtain ⟨sx, h1, h2⟩ := bind_ok h
    obtain ⟨si, h3, h4⟩ := bind_ok h2
    obtain ⟨rfl, u, hu, hr⟩ := lopIndex_ok h4 (get h1) (get h3)
    simp only [pushAll, Option.some.injEq] at hp
    subst hp
    exact ⟨u, w, by simp [execOp, ho, hu], Quiet.refl w, hr⟩
  · -- extract
    rename_i t j ho
    obtain ⟨st, h1, h2⟩ := bind_ok h
    split at h2
    · rename_i vs
      obtain ⟨arr, harr, htr⟩ := get h1
      split at h2
      · rename_i ag cs hj
        obtain ⟨s, hs, h3⟩ := bind_ok h2
        simp only [Except.ok.injEq, Prod.mk.injEq] at h3
        obtain ⟨rfl, rfl⟩ := h3
        simp only [pushAll, Option.some.injEq] at hp
        subst hp
        have key : ∀ {vs : List (Bool × List CV)} {us : List Value} {j : Nat}, TVR w (Fz X S.heap μ w) S.heap.length μ ρ vs us → vs[j]? = some (ag, cs) → ∃ u, us[j]? = some u ∧ PVR w (Fz X S.heap μ w) S.heap.length μ ρ ag cs u := by
          intro vs
          induction vs with
          | nil => intro us j _ h; simp at h
          | cons p vs ih =>
            intro us j ht h
            cases us with
            | nil => exact ht.elim
            | cons u us =>
              cases j with
              | zero => simp only [List.getElem?_cons_zero, Option.some.injEq] at h; subst h; exact ⟨u, rfl, ht.1⟩
              | succ j => simp only [List.getElem?_cons_succ] at h ⊢; exact ih ht.2 h
        obtain ⟨u, hu, hr⟩ := key htr hj
        have hu' : arr[j]? = some u := by simpa using hu
        refine ⟨u, w, by simp [execOp, ho, harr, Instr.extract, hu'], Quiet.refl w, ?_⟩
        have hm := need_ok hs
        unfold mkSV at hm
        cases ag with
        | true =>
          simp only [if_true, Option.some.injEq] at hm
          subst hm
          exact hr
        | false =>
          obtain ⟨c, rfl, hc⟩ := hr
          simp only [Bool.false_eq_true, if_false, Option.some.injEq] at hm
          subst hm
          exact hc
      · cases h2
    · cases h2
  · -- build
    rename_i t parts ho
    obtain ⟨sp, h1, h2⟩ := bind_ok h
    have hpr := svParts_ok hg hR.slots h1
    obtain ⟨rfl, u, hu, hr⟩ := lopBuild_ok (vals := parts.map fun (i, x) => (i, a.eval x)) h2 (by simpa using hpr)
    simp only [pushAll, Option.some.injEq] at hp
    subst hp
    exact ⟨u, w, by simp [execOp, ho, hu], Quiet.refl w, hr⟩
  · -- len
    rename_i args ats ho
    obtain ⟨sp, h1, h2⟩ := bind_ok h
    split at h2
    · rename_i x t hat
      obtain ⟨hl, hx⟩ := getSVs_ok hg hR.slots h1
      match hargs : args.toList, hl with
      | [y], _ =>
        have hy := hx 0 x (a.eval y) rfl (by rw [hargs]; rfl)
        obtain ⟨u, hu, hr⟩ := lopLen_ok (ty := o.type) h2 hR hat hy hp
        have ea : args = #[y] := by apply Array.ext'; simpa using hargs
        refine ⟨u, w, ?_, Quiet.refl w, hr⟩
        subst ea
        simp [execOp, ho, resolve, invoke, builtin, hu]
    · cases h2
  · -- a function's value
    rename_i f first captured ho
    split at h
    · rename_i hf
      obtain ⟨cs, h1, h2⟩ := bind_ok h
      obtain ⟨l, h3, h4⟩ := bind_ok h2
      simp only [Except.ok.injEq, Prod.mk.injEq] at h4
      obtain ⟨rfl, rfl⟩ := h4
      simp only [pushAll, Option.some.injEq] at hp
      subst hp
      obtain ⟨hl, hx⟩ := getSVs_ok hg hR.slots h1
      obtain ⟨hl2, hc⟩ := capsOf_ok h3
      have hf' : first = #[] := Array.eq_empty_of_size_eq_zero hf
      subst hf'
      refine ⟨.func (.func f) #[] (captured.map a.eval), w, by simp [execOp, ho, Instr.makeFunc], Quiet.refl w, captured.map a.eval, rfl, by simp [hl2, hl], fun j c u hj hu => ?_⟩
      exact hx j _ u (hc j c hj) (by simpa using hu)
    · cases h
  · -- a part of a slice
    rename_i t x lo hi ho
    obtain ⟨s, h1, h2⟩ := bind_ok h
    split at h2
    · rename_i ct l
      obtain ⟨slo, h3, h4⟩ := bind_ok h2
      obtain ⟨shi, h5, h6⟩ := bind_ok h4
      obtain ⟨d, hd, hr⟩ := get h1
      have opt : ∀ {y : Option Operand} {so : Option SV}, (match y with | none => .ok none | some y => (do let v ← (do let a ← getSV S y; Except.ok (strip g a)); Except.ok (some v) : Res (Option SV)) : Res (Option SV)) = .ok so →
          OptR (SVR w (Fz X S.heap μ w) S.heap.length μ ρ) so (y.map a.eval) := by
        intro y so hy
        cases y with
        | none => simp only [Except.ok.injEq] at hy; subst hy; trivial
        | some y =>
          obtain ⟨v', g1, g2⟩ := bind_ok hy
          simp only [Except.ok.injEq] at g2
          subst g2
          exact get g1
      rw [hn] at h6
      have hlst : isSl ct = true := by
        unfold lopSlice at h6
        split at h6
        · split at h6
          · split at h6
            · rename_i hc; exact hc.2
            · cases h6
          · cases h6
        · cases h6
      obtain ⟨ds, rfl⟩ : ∃ ds, d = .lst ds := by
        obtain ⟨ls, e, _⟩ := rowRd_sl hr (fun b e => by subst e; cases hlst)
        exact ⟨_, e⟩
      obtain ⟨u, hu, hv⟩ := lopSlice_ok (P := P) (vlo := lo.map a.eval) (vhi := hi.map a.eval) h6 hd hr (opt h3) (opt h5) hp
      exact ⟨u, w, by simp [execOp, ho, hu], Quiet.refl w, hv⟩
    · cases h2
  · -- min
    rename_i args ats ho
    obtain ⟨sp, h1, h2⟩ := bind_ok h
    split at h2
    · rename_i k x k' y
      split at h2
      · rename_i hk
        subst hk
        simp only [Except.ok.injEq, Prod.mk.injEq] at h2
        obtain ⟨rfl, rfl⟩ := h2
        obtain ⟨hl, hx⟩ := getSVs_ok hg hR.slots h1
        match hargs : args.toList, hl with
        | [p, q], _ =>
          obtain ⟨m, em, hm⟩ := rd_int (hx 0 _ (a.eval p) rfl (by rw [hargs]; rfl))
          obtain ⟨n, en, hn'⟩ := rd_int (hx 1 _ (a.eval q) rfl (by rw [hargs]; rfl))
          obtain ⟨d, hd, rfl⟩ := pushAll_one hp
          simp only [evs, List.map_cons, List.map_nil, Atom.ev_of_get hm, Atom.ev_of_get hn', Prim.ev, Option.some.injEq] at hd
          subst hd
          have ea : args = #[p, q] := by apply Array.ext'; simpa using hargs
          subst ea
          refine ⟨.int k (min m n), w, ?_, Quiet.refl w, mk_int (by rw [hn]; exact get_new rfl)⟩
          have : (if n < m then n else m) = min m n := by rw [Int.min_def]; split <;> split <;> omega
          simp [execOp, ho, resolve, invoke, builtin, Builtin.min_, Builtin.min2, em, en, this]
      · cases h2
    · cases h2
  · -- max
    rename_i args ats ho
    obtain ⟨sp, h1, h2⟩ := bind_ok h
    split at h2
    · rename_i k x k' y
      split at h2
      · rename_i hk
        subst hk
        simp only [Except.ok.injEq, Prod.mk.injEq] at h2
        obtain ⟨rfl, rfl⟩ := h2
        obtain ⟨hl, hx⟩ := getSVs_ok hg hR.slots h1
        match hargs : args.toList, hl with
        | [p, q], _ =>
          obtain ⟨m, em, hm⟩ := rd_int (hx 0 _ (a.eval p) rfl (by rw [hargs]; rfl))
          obtain ⟨n, en, hn'⟩ := rd_int (hx 1 _ (a.eval q) rfl (by rw [hargs]; rfl))
          obtain ⟨d, hd, rfl⟩ := pushAll_one hp
          simp only [evs, List.map_cons, List.map_nil, Atom.ev_of_get hm, Atom.ev_of_get hn', Prim.ev, Option.some.injEq] at hd
          subst hd
          have ea : args = #[p, q] := by apply Array.ext'; simpa using hargs
          subst ea
          refine ⟨.int k (max m n), w, ?_, Quiet.refl w, mk_int (by rw [hn]; exact get_new rfl)⟩
          have : (if n > m then n else m) = max m n := by rw [Int.max_def]; split <;> split <;> omega
          simp [execOp, ho, resolve, invoke, builtin, Builtin.max_, Builtin.max2, em, en, this]
      · cases h2
    · rename_i k x k' y
      split at h2
      · rename_i hk
        subst hk
        simp only [Except.ok.injEq, Prod.mk.injEq] at h2
        obtain ⟨rfl, rfl⟩ := h2
        obtain ⟨hl, hx⟩ := getSVs_ok hg hR.slots h1
        match hargs : args.toList, hl with
        | [p, q], _ =>
          obtain ⟨m, em, hm⟩ := rd_flt (hx 0 _ (a.eval p) rfl (by rw [hargs]; rfl))
          obtain ⟨n, en, hn'⟩ := rd_flt (hx 1 _ (a.eval q) rfl (by rw [hargs]; rfl))
          obtain ⟨d, hd, rfl⟩ := pushAll_one hp
          simp only [evs, List.map_cons, List.map_nil, Atom.ev_of_get hm, Atom.ev_of_get hn', Prim.ev] at hd
          have ea : args = #[p, q] := by apply Array.ext'; simpa using hargs
          subst ea
          rw [order_canon] at hd
          cases ho2 : k.format.order m n with
          | none => rw [ho2] at hd; cases hd
          | some c =>
            obtain ⟨n1, n2⟩ := order_some ho2
            rw [ho2, canon_of n1, canon_of n2] at hd
            cases c <;> simp only [Option.some.injEq] at hd <;> subst hd
            · refine ⟨.float k n, w, ?_, Quiet.refl w, mk_flt (by rw [hn, canon_of n2]; exact get_new rfl)⟩
              simp [execOp, ho, resolve, invoke, builtin, Builtin.max_, Builtin.max2, em, en, ho2]
            · refine ⟨.float k (if (k.decode m).neg then n else m), w, ?_, Quiet.refl w, mk_flt (by rw [hn, canon_of (by split <;> assumption)]; exact get_new rfl)⟩
              simp [execOp, ho, resolve, invoke, builtin, Builtin.max_, Builtin.max2, em, en, ho2]
            · refine ⟨.float k m, w, ?_, Quiet.refl w, mk_flt (by rw [hn, canon_of n1]; exact get_new rfl)⟩
              simp [execOp, ho, resolve, invoke, builtin, Builtin.max_, Builtin.max2, em, en, ho2]
      · cases h2
    · cases h2
  · -- a function of the library
    rename_i f args ats ho
    split at h
    · rename_i e he
      obtain ⟨sp, h1, h2⟩ := bind_ok h
      obtain ⟨hl, hx⟩ := getSVs_ok hg hR.slots h1
      rw [hn] at h2
      obtain ⟨u, w', hu, q, hr⟩ := lopExt_ok (P := P) (w := w) (vs := args.toList.map a.eval) h2 (by simpa using hl) hx hp
      refine ⟨u, w', ?_, q, hr⟩
      have e1 : execOp a.eval o = callFunc f (#[] ++ args.map a.eval ++ #[]) := by
        obtain ⟨dst, op, ty, pos, after, guard⟩ := o
        simp only at ho
        subst ho
        rfl
      rw [e1, hX f e he]
      have e2 : (#[] ++ args.map a.eval ++ #[] : Array Value) = (args.toList.map a.eval).toArray := by apply Array.ext'; simp
      rw [e2, hu]
      rfl
    · cases h
  · cases h

end
end Vs

namespace Vs
open Go Go.RowKit

/-! ### Contracts of functions -/
/-- An own thing that is handed on: its value, what it is, its data. -/
def OwnK (w : World) (F : Nat → Prop) : MK → MV → D → Prop
  | .row t e, m, d => m.hist = [] ∧ ∃ n xs ls, w.ownsRow 0 e (rowSz t) m.v n xs ∧ d = .lst (ls.map (unflat (rowAgg t))) ∧ ls.length = n ∧ rowRd w F t xs ls
  | .rows et e' e, m, d => m.hist.length = 1 ∧ ∃ n ls, w.ownsRow 0 e 1 m.v n m.inner ∧ d = rowsDat et.agg ls ∧ ls.length = n ∧ RowsD w et e' m.inner ls ∧
      Apart m.inner ∧ ∀ u ∈ m.inner, ∀ b, blkOf u = some b → blkOf m.v ≠ some b

/-- What was handed over. -/
structure HM where
  m : MV
  k : MK
  keep : Bool

def ArgC (w : World) (F : Nat → Prop) : PC → Value → D → List HM → Prop
  | .rd t, v, d, ms => ms = [] ∧ RdC w F t v d
  | .mt k keep, v, d, ms => ∃ m, ms = [⟨m, k, keep⟩] ∧ m.v = v ∧ OwnK w F k m d
def ArgCs (w : World) (F : Nat → Prop) : List PC → List Value → List D → List HM → Prop
  | [], [], ds, ms => ds = [] ∧ ms = []
  | t :: ts, v :: vs, ds, ms => ∃ d d2 m1 m2, ds = d :: d2 ∧ ms = m1 ++ m2 ∧ ArgC w F t v d m1 ∧ ArgCs w F ts vs d2 m2
  | _, _, _, _ => False

def PtrR (w : World) (F : Nat → Prop) (ts : List PC) (v : Value) (ds : List D) (ms : List HM) : Prop :=
  ∃ b o vs, v = .pointer (some ⟨b, o, none⟩) ∧ F b ∧ (∀ (j : Nat) u, vs[j]? = some u → w.cell? ⟨b, o + j, none⟩ = some u) ∧ ArgCs w F ts vs ds ms
def CapsR (w : World) (F : Nat → Prop) : List (List PC) → List Value → List D → List HM → Prop
  | [], [], ds, ms => ds = [] ∧ ms = []
  | ts :: tss, v :: vs, ds, ms => ∃ d1 d2 m1 m2, ds = d1 ++ d2 ∧ ms = m1 ++ m2 ∧ PtrR w F ts v d1 m1 ∧ CapsR w F tss vs d2 m2
  | _, _, _, _ => False
def ArgR (w : World) (F : Nat → Prop) : PK → Value → List D → List HM → Prop
  | .val true ts, v, ds, ms => ∃ arr : Array Value, v = .agg arr ∧ ArgCs w F ts arr.toList ds ms
  | .val false ts, v, ds, ms => ArgCs w F ts [v] ds ms
  | .ptr ts, v, ds, ms => PtrR w F ts v ds ms
  | .fn f caps, v, ds, ms => ∃ cs : Array Value, v = .func (.func f) #[] cs ∧ CapsR w F caps cs.toList ds ms
def ArgsR (w : World) (F : Nat → Prop) : List PK → List Value → List D → List HM → Prop
  | [], [], ds, ms => ds = [] ∧ ms = []
  | p :: ps, v :: vs, ds, ms => ∃ d1 d2 m1 m2, ds = d1 ++ d2 ∧ ms = m1 ++ m2 ∧ ArgR w F p v d1 m1 ∧ ArgsR w F ps vs d2 m2
  | _, _, _, _ => False

/-- No block belongs to two. -/
def MApart (ms : List MV) : Prop := ∀ (i j : Nat) m m', ms[i]? = some m → ms[j]? = some m' → i ≠ j → ∀ b, m.own b → ¬ m'.own b

/-- What a callee may read. -/
def Fm (w : World) (ms : List HM) (b : Nat) : Prop := b < w.heap.size ∧ ∀ h ∈ ms, ¬ h.m.own b

/-- The cells of a result; 'os': the own things among them, in order. -/
def ResCs (w : World) : List RK → List Value → List D → List MV → Prop
  | [], [], [], [] => True
  | .cell t :: rs, v :: vs, d :: ds, os => RdB t v d ∧ ResCs w rs vs ds os
  | .own k :: rs, v :: vs, d :: ds, o :: os => o.v = v ∧ (∀ F, OwnK w F k o d) ∧ ResCs w rs vs ds os
  | _, _, _, _ => False

def PRes (w : World) (agg : Bool) (rs : List RK) (v : Value) (ds : List D) (os : List MV) : Prop :=
  match agg with
  | true => ∃ arr : Array Value, v = .agg arr ∧ ResCs w rs arr.toList ds os
  | false => rs.length = 1 ∧ ResCs w rs [v] ds os

def ResAll (w : World) : List (Bool × List RK) → List Value → List D → List MV → Prop
  | [], [], ds, os => ds = [] ∧ os = []
  | (ag, rs) :: r, v :: vs, ds, os => ∃ d1 d2 o1 o2, ds = d1 ++ d2 ∧ os = o1 ++ o2 ∧ PRes w ag rs v d1 o1 ∧ ResAll w r vs d2 o2
  | _, _, _, _ => False

/-- What is handed back. -/
def KeptR (w : World) : List HM → List D → List MV → Prop
  | [], ds, ks => ds = [] ∧ ks = []
  | h :: hs, ds, ks => if h.keep = true then ∃ d d2 k k2, ds = d :: d2 ∧ ks = k :: k2 ∧ k.v = h.m.v ∧ (∀ F, OwnK w F h.k k d) ∧ KeptR w hs d2 k2 else KeptR w hs ds ks

def ResR (base : Nat) (w : World) (ms : List HM) (rs : List (Bool × List RK)) (v : Value) (ds : List D) : Prop :=
  ∃ vs os ks d1 d2, (if rs.length = 1 then vs = [v] else v = .tuple vs.toArray) ∧ ds = d1 ++ d2 ∧ ResAll w rs vs d1 os ∧ KeptR w ms d2 ks ∧
    (∀ u ∈ os ++ ks, ∀ b, u.own b → base ≤ b ∨ ∃ h ∈ ms, h.m.own b) ∧ MApart (os ++ ks)

structure SoundCall (P : Program) (f : FuncId) (sg : Sig) (G : List D → Option (List D)) : Prop where
  enter : ∀ args w, (callFunc f args).run P w = .ok (.enter f args) w
  calls : ∀ vs ds ms (w : World) rs, ArgsR w (Fm w ms) sg.params vs ds ms → MApart (ms.map HM.m) → G ds = some rs →
    Calls P f vs.toArray w fun e w' => ∃ v, e = .returned v ∧ Keeps (fun b => ∃ h ∈ ms, h.m.own b) w w' ∧ ResR w.heap.size w' ms sg.results v rs

/-! ### Own things -/
section
variable {w w' : World} {F F' : Nat → Prop}

theorem OwnK.lt {k : MK} {m : MV} {d : D} (h : OwnK w F k m d) {b : Nat} (hb : m.own b) : b < w.heap.size := by
  have row : ∀ {e sz n : Nat} {v : Value} {xs : List Value}, w.ownsRow 0 e sz v n xs → blkOf v = some b → b < w.heap.size := by
    intro e sz n v xs h hb
    rcases h.2 with ⟨rfl, _⟩ | ⟨g, cap, cur, rfl, _, e3, _⟩
    · cases hb
    · simp only [blkOf, Option.some.injEq] at hb
      subst hb
      exact (Array.getElem?_eq_some_iff.1 e3).1
  cases k with
  | row t e =>
    obtain ⟨h0, n, xs, ls, h1, _⟩ := h
    exact row h1 ((MV.own_flat h0).1 hb)
  | rows et e' e =>
    obtain ⟨h0, n, ls, h1, _, hn, ⟨h2, h3⟩, _⟩ := h
    rcases hb with hb | ⟨u, hu, hb⟩
    · exact row h1 hb
    · obtain ⟨i, hi⟩ := List.getElem?_of_mem hu
      have hlt : i < ls.length := by rw [← h2]; exact (List.getElem?_eq_some_iff.1 hi).1
      obtain ⟨k, xs, hk, _⟩ := h3 i u _ hi (List.getElem?_eq_getElem hlt)
      exact row hk hb

theorem ownsRow_kept {e sz n : Nat} {v : Value} {xs : List Value} (h : w.ownsRow 0 e sz v n xs) (hb : ∀ b, blkOf v = some b → w'.heap[b]? = w.heap[b]?) : w'.ownsRow 0 e sz v n xs := by
  refine ⟨h.1, ?_⟩
  rcases h.2 with hn | ⟨g, cap, cur, e1, e2, e3, e4⟩
  · exact .inl hn
  · refine .inr ⟨g, cap, cur, e1, e2, ?_, e4⟩
    rw [hb g (by rw [e1]; rfl)]
    exact e3

theorem RowsD.kept {et : ET} {e' : TypeId} {us : List Value} {ls : List (List (List D))} (h : RowsD w et e' us ls) (hb : ∀ u ∈ us, ∀ b, blkOf u = some b → w'.heap[b]? = w.heap[b]?) : RowsD w' et e' us ls := by
  refine ⟨h.1, fun i u l hi hl => ?_⟩
  obtain ⟨n, xs, h1, h2⟩ := h.2 i u l hi hl
  exact ⟨n, xs, ownsRow_kept h1 (hb u (List.mem_of_getElem? hi)), h2⟩
end

/-! ### Moving a state along -/
section
variable {P : Program} {X : Nat → Prop} {M : Hand} {w0 w w' : World} {S : SS} {μ μ' : Mu} {ρ : List D} {a : Act}

theorem live_lt {h : List SB} {β : Nat} (hl : live h β) : β < h.length := by
  obtain ⟨sb, hs, _⟩ := hl
  rcases Nat.lt_or_ge β h.length with h' | h'
  · exact h'
  · rw [List.getElem?_eq_none h'] at hs; cases hs

theorem Grows.same {F F' : Nat → Prop} {hl hl' : Nat} {ρ ρ' : List D} (hs : Stays F F' w w') (he : ∃ σ, ρ' = ρ ++ σ) (hle : hl ≤ hl') (hμ : ∀ β, β < hl → μ' β = μ β) : Grows F F' hl hl' μ μ' ρ ρ' w w' :=
  ⟨hs, he, hle, fun β hb => by rw [hμ β hb]; exact ⟨rfl, [], by simp⟩⟩

theorem BlkR.grow {Mine : Nat → Prop} {F F' : Nat → Prop} {hl hl' : Nat} {ρ ρ' : List D} {sb : SB} {m : MV} (hg : Grows F F' hl hl' μ μ' ρ ρ' w w') (hsz : w.heap.size ≤ w'.heap.size) (hb : ∀ b, m.own b → w'.heap[b]? = w.heap[b]?)
    (h : BlkR Mine w F hl μ ρ sb m) : BlkR Mine w' F' hl' μ' ρ' sb m := by
  cases sb with
  | dead => trivial
  | hid => exact fun b hb' => Nat.lt_of_lt_of_le (h b hb') hsz
  | var cs =>
    obtain ⟨h0, b, arr, T, h1, h2, h3, h4⟩ := h
    refine ⟨h0, b, arr, T, h1, h2, ?_, h4.mono hg⟩
    rw [hb b (.inl (by rw [h1]; rfl))]
    exact h3
  | row t e x =>
    obtain ⟨h0, n, xs, ls, h1, h2, h3, h4, h5⟩ := h
    exact ⟨h0, n, xs, ls, ownsRow_kept h1 fun b hbb => hb b (.inl hbb), h2, hg.get h3, h4, h5.mono hg.stays⟩
  | rows et e' e ver x =>
    obtain ⟨h0, n, ls, h1, h2, h3, h4, h5, h6⟩ := h
    exact ⟨h0, n, ls, ownsRow_kept h1 fun b hbb => hb b (.inl hbb), h2, hg.get h3, h4, h5.kept fun u hu b hbb => hb b (.inr ⟨u, hu, hbb⟩), h6⟩

theorem R_env (h : R X M w0 S μ ρ a w) (σ : List D) : R X M w0 { S with n := S.n + σ.length } μ (ρ ++ σ) a w := by
  have hg : Grows (Fz X S.heap μ w) (Fz X S.heap μ w) S.heap.length S.heap.length μ μ ρ (ρ ++ σ) w w := Grows.same ⟨fun _ h => h, fun _ _ => rfl⟩ ⟨σ, rfl⟩ (Nat.le_refl _) fun _ _ => rfl
  exact ⟨h.keeps, by simp [h.len], h.size, h.defers, fun i s hs => (h.slots i s hs).mono hg, fun β sb hb => (h.blocks β sb hb).grow hg (Nat.le_refl _) (fun _ _ => rfl), h.ex, h.inj, h.exo, h.anc⟩

theorem ownsRow_lt {e sz n : Nat} {v : Value} {xs : List Value} (h : w.ownsRow 0 e sz v n xs) {b : Nat} (hb : blkOf v = some b) : b < w.heap.size := by
  rcases h.2 with ⟨rfl, _⟩ | ⟨g, cap, cur, rfl, _, e3, _⟩
  · cases hb
  · simp only [blkOf, Option.some.injEq] at hb
    subst hb
    exact (Array.getElem?_eq_some_iff.1 e3).1

theorem BlkR.lt {Mine F : Nat → Prop} {hl : Nat} {sb : SB} {m : MV} (h : BlkR Mine w F hl μ ρ sb m) (hd : sb ≠ .dead) {b : Nat} (hb : m.own b) : b < w.heap.size := by
  cases sb with
  | dead => exact absurd rfl hd
  | hid => exact h b hb
  | var cs =>
    obtain ⟨h0, b', arr, T, h1, _, h3, _⟩ := h
    have := (MV.own_flat h0).1 hb
    rw [h1] at this
    simp only [blkOf, Option.some.injEq] at this
    subst this
    exact (Array.getElem?_eq_some_iff.1 h3).1
  | row t e x =>
    obtain ⟨h0, n, xs, ls, h1, _⟩ := h
    exact ownsRow_lt h1 ((MV.own_flat h0).1 hb)
  | rows et e' e ver x =>
    obtain ⟨h0, n, ls, h1, _, _, _, ⟨h2, h3⟩, _⟩ := h
    rcases hb with hb | ⟨u, hu, hb⟩
    · exact ownsRow_lt h1 hb
    · obtain ⟨i, hi⟩ := List.getElem?_of_mem hu
      have hlt : i < ls.length := by rw [← h2]; exact (List.getElem?_eq_some_iff.1 hi).1
      obtain ⟨k, xs, hk, _⟩ := h3 i u _ hi (List.getElem?_eq_getElem hlt)
      exact ownsRow_lt hk hb

/-- Own blocks lie in the heap. -/
theorem R.own_lt (h : R X M w0 S μ ρ a w) {β : Nat} (hl : live S.heap β) {b : Nat} (hb : (μ β).own b) : b < w.heap.size := by
  obtain ⟨sb, hs, hd⟩ := hl
  exact (h.blocks β sb hs).lt hd hb

/-- What a block is that may be written. -/
def mineB : SB → Bool | .var _ => true | .row _ _ _ => true | .rows _ _ _ _ _ => true | _ => false
theorem R.mine (h : R X M w0 S μ ρ a w) {β : Nat} {sb : SB} (hs : S.heap[β]? = some sb) (hm : mineB sb = true) {b : Nat} (hb : (μ β).own b) : w0.heap.size ≤ b ∨ M b := by
  have := h.blocks β sb hs
  cases sb with
  | dead => cases hm
  | hid => cases hm
  | var cs =>
    obtain ⟨h0, b', arr, T, h1, h2, _⟩ := this
    have e := (MV.own_flat h0).1 hb
    rw [h1] at e
    simp only [blkOf, Option.some.injEq] at e
    subst e
    exact h2
  | row t e x => obtain ⟨_, n, xs, ls, _, h2, _⟩ := this; exact h2 b hb
  | rows et e' e ver x => obtain ⟨_, n, ls, _, h2, _⟩ := this; exact h2 b hb

/-- What a move does: some old own blocks are touched (their memory may be written, or go over to others), new ones are there. -/
structure Move (S : SS) (μ : Mu) (w : World) (T : List Nat) (heap' : List SB) (μ' : Mu) (w' : World) : Prop where
  tlive : ∀ γ, γ ∈ T → ∃ sb, S.heap[γ]? = some sb ∧ mineB sb = true
  len : S.heap.length ≤ heap'.length
  same : ∀ β, β < S.heap.length → β ∉ T → heap'[β]? = S.heap[β]? ∧ μ' β = μ β
  mu : ∀ β, β < S.heap.length → (μ' β).v = (μ β).v ∧ ∃ ext, (μ' β).hist = (μ β).hist ++ ext
  os : w'.os = w.os
  tape : w'.tape = w.tape
  output : w'.output = w.output
  size : w.heap.size ≤ w'.heap.size
  blk : ∀ b, b < w.heap.size → (∀ γ, γ ∈ T → ¬ (μ γ).own b) → w'.heap[b]? = w.heap[b]?
  own : ∀ β, live heap' β → (β ∈ T ∨ S.heap.length ≤ β) → ∀ b, (μ' β).own b → w.heap.size ≤ b ∨ ∃ γ, γ ∈ T ∧ (μ γ).own b
  inj : ∀ β γ, live heap' β → live heap' γ → (β ∈ T ∨ S.heap.length ≤ β) → (γ ∈ T ∨ S.heap.length ≤ γ) → β ≠ γ → ∀ b, (μ' β).own b → ¬ (μ' γ).own b

theorem Move.liveOld {T : List Nat} {heap' : List SB} (m : Move S μ w T heap' μ' w') {γ : Nat} (h : γ ∈ T) : live S.heap γ := by
  obtain ⟨sb, hs, hm⟩ := m.tlive γ h
  exact ⟨sb, hs, fun e => by subst e; cases hm⟩

theorem Move.untouched {T : List Nat} {heap' : List SB} (m : Move S μ w T heap' μ' w') {β : Nat} (hl : live heap' β) (h : ¬ (β ∈ T ∨ S.heap.length ≤ β)) : live S.heap β ∧ μ' β = μ β := by
  have h1 : β ∉ T := fun e => h (.inl e)
  have h2 : β < S.heap.length := Nat.lt_of_not_le fun e => h (.inr e)
  obtain ⟨e1, e2⟩ := m.same β h2 h1
  obtain ⟨sb, hs, hd⟩ := hl
  exact ⟨⟨sb, by rw [← e1]; exact hs, hd⟩, e2⟩

theorem Move.grows {T : List Nat} {heap' : List SB} (m : Move S μ w T heap' μ' w') : Grows (Fz X S.heap μ w) (Fz X heap' μ' w') S.heap.length heap'.length μ μ' ρ ρ w w' := by
  refine ⟨⟨fun b hb => ⟨⟨Nat.lt_of_lt_of_le hb.1.1 m.size, hb.1.2⟩, fun β hl ho => ?_⟩, fun b hb => m.blk b hb.1.1 fun γ hγ => hb.2 γ (m.liveOld hγ)⟩, ⟨[], by simp⟩, m.len, m.mu⟩
  by_cases h : β ∈ T ∨ S.heap.length ≤ β
  · rcases m.own β hl h b ho with h1 | ⟨γ, h1, h2⟩
    · have := hb.1.1; omega
    · exact hb.2 γ (m.liveOld h1) h2
  · obtain ⟨h1, h2⟩ := m.untouched hl h
    rw [h2] at ho
    exact hb.2 β h1 ho

theorem R_move (h : R X M w0 S μ ρ a w) {T : List Nat} {heap' : List SB} (m : Move S μ w T heap' μ' w')
    (hnew : Grows (Fz X S.heap μ w) (Fz X heap' μ' w') S.heap.length heap'.length μ μ' ρ ρ w w' → ∀ β sb, heap'[β]? = some sb → (β ∈ T ∨ S.heap.length ≤ β) → BlkR (fun b => w0.heap.size ≤ b ∨ M b) w' (Fz X heap' μ' w') heap'.length μ' ρ sb (μ' β)) :
    R X M w0 { S with heap := heap' } μ' ρ a w' := by
  have hg := m.grows (X := X) (ρ := ρ)
  refine ⟨⟨m.os.trans h.keeps.os, m.tape.trans h.keeps.tape, m.output.trans h.keeps.output, Nat.le_trans h.keeps.size m.size, fun k hk hm => ?_⟩, h.len, h.size, h.defers, fun i s hs => (h.slots i s hs).mono hg, fun β sb hb => ?_,
    fun b hb => Nat.lt_of_lt_of_le (h.ex b hb) m.size, fun β γ hβ hγ hne b hb => ?_, fun β hβ b hb hx => ?_, fun β v hv => ⟨Nat.lt_of_lt_of_le (h.anc β v hv).1 m.len, (m.mu β (h.anc β v hv).1).1.trans (h.anc β v hv).2⟩⟩
  · rw [m.blk k (Nat.lt_of_lt_of_le hk h.keeps.size) fun γ hγ ho => ?_]
    · exact h.keeps.block k hk hm
    · obtain ⟨sb, hs, hms⟩ := m.tlive γ hγ
      rcases h.mine hs hms ho with h' | h'
      · omega
      · exact hm h'
  · by_cases ht : β ∈ T ∨ S.heap.length ≤ β
    · exact hnew hg β sb hb ht
    · have h1 : β ∉ T := fun e => ht (.inl e)
      have h2 : β < S.heap.length := Nat.lt_of_not_le fun e => ht (.inr e)
      obtain ⟨e1, e2⟩ := m.same β h2 h1
      have hb' : S.heap[β]? = some sb := by rw [← e1]; exact hb
      rw [e2]
      by_cases hd : sb = .dead
      · subst hd; trivial
      · refine (h.blocks β sb hb').grow hg m.size fun b ho => m.blk b (h.own_lt ⟨sb, hb', hd⟩ ho) fun γ hγ ho' => ?_
        exact h.inj β γ ⟨sb, hb', hd⟩ (m.liveOld hγ) (fun e => h1 (by rw [e]; exact hγ)) b ho ho'
  · by_cases h1 : β ∈ T ∨ S.heap.length ≤ β
    · by_cases h2 : γ ∈ T ∨ S.heap.length ≤ γ
      · exact m.inj β γ hβ hγ h1 h2 hne b hb
      · obtain ⟨l2, e2⟩ := m.untouched hγ h2
        rw [e2]
        intro ho
        rcases m.own β hβ h1 b hb with h3 | ⟨δ, h3, h4⟩
        · have := h.own_lt l2 ho; omega
        · exact h.inj δ γ (m.liveOld h3) l2 (fun e => h2 (.inl (by rw [← e]; exact h3))) b h4 ho
    · obtain ⟨l1, e1⟩ := m.untouched hβ h1
      rw [e1] at hb
      by_cases h2 : γ ∈ T ∨ S.heap.length ≤ γ
      · intro ho
        rcases m.own γ hγ h2 b ho with h3 | ⟨δ, h3, h4⟩
        · have := h.own_lt l1 hb; omega
        · exact h.inj β δ l1 (m.liveOld h3) (fun e => h1 (.inl (by rw [e]; exact h3))) b hb h4
      · obtain ⟨l2, e2⟩ := m.untouched hγ h2
        rw [e2]
        exact h.inj β γ l1 l2 hne b hb
  · by_cases h1 : β ∈ T ∨ S.heap.length ≤ β
    · rcases m.own β hβ h1 b hb with h3 | ⟨δ, h3, h4⟩
      · have := h.ex b hx; omega
      · exact h.exo δ (m.liveOld h3) b h4 hx
    · obtain ⟨l1, e1⟩ := m.untouched hβ h1
      rw [e1] at hb
      exact h.exo β l1 b hb hx

theorem R_quiet (h : R X M w0 S μ ρ a w) (q : Quiet w w') : R X M w0 S μ ρ a w' := by
  have hF : Fz X S.heap μ w' = Fz X S.heap μ w := by unfold Fz; rw [q.heap]
  have hg : Grows (Fz X S.heap μ w) (Fz X S.heap μ w') S.heap.length S.heap.length μ μ ρ ρ w w' := by
    rw [hF]
    exact Grows.same ⟨fun _ h => h, fun b _ => by rw [q.heap]⟩ ⟨[], by simp⟩ (Nat.le_refl _) fun _ _ => rfl
  refine ⟨⟨q.os.trans h.keeps.os, q.tape.trans h.keeps.tape, q.output.trans h.keeps.output, by rw [q.heap]; exact h.keeps.size, fun k h1 h2 => by rw [q.heap]; exact h.keeps.block k h1 h2⟩,
    h.len, h.size, h.defers, fun i s hs => (h.slots i s hs).mono hg, fun β sb hb => (h.blocks β sb hb).grow hg (by rw [q.heap]; exact Nat.le_refl _) (fun b _ => by rw [q.heap]), fun b hb => by rw [q.heap]; exact h.ex b hb, h.inj, h.exo, h.anc⟩

theorem put_ok {dst : Option Nat} {v : SV} {slots : List SV} (h : put S dst v = .ok slots) : slots.length = S.slots.length ∧
    ∀ i s, slots[i]? = some s → (S.slots[i]? = some s ∧ dst ≠ some i) ∨ (dst = some i ∧ s = v ∧ i < S.slots.length) := by
  unfold put at h
  split at h
  · simp only [Except.ok.injEq] at h; subst h; exact ⟨rfl, fun i s hs => .inl ⟨hs, by simp⟩⟩
  · rename_i d
    split at h
    · rename_i hd
      simp only [Except.ok.injEq] at h; subst h
      refine ⟨by simp, fun i s hs => ?_⟩
      by_cases hi : d = i
      · subst hi
        rw [List.getElem?_set_self hd] at hs
        simp only [Option.some.injEq] at hs
        exact .inr ⟨rfl, hs.symm, hd⟩
      · rw [List.getElem?_set_ne hi] at hs
        exact .inl ⟨hs, by simp [hi]⟩
    · cases h

theorem tmps_put {dst : Option Nat} {u : Value} (i : Nat) : (a.put dst u).tmps.getD i Go.undef = if dst = some i ∧ i < a.tmps.size then u else a.tmps.getD i Go.undef := by
  unfold Act.put
  cases dst with
  | none => simp
  | some d =>
    simp only [Option.some.injEq]
    by_cases h : d = i
    · subst h
      by_cases hd : d < a.tmps.size
      · simp [hd]
      · simp [hd]
    · simp [h]

theorem R_put {dst : Option Nat} {v : SV} {slots : List SV} {u : Value} (h : R X M w0 S μ ρ a w) (hp : put S dst v = .ok slots) (hv : SVR w (Fz X S.heap μ w) S.heap.length μ ρ v u) :
    R X M w0 { S with slots } μ ρ (a.put dst u) w := by
  obtain ⟨hl, hs⟩ := put_ok hp
  refine ⟨h.keeps, h.len, ?_, ?_, fun i s hi => ?_, h.blocks, h.ex, h.inj, h.exo, h.anc⟩
  · have : (a.put dst u).tmps.size = a.tmps.size := by unfold Act.put; cases dst <;> simp
    rw [this, h.size, hl]
  · have : (a.put dst u).defers = a.defers := by unfold Act.put; cases dst <;> rfl
    rw [this, h.defers]
  · rw [tmps_put]
    rcases hs i s hi with ⟨h1, h2⟩ | ⟨rfl, rfl, h3⟩
    · rw [if_neg (fun e => h2 e.1)]
      exact h.slots i s h1
    · rw [if_pos ⟨rfl, by rw [h.size]; exact h3⟩]
      exact hv

end
end Vs

namespace Vs
open Go Go.RowKit

def effRun (G : Nat → List D → Option (List D)) (ρ : List D) : Eff → Option (List D)
  | .prims ps => pushAll ps ρ
  | .call pre f xs m post => (pushAll pre ρ).bind fun ρ1 => match G f (evs ρ1 xs) with | some ds => if ds.length = m then pushAll post (ρ1 ++ ds) else none | none => none
def effLen : Eff → Nat
  | .prims ps => ps.length
  | .call pre _ _ m post => pre.length + m + post.length

structure EnvOk (E : Env) (G : Nat → List D → Option (List D)) : Prop where
  ext : ExtOk E.P E.ext
  sig : ∀ f key sg, E.sig f = some (key, sg) → SoundCall E.P f sg (G key)

section
variable {P : Program} {X : Nat → Prop} {M : Hand} {w0 w w' : World} {S : SS} {μ μ' : Mu} {ρ : List D} {a : Act}

/-! ### Guards -/
theorem tmps_get (h : R X M w0 S μ ρ a w) {d : Nat} {s : SV} (hs : S.slots[d]? = some s) : a.tmps[d]? = some (a.tmps.getD d Go.undef) := by
  have hlt : d < a.tmps.size := by
    rw [h.size]
    rcases Nat.lt_or_ge d S.slots.length with h' | h'
    · exact h'
    · rw [List.getElem?_eq_none h'] at hs; cases hs
  rw [Array.getElem?_eq_getElem hlt]
  simp [hlt]

theorem get_lt {i n : Nat} (hn : ρ.length = n) (hi : i < n) : (Atom.v i).get ρ ≠ none := by
  subst hn
  simp only [Atom.get]
  rw [List.getElem?_eq_getElem hi]
  simp

theorem ok_of_get {x : Atom} {b want : Bool} (h : x.get ρ = some (.bool b)) : Guard.ok ρ (some (x, want)) = (b == want) := by
  simp [Guard.ok, Atom.ev_of_get h]

theorem guardOf_ok {ops : Array Oper} {o : Oper} {g : Guard} (h : guardOf S ops.toList o = .ok g) (hR : R X M w0 S μ ρ a w) :
    Region.wanted o (yielded ops a.tmps) = g.ok ρ ∧ (∀ x want, g = some (x, want) → x.get ρ ≠ none) := by
  unfold guardOf at h
  unfold Region.wanted
  split at h
  · rename_i hg
    simp only [Except.ok.injEq] at h
    subst h
    exact ⟨by rw [hg]; rfl, by simp⟩
  · rename_i j want hg
    rw [hg]
    simp only
    split at h
    · rename_i d hd
      have hy : yielded ops a.tmps j = (match a.tmps[d]? with | some (.bool b) => some b | _ => none) := by
        unfold yielded
        have : ops[j]? = ops.toList[j]? := by simp
        rw [this, hd]
        rfl
      rw [hy]
      split at h
      · rename_i i hs
        split at h
        · rename_i hi
          simp only [Except.ok.injEq] at h
          subst h
          obtain ⟨b, hv, hb⟩ := rd_bool (hR.slots d _ hs)
          refine ⟨?_, fun x want e => ?_⟩
          · rw [tmps_get hR hs, hv, ok_of_get hb]
            simp
          · simp only [Option.some.injEq, Prod.mk.injEq] at e
            rw [← e.1]
            exact get_lt hR.len hi
        · cases h
      · rename_i g0 w0' i hs
        split at h
        · rename_i hi
          simp only [Except.ok.injEq] at h
          subst h
          have hh := hR.slots d _ hs
          refine ⟨?_, fun x want e => ?_⟩
          · rw [tmps_get hR hs]
            by_cases hc : g0.get ρ = some (.bool w0')
            · obtain ⟨b, hv, hb⟩ := rd_bool (hh.2.1 hc)
              rw [hv, ok_of_get hb]
              simp
            · obtain ⟨hv, dd, hd', hb⟩ := hh.2.2 hc
              rw [hv]
              have : (Atom.v i).ev ρ = dd := Atom.ev_of_get (x := .v i) hd'
              simp only [Guard.ok, this, Go.undef]
              cases dd <;> first | rfl | exact absurd rfl (hb _)
          · simp only [Option.some.injEq, Prod.mk.injEq] at e
            rw [← e.1]
            exact get_lt hR.len hi
        · cases h
      · cases h
    · cases h

theorem guard_append {g : Guard} (hg : ∀ x want, g = some (x, want) → x.get ρ ≠ none) (σ : List D) : g.ok (ρ ++ σ) = g.ok ρ := by
  cases g with
  | none => rfl
  | some p =>
    obtain ⟨x, want⟩ := p
    have := hg x want rfl
    cases hx : x.get ρ with
    | none => exact absurd hx this
    | some d => simp only [Guard.ok, Atom.ev_of_get hx, Atom.ev_of_get (Atom.get_append (σ := σ) hx)]

theorem wrapG_ok {F : Nat → Prop} {hl : Nat} {g : Guard} {s : SV} {v : Value} (hg : ∀ x want, g = some (x, want) → x.get ρ ≠ none) (hok : g.ok ρ = true) (h : SVR w F hl μ ρ s v) : SVR w F hl μ ρ (wrapG g s) v := by
  unfold wrapG
  split
  · exact h
  · rename_i x want
    exact ⟨hg x want rfl, fun _ => h, fun hn => absurd (guard_get hok) hn⟩

theorem not_ok {x : Atom} {want : Bool} (h : Guard.ok ρ (some (x, want)) = false) : x.get ρ ≠ some (.bool want) := by
  intro hx
  rw [ok_of_get hx] at h
  simp at h

/-- A state whose operation was passed over. -/
theorem R_skip {g : Guard} {s : SV} {slots : List SV} {dst : Option Nat} {m : Nat} (h : R X M w0 S μ ρ a w) (hg : ∀ x want, g = some (x, want) → x.get ρ ≠ none) (hok : g.ok ρ = false) (hp : put S dst (wrapG g s) = .ok slots)
    (hf : freshSV S.n m s = true) :
    R X M w0 { S with n := S.n + m, slots } μ (ρ ++ List.replicate m .undef) (a.put dst Go.undef) w := by
  have h1 := R_env h (List.replicate m .undef)
  simp only [List.length_replicate] at h1
  refine R_put h1 (by simpa [put] using hp) ?_
  cases g with
  | none => simp [Guard.ok] at hok
  | some p =>
    obtain ⟨x, want⟩ := p
    have hx := hg x want rfl
    cases hxe : x.get ρ with
    | none => exact absurd hxe hx
    | some d =>
      have hx' := Atom.get_append (σ := List.replicate m D.undef) hxe
      refine ⟨by rw [hx']; simp, fun hc => ?_, fun _ => ⟨rfl, ?_⟩⟩
      · rw [hx'] at hc
        exact absurd (hxe.trans hc) (not_ok hok)
      · unfold unset
        split
        · rename_i t i
          simp only [freshSV, Bool.and_eq_true, decide_eq_true_eq] at hf
          refine ⟨.undef, ?_, by simp⟩
          rw [List.getElem?_append_right (by rw [h.len]; exact hf.1), List.getElem?_replicate, if_pos (by rw [h.len]; omega)]
        · trivial

/-! ### Arguments -/
theorem own_read (h : R X M w0 S μ ρ a w) {β : Nat} {t : CT} {e : TypeId} {x : Atom} {F : Nat → Prop} (hF : ∀ b, Fz X S.heap μ w b → F b) (hβ : ∀ b, (μ β).own b → F b) (hb : S.heap[β]? = some (.row t e x)) : ∃ d, x.get ρ = some d ∧ RdC w F t (μ β).v d := by
  obtain ⟨_, n, xs, ls, h1, h2, h3, h4, h5⟩ := h.blocks β _ hb
  refine ⟨_, h3, ?_⟩
  have hst : Stays (Fz X S.heap μ w) F w w := ⟨hF, fun _ _ => rfl⟩
  have h5' := h5.mono hst
  have key : RdSl w F (rowRd w F t) (rowAgg t) (μ β).v (.lst (ls.map (unflat (rowAgg t)))) := by
    refine ⟨ls, rfl, ?_⟩
    rcases h1.2 with ⟨e1, e2⟩ | ⟨g, cap, cur, e1, _, e3, e5, _, _, e4⟩
    · exact .inl ⟨⟨none, 0, e1, fun _ => rfl⟩, List.eq_nil_of_length_eq_zero (by omega)⟩
    · refine .inr ⟨g, 0, cap, xs, by rw [h4]; exact e1, by omega, hβ g (.inl (by rw [e1]; rfl)), fun j u hu => ?_, h5'⟩
      rw [cell_of_cells e3, Nat.zero_add]
      rw [← e4, List.getElem?_take] at hu
      split at hu
      · simpa using hu
      · cases hu
  cases t with
  | b t => exact h5.elim
  | s1 e => exact key
  | s2 e => exact key

/-- An own slice of plain elements reads. -/
theorem own1_read {et : ET} {e : TypeId} {v : Value} {n : Nat} {xs : List Value} {l : List (List D)} {F : Nat → Prop} (h1 : w.ownsRow 0 e et.cells.length v n xs) (hn : l.length = n) (hr : RdRow RdB et.cells xs l) (hF : ∀ b, blkOf v = some b → F b) :
    RdSl w F (rr1 et) et.agg v (.lst (l.map (unflat et.agg))) := by
  refine ⟨l, rfl, ?_⟩
  rcases h1.2 with ⟨e1, e2⟩ | ⟨g, cap, cur, e1, _, e3, e5, _, _, e4⟩
  · exact .inl ⟨⟨none, 0, e1, fun _ => rfl⟩, List.eq_nil_of_length_eq_zero (by omega)⟩
  · refine .inr ⟨g, 0, cap, xs, by rw [hn]; exact e1, by omega, hF g (by rw [e1]; rfl), fun j u hu => ?_, hr⟩
    rw [cell_of_cells e3, Nat.zero_add]
    rw [← e4, List.getElem?_take] at hu
    split at hu
    · simpa using hu
    · cases hu

theorem rows_row {et : ET} {e' : TypeId} {F : Nat → Prop} : ∀ {us : List Value} {ls : List (List (List D))}, RowsD w et e' us ls → (∀ u ∈ us, ∀ b, blkOf u = some b → F b) →
    RdRow (fun (_ : Unit) v d => RdSl w F (rr1 et) et.agg v d) [()] us (ls.map fun l => [.lst (l.map (unflat et.agg))])
  | [], [], _, _ => rfl
  | u :: us, l :: ls, h, hF => by
    obtain ⟨n, xs, h1, h2, h3⟩ := h.2 0 u l rfl rfl
    refine ⟨[u], us, rfl, ⟨own1_read h1 h2 h3 (hF u (by simp)), trivial⟩, rows_row ⟨by simpa using h.1, fun i u' l' hi hl => h.2 (i + 1) u' l' (by simpa using hi) (by simpa using hl)⟩ fun u' hu' => hF u' (by simp [hu'])⟩
  | [], _ :: _, h, _ => by have := h.1; simp at this
  | _ :: _, [], h, _ => by have := h.1; simp at this

/-- An own slice of own slices reads. -/
theorem ownRows_read {et : ET} {e' e : TypeId} {m : MV} {n : Nat} {ls : List (List (List D))} {F : Nat → Prop} (h1 : w.ownsRow 0 e 1 m.v n m.inner) (hn : ls.length = n) (hr : RowsD w et e' m.inner ls) (hF : ∀ b, m.own b → F b) :
    RdC w F (.s2 et) m.v (rowsDat et.agg ls) := by
  have hrr := rows_row (F := F) hr fun u hu b hb => hF b (.inr ⟨u, hu, hb⟩)
  refine ⟨ls.map fun l => [.lst (l.map (unflat et.agg))], by simp [rowsDat, unflat], ?_⟩
  rcases h1.2 with ⟨e1, e2⟩ | ⟨g, cap, cur, e1, _, e3, e5, _, _, e4⟩
  · exact .inl ⟨⟨none, 0, e1, fun _ => rfl⟩, by rw [List.eq_nil_of_length_eq_zero (by omega : ls.length = 0)]; rfl⟩
  · refine .inr ⟨g, 0, cap, m.inner, by rw [List.length_map, hn]; exact e1, by rw [List.length_map]; omega, hF g (.inl (by rw [e1]; rfl)), fun j u hu => ?_, hrr⟩
    rw [cell_of_cells e3, Nat.zero_add]
    rw [← e4, List.getElem?_take] at hu
    split at hu
    · simpa using hu
    · cases hu

theorem cellAtom_ok (h : R X M w0 S μ ρ a w) {F : Nat → Prop} (hF : ∀ b, Fz X S.heap μ w b → F b) {t : CT} {c : CV} {x : Atom} {v : Value} (hβ : ∀ β, β ∈ rdsOf c → ∀ b, (μ β).own b → F b) (hc : cellAtom S t c = .ok x) (hv : CVR w (Fz X S.heap μ w) S.heap.length μ ρ c v) :
    ∃ d, x.get ρ = some d ∧ RdC w F t v d := by
  unfold cellAtom at hc
  split at hc
  · split at hc
    · rename_i ht
      subst ht
      simp only [Except.ok.injEq] at hc
      subst hc
      obtain ⟨d, hx, hd⟩ := hv
      exact ⟨d, hx, hd.mono ⟨hF, fun _ _ => rfl⟩⟩
    · cases hc
  · split at hc
    · cases hc
    · rename_i hb
      simp only [Except.ok.injEq] at hc
      subst hc
      simp only [CVR, CVR0] at hv
      subst hv
      refine ⟨_, rfl, ?_⟩
      cases t with
      | b t => exact absurd rfl (hb t)
      | s1 e => exact ⟨[], rfl, .inl ⟨⟨none, 0, rfl, fun _ => rfl⟩, rfl⟩⟩
      | s2 e => exact ⟨[], rfl, .inl ⟨⟨none, 0, rfl, fun _ => rfl⟩, rfl⟩⟩
  · rename_i β
    have hβ' := hβ β (by simp [rdsOf])
    split at hc
    · rename_i hrow
      split at hc
      · rename_i ht
        subst ht
        simp only [Except.ok.injEq] at hc
        subst hc
        obtain ⟨_, rfl, _⟩ := hv
        exact own_read h hF hβ' hrow
      · cases hc
    · rename_i hrow
      split at hc
      · rename_i ht
        subst ht
        simp only [Except.ok.injEq] at hc
        subst hc
        obtain ⟨_, rfl, _⟩ := hv
        obtain ⟨_, n, ls, h1, _, h3, h4, h5, _⟩ := h.blocks β _ hrow
        exact ⟨_, h3, ownRows_read h1 h4 h5 hβ'⟩
      · cases hc
    · cases hc
  · cases hc

/-- What is handed over, told of the caller's blocks. -/
def HMat (μ : Mu) (ρ : List D) (β : Nat) (keep : Bool) (m : MV) : Option Atom → Prop
  | none => m.v = (μ β).v ∧ m.inner = (μ β).inner
  | some i => keep = true ∧ m.hist = [] ∧ ∃ n : Int, i.get ρ = some (.int n) ∧ 0 ≤ n ∧ (μ β).inner[n.toNat]? = some m.v
def HMok (μ : Mu) (ρ : List D) (ma : MA) (h : HM) : Prop := h.k = ma.k ∧ h.keep = ma.keep ∧ HMat μ ρ ma.β ma.keep h.m ma.at?
def HMs (μ : Mu) (ρ : List D) : List MA → List HM → Prop
  | [], [] => True
  | a :: as, h :: hs => HMok μ ρ a h ∧ HMs μ ρ as hs
  | _, _ => False

theorem HMok.own {ma : MA} {h : HM} (hm : HMok μ ρ ma h) {b : Nat} (hb : h.m.own b) : (μ ma.β).own b := by
  obtain ⟨_, _, h3⟩ := hm
  unfold HMat at h3
  split at h3
  · rcases hb with hb | hb
    · exact .inl (by rw [← h3.1]; exact hb)
    · exact .inr (by rw [← h3.2]; exact hb)
  · obtain ⟨_, h0, n, _, _, h5⟩ := h3
    exact .inr ⟨_, List.mem_of_getElem? h5, (MV.own_flat h0).1 hb⟩

theorem HMok.app {ma : MA} {h : HM} (hm : HMok μ ρ ma h) (σ : List D) : HMok μ (ρ ++ σ) ma h := by
  obtain ⟨h1, h2, h3⟩ := hm
  refine ⟨h1, h2, ?_⟩
  cases e : ma.at? with
  | none => rw [e] at h3; exact h3
  | some i =>
    rw [e] at h3
    obtain ⟨h4, h5, n, h6, h7⟩ := h3
    exact ⟨h4, h5, n, Atom.get_append h6, h7⟩
theorem HMs.app (σ : List D) : ∀ {as : List MA} {hs : List HM}, HMs μ ρ as hs → HMs μ (ρ ++ σ) as hs
  | [], [], _ => trivial
  | _ :: _, _ :: _, ⟨h1, h2⟩ => ⟨h1.app σ, HMs.app σ h2⟩
theorem HMs.concat : ∀ {as as' : List MA} {hs hs' : List HM}, HMs μ ρ as hs → HMs μ ρ as' hs' → HMs μ ρ (as ++ as') (hs ++ hs')
  | [], _, [], _, _, h => h
  | _ :: _, _, _ :: _, _, ⟨h1, h2⟩, h => ⟨h1, h2.concat h⟩
theorem HMs.length : ∀ {as : List MA} {hs : List HM}, HMs μ ρ as hs → as.length = hs.length
  | [], [], _ => rfl
  | _ :: _, _ :: _, ⟨_, h2⟩ => by simp [h2.length]
theorem HMs.get {h : HM} : ∀ {as : List MA} {hs : List HM} {i : Nat}, HMs μ ρ as hs → hs[i]? = some h → ∃ a, as[i]? = some a ∧ HMok μ ρ a h
  | [], [], i, _, hi => by simp at hi
  | a :: as, h' :: hs, i, ⟨h1, h2⟩, hi => by
    cases i with
    | zero => simp only [List.getElem?_cons_zero, Option.some.injEq] at hi; subst hi; exact ⟨a, rfl, h1⟩
    | succ i => simp only [List.getElem?_cons_succ] at hi ⊢; exact h2.get hi

/-- A block that a MA names is such as it says. -/
def fitMA : Option Atom → MK → SB → Prop
  | none, .row t e, .row t' e' _ => t = t' ∧ e = e'
  | none, .rows et f e, .rows et' f' e' _ _ => et = et' ∧ f = f' ∧ e = e'
  | some _, .row t f, .rows et f' _ _ _ => t = .s1 et ∧ f = f'
  | _, _, _ => False
def MAok (S : SS) (ma : MA) : Prop := ∃ sb, S.heap[ma.β]? = some sb ∧ fitMA ma.at? ma.k sb ∧ (ma.at? ≠ none → ma.keep = true)
theorem fit_mine {i : Option Atom} {k : MK} {sb : SB} (h : fitMA i k sb) : mineB sb = true := by
  cases i <;> cases k <;> cases sb <;> first | rfl | exact h.elim

theorem evs_app {xs : List Atom} {ρ σ : List D} (h : ∀ x ∈ xs, x.get ρ ≠ none) : evs (ρ ++ σ) xs = evs ρ xs := by
  unfold evs
  refine List.map_congr_left fun x hx => ?_
  cases e : x.get ρ with
  | none => exact absurd e (h x hx)
  | some d => rw [Atom.ev_of_get e, Atom.ev_of_get (Atom.get_append e)]

/-- What the argument functions give. -/
def AOK (X : Nat → Prop) (w : World) (S : SS) (μ : Mu) (p : AR) (ρ' : List D) (C : (Nat → Prop) → List D → List HM → Prop) : Prop :=
  ∃ hs, HMs μ ρ' p.mas hs ∧ (∀ ma ∈ p.mas, MAok S ma) ∧ (∀ x ∈ p.xs, x.get ρ' ≠ none) ∧ (∀ β ∈ p.rds, live S.heap β) ∧
    ∀ F : Nat → Prop, (∀ b, Fz X S.heap μ w b → F b) → (∀ β ∈ p.rds, ∀ b, (μ β).own b → F b) → (∀ β cs, S.heap[β]? = some (.var cs) → ∀ b, (μ β).own b → F b) → C F (evs ρ' p.xs) hs

theorem AOK.app {p q : AR} {ρ' σ : List D} {C1 C2 : (Nat → Prop) → List D → List HM → Prop} (h1 : AOK X w S μ p ρ' C1) (h2 : AOK X w S μ q (ρ' ++ σ) C2) :
    AOK X w S μ (p.app q) (ρ' ++ σ) (fun F ds hs => ∃ d1 d2 m1 m2, ds = d1 ++ d2 ∧ hs = m1 ++ m2 ∧ C1 F d1 m1 ∧ C2 F d2 m2) := by
  obtain ⟨hs, a1, a2, a3, a4, a5⟩ := h1
  obtain ⟨ks, b1, b2, b3, b4, b5⟩ := h2
  refine ⟨hs ++ ks, (a1.app σ).concat b1, fun ma hm => ?_, fun x hx => ?_, fun β hb => ?_, fun F f1 f2 f3 => ?_⟩
  · rcases List.mem_append.1 hm with h | h
    · exact a2 ma h
    · exact b2 ma h
  · rcases List.mem_append.1 hx with h | h
    · cases e : x.get ρ' with
      | none => exact absurd e (a3 x h)
      | some d => rw [Atom.get_append e]; simp
    · exact b3 x h
  · rcases List.mem_append.1 hb with h | h
    · exact a4 β h
    · exact b4 β h
  · refine ⟨evs ρ' p.xs, evs (ρ' ++ σ) q.xs, hs, ks, ?_, rfl, a5 F f1 (fun β hb => f2 β (List.mem_append.2 (.inl hb))) f3, b5 F f1 (fun β hb => f2 β (List.mem_append.2 (.inr hb))) f3⟩
    show evs (ρ' ++ σ) (p.xs ++ q.xs) = _
    rw [← evs_app (σ := σ) a3]
    simp [evs]

theorem AOK.nil {ρ' : List D} : AOK X w S μ .nil ρ' (fun _ ds hs => ds = [] ∧ hs = []) := ⟨[], trivial, by simp [AR.nil], by simp [AR.nil], by simp [AR.nil], fun _ _ _ _ => ⟨rfl, rfl⟩⟩
theorem AOK.imp {p : AR} {ρ' : List D} {C1 C2 : (Nat → Prop) → List D → List HM → Prop} (h : AOK X w S μ p ρ' C1) (hi : ∀ F, (∀ b, Fz X S.heap μ w b → F b) → (∀ β cs, S.heap[β]? = some (.var cs) → ∀ b, (μ β).own b → F b) → ∀ ds hs, C1 F ds hs → C2 F ds hs) : AOK X w S μ p ρ' C2 := by
  obtain ⟨hs, a1, a2, a3, a4, a5⟩ := h
  exact ⟨hs, a1, a2, a3, a4, fun F f1 f2 f3 => hi F f1 f3 _ _ (a5 F f1 f2 f3)⟩

theorem push_split {p q : List Push} {ρ ρ' : List D} (h : pushAll (p ++ q) ρ = some ρ') : ∃ σ, pushAll p ρ = some (ρ ++ σ) ∧ σ.length = p.length ∧ pushAll q (ρ ++ σ) = some ρ' := by
  rw [pushAll_append] at h
  cases e : pushAll p ρ with
  | none => rw [e] at h; cases h
  | some ρ1 =>
    rw [e, Option.bind_some] at h
    obtain ⟨σ, rfl, hl⟩ := pushAll_env e
    exact ⟨σ, rfl, hl, h⟩

theorem row_own {t : CT} {e : TypeId} {x : Atom} {β : Nat} (h : R X M w0 S μ ρ a w) (hb : S.heap[β]? = some (.row t e x)) {F : Nat → Prop} (hF : ∀ b, Fz X S.heap μ w b → F b) : ∃ d, x.get ρ = some d ∧ OwnK w F (.row t e) (μ β) d := by
  obtain ⟨h0, n, xs, ls, h1, h2, h3, h4, h5⟩ := h.blocks β _ hb
  exact ⟨_, h3, h0, n, xs, ls, h1, rfl, h4, h5.mono ⟨hF, fun _ _ => rfl⟩⟩

theorem argCell_ok (h : R X M w0 S μ ρ a w) {σ : List D} {pc : PC} {c : CV} {p : AR} {v : Value} {ρ' : List D} (hc : argCell S (ρ ++ σ).length pc c = .ok p) (hv : CVR w (Fz X S.heap μ w) S.heap.length μ ρ c v)
    (hp : pushAll p.pre (ρ ++ σ) = some ρ') : AOK X w S μ p ρ' (fun F ds hs => ∃ d, ds = [d] ∧ ArgC w F pc v d hs) := by
  unfold argCell at hc
  split at hc
  · rename_i t
    obtain ⟨x, h1, h2⟩ := bind_ok hc
    simp only [Except.ok.injEq] at h2
    subst h2
    simp only [pushAll, Option.some.injEq] at hp
    subst hp
    have key := fun (F : Nat → Prop) (f1 : ∀ b, Fz X S.heap μ w b → F b) (f2 : ∀ β ∈ rdsOf c, ∀ b, (μ β).own b → F b) => cellAtom_ok h f1 f2 h1 hv
    obtain ⟨d0, hd0, _⟩ := key (fun _ => True) (fun _ _ => trivial) (fun _ _ _ _ => trivial)
    refine ⟨[], trivial, by simp, fun y hy => ?_, fun β hb => ?_, fun F f1 f2 _ => ?_⟩
    · simp only [List.mem_singleton] at hy; subst hy; rw [Atom.get_append hd0]; simp
    · -- an own block that is read is there
      match c, hb with
      | .s (.own γ), hb =>
        simp only [rdsOf, List.mem_singleton] at hb
        subst hb
        simp only [cellAtom] at h1
        split at h1
        · rename_i e; exact ⟨_, e, by simp⟩
        · rename_i e; exact ⟨_, e, by simp⟩
        · cases h1
    · obtain ⟨d, hd, hr⟩ := key F f1 f2
      refine ⟨d, ?_, rfl, hr⟩
      simp [evs, Atom.ev_of_get (Atom.get_append (σ := σ) hd)]
  · rename_i k keep β
    split at hc
    · rename_i t e x t' e' hb
      split at hc
      · rename_i ht
        obtain ⟨rfl, rfl⟩ := ht
        simp only [Except.ok.injEq] at hc
        subst hc
        simp only [pushAll, Option.some.injEq] at hp
        subst hp
        obtain ⟨_, rfl, _⟩ := hv
        obtain ⟨d0, hd0, _⟩ := row_own h hb (fun b hb => hb)
        refine ⟨[⟨μ β, .row t e, keep⟩], ⟨⟨rfl, rfl, rfl, rfl⟩, trivial⟩, fun ma hm => ?_, fun y hy => ?_, by simp, fun F f1 _ _ => ?_⟩
        · simp only [List.mem_singleton] at hm; subst hm; exact ⟨_, hb, ⟨rfl, rfl⟩, fun e => absurd rfl e⟩
        · simp only [List.mem_singleton] at hy; subst hy; rw [Atom.get_append hd0]; simp
        · obtain ⟨d, hd, hr⟩ := row_own h hb f1
          exact ⟨d, by simp [evs, Atom.ev_of_get (Atom.get_append (σ := σ) hd)], _, rfl, rfl, hr⟩
      · cases hc
    · rename_i et f e ver x et' f' e' hb
      split at hc
      · rename_i ht
        obtain ⟨rfl, rfl, rfl⟩ := ht
        simp only [Except.ok.injEq] at hc
        subst hc
        simp only [pushAll, Option.some.injEq] at hp
        subst hp
        obtain ⟨_, rfl, _⟩ := hv
        obtain ⟨_, n, ls, h1, _, h3, h4, h5, h6⟩ := h.blocks β _ hb
        have hin : (MV.mk (μ β).v [(μ β).inner]).inner = (μ β).inner := rfl
        refine ⟨[⟨⟨(μ β).v, [(μ β).inner]⟩, .rows et f e, keep⟩], ⟨⟨rfl, rfl, rfl, hin⟩, trivial⟩, fun ma hm => ?_, fun y hy => ?_, by simp, fun F f1 _ _ => ?_⟩
        · simp only [List.mem_singleton] at hm; subst hm; exact ⟨_, hb, ⟨rfl, rfl, rfl⟩, fun e => absurd rfl e⟩
        · simp only [List.mem_singleton] at hy; subst hy; rw [Atom.get_append h3]; simp
        · exact ⟨rowsDat et.agg ls, by simp only [evs, List.map_cons, List.map_nil, Atom.ev_of_get (Atom.get_append (σ := σ) h3)], _, rfl, rfl, rfl, n, ls, h1, rfl, h4, h5, h6⟩
      · cases hc
    · cases hc
  · rename_i k keep β ver i
    split at hc
    · rename_i et f e v' x et' f' hb
      split at hc
      · rename_i ht
        obtain ⟨rfl, rfl, rfl, rfl⟩ := ht
        simp only [Except.ok.injEq] at hc
        subst hc
        obtain ⟨_, l, n, g1, g2, g3, g4, _⟩ := hv
        obtain ⟨h0, m, ls, h1, _, h3, h4, h5, h6⟩ := h.blocks β _ hb
        rw [MV.hist_last h0] at g1
        simp only [Option.some.injEq] at g1
        subst g1
        obtain ⟨d, hd, rfl⟩ := pushAll_one hp
        simp only [evs, List.map_cons, List.map_nil, Atom.ev_of_get (Atom.get_append (σ := σ) h3), Atom.ev_of_get (Atom.get_append (σ := σ) g2), rowsDat, Prim.ev, List.length_map] at hd
        split at hd
        · rename_i hlt
          simp only [List.getElem?_map, Option.map_eq_some_iff] at hd
          obtain ⟨l, hl, rfl⟩ := hd
          obtain ⟨k, ys, hk1, hk2, hk3⟩ := h5.2 n.toNat _ l g4 hl
          refine ⟨[⟨⟨v, []⟩, .row (.s1 et) f, true⟩], ⟨⟨rfl, rfl, rfl, rfl, n, Atom.get_append (Atom.get_append g2), g3, g4⟩, trivial⟩, fun ma hm => ?_, fun y hy => ?_, by simp, fun F f1 _ _ => ?_⟩
          · simp only [List.mem_singleton] at hm; subst hm; exact ⟨_, hb, ⟨rfl, rfl⟩, fun _ => rfl⟩
          · simp only [List.mem_singleton] at hy; subst hy; rw [get_new rfl]; simp
          · exact ⟨.lst (l.map (unflat et.agg)), by simp only [evs, List.map_cons, List.map_nil, Atom.ev_of_get (get_new (ρ := ρ ++ σ) (n := (ρ ++ σ).length) rfl)], _, rfl, rfl, rfl, k, ys, l, hk1, rfl, hk2, hk3⟩
        · cases hd
      · cases hc
    · cases hc
  · cases hc

theorem argCells_ok (h : R X M w0 S μ ρ a w) : ∀ {ts : List PC} {cs : List CV} {σ : List D} {p : AR} {vs : List Value} {ρ' : List D}, argCells S (ρ ++ σ).length ts cs = .ok p → CVRs w (Fz X S.heap μ w) S.heap.length μ ρ cs vs →
    pushAll p.pre (ρ ++ σ) = some ρ' → AOK X w S μ p ρ' (fun F ds hs => ArgCs w F ts vs ds hs)
  | [], [], σ, p, [], ρ', hc, _, _ => by
    simp only [argCells, Except.ok.injEq] at hc
    subst hc
    exact AOK.nil
  | t :: ts, c :: cs, σ, p, v :: vs, ρ', hc, ⟨h1, h2⟩, hp => by
    simp only [argCells] at hc
    obtain ⟨p1, g1, hc⟩ := bind_ok hc
    obtain ⟨p2, g2, hc⟩ := bind_ok hc
    simp only [Except.ok.injEq] at hc
    subst hc
    obtain ⟨σ1, q1, q2, q3⟩ := push_split hp
    have e : (ρ ++ σ).length + p1.pre.length = (ρ ++ (σ ++ σ1)).length := by simp [q2]; omega
    rw [e] at g2
    rw [List.append_assoc] at q3
    obtain ⟨σ2, rfl, _⟩ := pushAll_env q3
    have a1 := argCell_ok h g1 h1 q1
    have a2 := argCells_ok h g2 h2 q3
    rw [List.append_assoc] at a1
    exact (a1.app a2).imp fun F _ _ ds hs ⟨d1, d2, m1, m2, e1, e2, ⟨d, e3, e4⟩, e5⟩ => ⟨d, d2, m1, m2, by rw [e1, e3]; rfl, e2, e4, e5⟩
  | [], _ :: _, _, _, _, _, hc, _, _ => by simp [argCells] at hc
  | _ :: _, [], _, _, _, _, hc, _, _ => by simp [argCells] at hc

theorem ptr_ok (h : R X M w0 S μ ρ a w) {ts : List PC} {c : CV0} {l : List CV} {σ : List D} {p : AR} {v : Value} {ρ' : List D} {m : Nat} (hl : ptrCells S m c = .ok l) (hc : argCells S (ρ ++ σ).length ts l = .ok p) (hv : CVR0 w (Fz X S.heap μ w) S.heap.length μ ρ c v)
    (hp : pushAll p.pre (ρ ++ σ) = some ρ') : AOK X w S μ p ρ' (fun F ds hs => PtrR w F ts v ds hs) := by
  unfold ptrCells at hl
  split at hl
  · rename_i β off
    split at hl
    · rename_i cs hcs
      simp only [Except.ok.injEq] at hl
      subst hl
      obtain ⟨_, b, hb, rfl⟩ := hv
      obtain ⟨h0, b', arr, T, hb', _, hheap, hC⟩ := h.blocks β _ hcs
      rw [hb] at hb'
      simp only [Value.pointer.injEq, Option.some.injEq, Addr.mk.injEq, and_true] at hb'
      subst hb'
      exact (argCells_ok h hc ((hC.drop off).take m) hp).imp fun F _ f3 ds hs hA => ⟨b, off, (arr.toList.drop off).take m, rfl, f3 β cs hcs b (.inl (by rw [hb]; rfl)), fun j u hu => by rw [cell_of_cells hheap]; exact list_of_arr hu, hA⟩
    · cases hl
  · rename_i cs off
    simp only [Except.ok.injEq] at hl
    subst hl
    obtain ⟨b, o, rfl, hF, hcc⟩ := hv
    obtain ⟨us, hul, huc, hC⟩ := fvals_of (w := w) (F := Fz X S.heap μ w) (ρ := ρ) (cs := (cs.drop off).take m) (Pos := fun j u => w.cell? ⟨b, o + off + j, none⟩ = some u) (hl := S.heap.length) (μ := μ) (fun j c hj => by
      have hj' : cs[off + j]? = some c := getElem?_part hj
      obtain ⟨u, h1, h2⟩ := hcc (off + j) c hj'
      exact ⟨u, by rw [Nat.add_assoc]; exact h1, h2⟩)
    exact (argCells_ok h hc hC hp).imp fun F f1 _ ds hs hA => ⟨b, o + off, us, rfl, f1 b hF, huc, hA⟩
  · cases hl

theorem argCaps_ok (h : R X M w0 S μ ρ a w) : ∀ {tss : List (List PC)} {cs : List CV0} {σ : List D} {p : AR} {vs : List Value} {ρ' : List D}, argCaps S (ρ ++ σ).length tss cs = .ok p → vs.length = cs.length →
    (∀ (j : Nat) c u, cs[j]? = some c → vs[j]? = some u → CVR0 w (Fz X S.heap μ w) S.heap.length μ ρ c u) → pushAll p.pre (ρ ++ σ) = some ρ' → AOK X w S μ p ρ' (fun F ds hs => CapsR w F tss vs ds hs)
  | [], [], σ, p, [], ρ', hc, _, _, _ => by
    simp only [argCaps, Except.ok.injEq] at hc
    subst hc
    exact AOK.nil
  | ts :: tss, c :: cs, σ, p, v :: vs, ρ', hc, hl, hv, hp => by
    simp only [argCaps] at hc
    obtain ⟨l, g0, hc⟩ := bind_ok hc
    obtain ⟨p1, g1, hc⟩ := bind_ok hc
    obtain ⟨p2, g2, hc⟩ := bind_ok hc
    simp only [Except.ok.injEq] at hc
    subst hc
    obtain ⟨σ1, q1, q2, q3⟩ := push_split hp
    have e : (ρ ++ σ).length + p1.pre.length = (ρ ++ (σ ++ σ1)).length := by simp [q2]; omega
    rw [e] at g2
    rw [List.append_assoc] at q3
    obtain ⟨σ2, rfl, _⟩ := pushAll_env q3
    have a1 := ptr_ok h g0 g1 (hv 0 c v rfl rfl) q1
    have a2 := argCaps_ok h g2 (by simpa using hl) (fun j c u h1 h2 => hv (j + 1) c u (by simpa using h1) (by simpa using h2)) q3
    rw [List.append_assoc] at a1
    exact (a1.app a2).imp fun F _ _ ds hs hh => hh
  | [], [], _, _, _ :: _, _, _, hl, _, _ => by simp at hl
  | _ :: _, _ :: _, _, _, [], _, _, hl, _, _ => by simp at hl
  | [], _ :: _, _, _, _, _, hc, _, _, _ => by simp [argCaps] at hc
  | _ :: _, [], _, _, _, _, hc, _, _, _ => by simp [argCaps] at hc

theorem argOne_ok (h : R X M w0 S μ ρ a w) {k : PK} {s : SV} {σ : List D} {p : AR} {v : Value} {ρ' : List D} (hc : argOne S (ρ ++ σ).length k s = .ok p) (hv : SVR w (Fz X S.heap μ w) S.heap.length μ ρ s v)
    (hp : pushAll p.pre (ρ ++ σ) = some ρ') : AOK X w S μ p ρ' (fun F ds hs => ArgR w F k v ds hs) := by
  unfold argOne at hc
  split at hc
  · rename_i ag ts s
    split at hc
    · rename_i ag' cs hcs
      split at hc
      · rename_i hag
        subst hag
        unfold svCells at hcs
        split at hcs <;> simp only [Option.some.injEq, Prod.mk.injEq, reduceCtorEq] at hcs
        · obtain ⟨rfl, rfl⟩ := hcs
          exact argCells_ok h hc (vs := [v]) ⟨hv, trivial⟩ hp
        · obtain ⟨rfl, rfl⟩ := hcs
          obtain ⟨arr, rfl, hC⟩ := hv
          exact (argCells_ok h hc hC hp).imp fun F _ _ ds hs hh => ⟨arr, rfl, hh⟩
      · cases hc
    · cases hc
  · obtain ⟨l, g0, hc⟩ := bind_ok hc
    exact ptr_ok h g0 hc hv hp
  · rename_i f caps f' cs
    split at hc
    · rename_i hf
      subst hf
      obtain ⟨arr, rfl, hl, hcc⟩ := hv
      exact (argCaps_ok h hc (vs := arr.toList) (by simpa using hl) (fun j c u h1 h2 => hcc j c u h1 (by simpa using h2)) hp).imp fun F _ _ ds hs hh => ⟨arr, rfl, hh⟩
    · cases hc
  · cases hc

theorem argAll_ok (h : R X M w0 S μ ρ a w) : ∀ {ks : List PK} {ss : List SV} {σ : List D} {p : AR} {vs : List Value} {ρ' : List D}, argAll S (ρ ++ σ).length ks ss = .ok p → ss.length = vs.length →
    (∀ (j : Nat) s u, ss[j]? = some s → vs[j]? = some u → SVR w (Fz X S.heap μ w) S.heap.length μ ρ s u) → pushAll p.pre (ρ ++ σ) = some ρ' → AOK X w S μ p ρ' (fun F ds hs => ArgsR w F ks vs ds hs)
  | [], [], σ, p, [], ρ', hc, _, _, _ => by
    simp only [argAll, Except.ok.injEq] at hc
    subst hc
    exact AOK.nil
  | k :: ks, s :: ss, σ, p, v :: vs, ρ', hc, hl, hv, hp => by
    simp only [argAll] at hc
    obtain ⟨p1, g1, hc⟩ := bind_ok hc
    obtain ⟨p2, g2, hc⟩ := bind_ok hc
    simp only [Except.ok.injEq] at hc
    subst hc
    obtain ⟨σ1, q1, q2, q3⟩ := push_split hp
    have e : (ρ ++ σ).length + p1.pre.length = (ρ ++ (σ ++ σ1)).length := by simp [q2]; omega
    rw [e] at g2
    rw [List.append_assoc] at q3
    obtain ⟨σ2, rfl, _⟩ := pushAll_env q3
    have a1 := argOne_ok h g1 (hv 0 s v rfl rfl) q1
    have a2 := argAll_ok h g2 (by simpa using hl) (fun j s u h1 h2 => hv (j + 1) s u (by simpa using h1) (by simpa using h2)) q3
    rw [List.append_assoc] at a1
    exact (a1.app a2).imp fun F _ _ ds hs hh => hh
  | [], [], _, _, _ :: _, _, _, hl, _, _ => by simp at hl
  | _ :: _, _ :: _, _, _, [], _, _, hl, _, _ => by simp at hl
  | [], _ :: _, _, _, _, _, hc, _, _, _ => by simp [argAll] at hc
  | _ :: _, [], _, _, _, _, hc, _, _, _ => by simp [argAll] at hc

end
end Vs

namespace Vs
open Go Go.RowKit

section
variable {w' : World} {F' : Nat → Prop} {hl' : Nat} {μ' : Mu} {ρ' : List D} {Mine : Nat → Prop}

theorem OwnK.blk {k : MK} {m : MV} {d : D} {x : Atom} (h : ∀ F, OwnK w' F k m d) (hx : x.get ρ' = some d) (hm : ∀ b, m.own b → Mine b) : BlkR Mine w' F' hl' μ' ρ' (k.sb 0 x) m := by
  have h := h F'
  cases k with
  | row t e =>
    obtain ⟨h0, n, xs, ls, h1, rfl, h4, h5⟩ := h
    exact ⟨h0, n, xs, ls, h1, hm, hx, h4, h5⟩
  | rows et e' e =>
    obtain ⟨h0, n, ls, h1, rfl, h4, h5, h6⟩ := h
    exact ⟨h0, n, ls, h1, hm, hx, h4, h5, h6⟩

theorem OwnK.slice {w : World} {F : Nat → Prop} {k : MK} {m : MV} {d : D} (h : OwnK w F k m d) : ∃ a len cap, m.v = .slice a len cap := by
  cases k with
  | row t e => obtain ⟨_, n, xs, ls, h1, _⟩ := h; obtain ⟨a, cap, e⟩ := ownsRow_slice h1; exact ⟨a, n, cap, e⟩
  | rows et e' e => obtain ⟨_, n, ls, h1, _⟩ := h; obtain ⟨a, cap, e⟩ := ownsRow_slice h1; exact ⟨a, n, cap, e⟩

theorem resCells_ok : ∀ {rks : List RK} {n h : Nat} {vs : List Value} {ds : List D} {os : List MV}, ResCs w' rks vs ds os → (∀ (i : Nat) d, ds[i]? = some d → ρ'[n + i]? = some d) →
    (∀ (j : Nat) u, os[j]? = some u → μ' (h + j) = u) → h + os.length ≤ hl' → (∀ u ∈ os, ∀ b, u.own b → Mine b) →
    CVRs w' F' hl' μ' ρ' (resCells rks n h).1 vs ∧ (resCells rks n h).2.length = os.length ∧ ds.length = rks.length ∧ ∀ (j : Nat) sb, (resCells rks n h).2[j]? = some sb → BlkR Mine w' F' hl' μ' ρ' sb (μ' (h + j))
  | [], n, h, [], [], [], _, _, _, _, _ => ⟨trivial, rfl, rfl, by simp [resCells]⟩
  | .cell t :: rs, n, h, v :: vs, d :: ds, os, ⟨h1, h2⟩, hd, ho, hl, hm => by
    obtain ⟨i1, i2, i3, i4⟩ := resCells_ok (n := n + 1) (h := h) h2 (fun i d' hi => by
      have := hd (i + 1) d' (by simpa using hi)
      rw [show n + 1 + i = n + (i + 1) from by omega]; exact this) ho hl hm
    refine ⟨⟨⟨d, ?_, h1⟩, i1⟩, i2, by simp [i3], i4⟩
    have := hd 0 d rfl
    simpa [Atom.get] using this
  | .own k :: rs, n, h, v :: vs, d :: ds, o :: os, ⟨h0, h1, h2⟩, hd, ho, hl, hm => by
    obtain ⟨i1, i2, i3, i4⟩ := resCells_ok (n := n + 1) (h := h + 1) h2 (fun i d' hi => by
      have := hd (i + 1) d' (by simpa using hi)
      rw [show n + 1 + i = n + (i + 1) from by omega]; exact this)
      (fun j u hj => by have := ho (j + 1) u (by simpa using hj); rw [show h + 1 + j = h + (j + 1) from by omega]; exact this) (by simp at hl; omega) (fun u hu => hm u (by simp [hu]))
    have hv : μ' h = o := by have := ho 0 o rfl; simpa using this
    have hdn : ρ'[n]? = some d := by have := hd 0 d rfl; simpa using this
    refine ⟨⟨⟨by simp at hl; omega, by rw [hv, h0], ?_⟩, i1⟩, by simp [resCells, i2], by simp [i3], ?_⟩
    · rw [hv]; exact (h1 (fun _ => True)).slice
    · intro j sb hj
      cases j with
      | zero =>
        simp only [resCells, List.getElem?_cons_zero, Option.some.injEq] at hj
        subst hj
        simp only [Nat.add_zero, hv]
        exact OwnK.blk h1 hdn (hm o (by simp))
      | succ j =>
        simp only [resCells, List.getElem?_cons_succ] at hj
        have := i4 j sb hj
        rw [show h + 1 + j = h + (j + 1) from by omega] at this
        exact this

theorem resAll_ok : ∀ {rs : List (Bool × List RK)} {n h : Nat} {vs : List Value} {ds : List D} {os : List MV}, ResAll w' rs vs ds os → (∀ (i : Nat) d, ds[i]? = some d → ρ'[n + i]? = some d) →
    (∀ (j : Nat) u, os[j]? = some u → μ' (h + j) = u) → h + os.length ≤ hl' → (∀ u ∈ os, ∀ b, u.own b → Mine b) →
    TVR w' F' hl' μ' ρ' (resAll rs n h).1 vs ∧ (resAll rs n h).2.length = os.length ∧ ds.length = resCount rs ∧ ∀ (j : Nat) sb, (resAll rs n h).2[j]? = some sb → BlkR Mine w' F' hl' μ' ρ' sb (μ' (h + j))
  | [], n, h, [], ds, os, ⟨h1, h2⟩, _, _, _, _ => by subst h1 h2; exact ⟨trivial, rfl, rfl, by simp [resAll]⟩
  | (ag, rks) :: r, n, h, v :: vs, ds, os, ⟨d1, d2, o1, o2, h1, h2, h3, h4⟩, hd, ho, hl, hm => by
    subst h1 h2
    have hd1 : ∀ (i : Nat) d, d1[i]? = some d → ρ'[n + i]? = some d := fun i d hi => hd i d (by
      rw [List.getElem?_append_left]; exact hi
      rcases Nat.lt_or_ge i d1.length with h' | h'
      · exact h'
      · rw [List.getElem?_eq_none h'] at hi; cases hi)
    have ho1 : ∀ (j : Nat) u, o1[j]? = some u → μ' (h + j) = u := fun j u hj => ho j u (by
      rw [List.getElem?_append_left]; exact hj
      rcases Nat.lt_or_ge j o1.length with h' | h'
      · exact h'
      · rw [List.getElem?_eq_none h'] at hj; cases hj)
    have hP : PVR w' F' hl' μ' ρ' ag (resCells rks n h).1 v ∧ (resCells rks n h).2.length = o1.length ∧ d1.length = rks.length ∧ ∀ (j : Nat) sb, (resCells rks n h).2[j]? = some sb → BlkR Mine w' F' hl' μ' ρ' sb (μ' (h + j)) := by
      have hl1 : h + o1.length ≤ hl' := by simp at hl; omega
      have hm1 : ∀ u ∈ o1, ∀ b, u.own b → Mine b := fun u hu => hm u (by simp [hu])
      cases ag with
      | true =>
        obtain ⟨arr, e, hc⟩ := h3
        obtain ⟨i1, i2, i3, i4⟩ := resCells_ok (F' := F') hc hd1 ho1 hl1 hm1
        exact ⟨⟨arr, e, i1⟩, i2, i3, i4⟩
      | false =>
        obtain ⟨hlen, hc⟩ := h3
        obtain ⟨i1, i2, i3, i4⟩ := resCells_ok (F' := F') hc hd1 ho1 hl1 hm1
        refine ⟨?_, i2, i3, i4⟩
        have hl1 := i1.length
        simp only [List.length_cons, List.length_nil] at hl1
        obtain ⟨c, hc⟩ := List.length_eq_one_iff.1 hl1
        rw [hc] at i1
        exact ⟨c, hc, i1.1⟩
    obtain ⟨p1, p2, p3, p4⟩ := hP
    obtain ⟨q1, q2, q4, q3⟩ := resAll_ok (n := n + rks.length) (h := h + (resCells rks n h).2.length) h4 (fun i d hi => by
        have := hd (d1.length + i) d (by rw [List.getElem?_append_right (by omega)]; simpa using hi)
        rw [← p3, Nat.add_assoc]; exact this)
      (fun j u hj => by
        have := ho (o1.length + j) u (by rw [List.getElem?_append_right (by omega)]; simpa using hj)
        rw [p2, Nat.add_assoc]; exact this) (by simp at hl; omega) (fun u hu => hm u (by simp [hu]))
    refine ⟨⟨p1, q1⟩, by show ((resCells rks n h).2 ++ (resAll r _ _).2).length = _; rw [List.length_append, q2, p2, List.length_append], ?_, ?_⟩
    · rw [List.length_append, p3, q4]; simp [resCount]
    intro j sb hj
    simp only [resAll] at hj
    rcases Nat.lt_or_ge j (resCells rks n h).2.length with hlt | hge
    · rw [List.getElem?_append_left hlt] at hj
      exact p4 j sb hj
    · rw [List.getElem?_append_right hge] at hj
      have := q3 _ sb hj
      rw [show h + (resCells rks n h).2.length + (j - (resCells rks n h).2.length) = h + j from by omega] at this
      exact this
end

/-! ### What is handed back -/
/-- The own blocks that a call has turned: what they are now. -/
def updMA (μ : Mu) : List MA → List MV → List (Nat × MV)
  | [], _ => []
  | a :: as, ks =>
    if a.keep = false then updMA μ as ks else
    match ks with
    | [] => []
    | k :: ks => (a.β, match a.at?, k.hist with | none, _ :: _ => ⟨(μ a.β).v, (μ a.β).hist ++ [k.inner]⟩ | _, _ => μ a.β) :: updMA μ as ks

section
variable {X : Nat → Prop} {M : Hand} {w0 w w' : World} {S : SS} {μ μ' : Mu} {ρ ρ1 : List D} {a : Act} {F' : Nat → Prop} {hl' : Nat} {Mine : Nat → Prop}

/-- What is known of a call's own arguments. -/
structure CallOk (X : Nat → Prop) (M : Hand) (w0 w w' : World) (S : SS) (μ : Mu) (ρ : List D) (a : Act) (ρ0 : List D) (masA : List MA) (hsA : List HM) : Prop where
  r : R X M w0 S μ ρ a w
  pre : ∃ σ, ρ0 = ρ ++ σ
  hms : HMs μ ρ0 masA hsA
  ok : ∀ ma ∈ masA, MAok S ma
  nd : (masA.map MA.β).Nodup
  same : ∀ b, b < w.heap.size → (∀ x ∈ hsA, ¬ x.m.own b) → w'.heap[b]? = w.heap[b]?
  size : w.heap.size ≤ w'.heap.size

theorem MAok.live {ma : MA} (h : MAok S ma) : live S.heap ma.β := by
  obtain ⟨sb, h1, h2, _⟩ := h
  exact ⟨sb, h1, fun e => by subst e; have := fit_mine h2; cases this⟩

theorem nodup_map_inj {α : Type} {g : α → Nat} : ∀ {l : List α}, (l.map g).Nodup → ∀ {i j : Nat} {x y : α}, l[i]? = some x → l[j]? = some y → g x = g y → i = j
  | [], _, i, _, _, _, hi, _, _ => by simp at hi
  | z :: l, h, i, j, x, y, hi, hj, e => by
    simp only [List.map_cons, List.nodup_cons, List.mem_map, not_exists, not_and] at h
    cases i with
    | zero =>
      cases j with
      | zero => rfl
      | succ j =>
        simp only [List.getElem?_cons_zero, Option.some.injEq, List.getElem?_cons_succ] at hi hj
        subst hi
        exact absurd e.symm (h.1 y (List.mem_of_getElem? hj))
    | succ i =>
      cases j with
      | zero =>
        simp only [List.getElem?_cons_zero, Option.some.injEq, List.getElem?_cons_succ] at hi hj
        subst hj
        exact absurd e (h.1 x (List.mem_of_getElem? hi))
      | succ j =>
        simp only [List.getElem?_cons_succ] at hi hj
        rw [nodup_map_inj h.2 hi hj e]

variable {ρ0 : List D} {masA : List MA} {hsA : List HM}

/-- Whoever owns a block that was handed over with 'x' is x's own block. -/
theorem CallOk.whose (c : CallOk X M w0 w w' S μ ρ a ρ0 masA hsA) {i : Nat} {ma : MA} (hi : masA[i]? = some ma) {x : HM} (hx : x ∈ hsA) {b : Nat} (hb : x.m.own b) (hβ : (μ ma.β).own b) : hsA[i]? = some x := by
  obtain ⟨j, hj⟩ := List.getElem?_of_mem hx
  obtain ⟨ma', hma', hok⟩ := c.hms.get hj
  have ho := hok.own hb
  by_cases he : ma'.β = ma.β
  · rw [nodup_map_inj c.nd hi hma' he.symm]; exact hj
  · exact absurd hβ (c.r.inj ma'.β ma.β (c.ok ma' (List.mem_of_getElem? hma')).live (c.ok ma (List.mem_of_getElem? hi)).live he b ho)

theorem afterMA_ok (c : CallOk X M w0 w w' S μ ρ a ρ0 masA hsA) (hMine : ∀ β sb, S.heap[β]? = some sb → mineB sb = true → ∀ b, (μ β).own b → Mine b) :
    ∀ {mas : List MA} {hs : List HM} {off n q : Nat} {h h' : List SB} {post : List Push} {ρ1 ρ2 : List D} {ks : List MV} {ds2 : List D},
      (∀ (i : Nat) ma, mas[i]? = some ma → masA[off + i]? = some ma) → (∀ (i : Nat) x, hs[i]? = some x → hsA[off + i]? = some x) → mas.length = hs.length →
      afterMA mas n q h = (h', post) → (∀ ma ∈ mas, h[ma.β]? = S.heap[ma.β]?) → KeptR w' hs ds2 ks → (∀ (j : Nat) d, ds2[j]? = some d → ρ1[n + j]? = some d) → (∃ σ, ρ1 = ρ0 ++ σ) → ρ1.length = q → pushAll post ρ1 = some ρ2 →
      (∀ k ∈ ks, ∀ b, k.own b → Mine b) →
      h'.length = h.length ∧ (∀ β, β ∉ mas.map MA.β → h'[β]? = h[β]?) ∧ (∀ ma ∈ mas, ma.keep = false → h'[ma.β]? = some .dead) ∧ (∀ ma ∈ mas, ma.keep = true → ∃ m, (ma.β, m) ∈ updMA μ mas ks) ∧
        ∀ p ∈ updMA μ mas ks, ∃ sb, h'[p.1]? = some sb ∧ BlkR Mine w' F' hl' μ' ρ2 sb p.2
  | [], hs, off, n, q, h, h', post, ρ1, ρ2, ks, ds2, _, _, _, ha, _, _, _, _, _, _, _ => by
    simp only [afterMA, Prod.mk.injEq] at ha
    obtain ⟨rfl, rfl⟩ := ha
    exact ⟨rfl, fun _ _ => rfl, by simp, by simp, by simp [updMA]⟩
  | ma :: mas, [], off, n, q, h, h', post, ρ1, ρ2, ks, ds2, _, _, hl, _, _, _, _, _, _, _, _ => by simp at hl
  | ma :: mas, x :: hs, off, n, q, h, h', post, ρ1, ρ2, ks, ds2, hA, hB, hl, ha, hh, hk, hd, hρ, hq, hp, hm => by
    have hA0 := hA 0 ma rfl
    have hB0 := hB 0 x rfl
    simp only [Nat.add_zero] at hA0 hB0
    have hA' : ∀ (i : Nat) ma', mas[i]? = some ma' → masA[off + 1 + i]? = some ma' := fun i ma' hi => by
      have := hA (i + 1) ma' (by simpa using hi); rw [show off + 1 + i = off + (i + 1) from by omega]; exact this
    have hB' : ∀ (i : Nat) y, hs[i]? = some y → hsA[off + 1 + i]? = some y := fun i y hi => by
      have := hB (i + 1) y (by simpa using hi); rw [show off + 1 + i = off + (i + 1) from by omega]; exact this
    have hll : mas.length = hs.length := by simpa using hl
    have hne : ∀ ma' ∈ mas, ma'.β ≠ ma.β := fun ma' hm' e => by
      obtain ⟨i, hi⟩ := List.getElem?_of_mem hm'
      have := nodup_map_inj c.nd (hA' i ma' hi) hA0 e
      omega
    obtain ⟨ma0, hma0, hok0⟩ := c.hms.get hB0
    rw [hA0] at hma0
    simp only [Option.some.injEq] at hma0
    subst hma0
    obtain ⟨hk1, hk2, hk3⟩ := hok0
    have hlive := (c.ok ma (List.mem_of_getElem? hA0)).live
    have hh0 := hh ma (by simp)
    have fin : ∀ {sb : SB} {m : MV} {h1 h1' : List SB} {n1 q1 : Nat} {post1 : List Push} {ρ11 : List D} {ks1 : List MV} {ds21 : List D}, h1 = h.set ma.β sb → afterMA mas n1 q1 h1 = (h1', post1) → h1' = h' → KeptR w' hs ds21 ks1 →
        (∀ (j : Nat) d, ds21[j]? = some d → ρ11[n1 + j]? = some d) → (∃ σ, ρ11 = ρ0 ++ σ) → ρ11.length = q1 → pushAll post1 ρ11 = some ρ2 → (∀ k ∈ ks1, ∀ b, k.own b → Mine b) →
        h'.length = h.length ∧ (∀ β, β ∉ (ma :: mas).map MA.β → h'[β]? = h[β]?) ∧ (∀ ma' ∈ mas, ma'.keep = false → h'[ma'.β]? = some .dead) ∧ (∀ ma' ∈ mas, ma'.keep = true → ∃ m, (ma'.β, m) ∈ updMA μ mas ks1) ∧
          (∀ p ∈ updMA μ mas ks1, ∃ sb, h'[p.1]? = some sb ∧ BlkR Mine w' F' hl' μ' ρ2 sb p.2) ∧ h'[ma.β]? = some sb := by
      intro sb m h1 h1' n1 q1 post1 ρ11 ks1 ds21 e1 e2 e3 e4 e5 e6 e7 e8 e9
      subst e1 e3
      obtain ⟨i1, i2, i3, i4, i5⟩ := afterMA_ok c hMine hA' hB' hll e2 (fun ma' hm' => by rw [List.getElem?_set_ne (fun e => hne ma' hm' e.symm)]; exact hh ma' (by simp [hm'])) e4 e5 e6 e7 e8 e9
      refine ⟨by simpa using i1, fun β hβ => ?_, i3, i4, i5, ?_⟩
      · simp only [List.map_cons, List.mem_cons, not_or] at hβ
        rw [i2 β hβ.2, List.getElem?_set_ne (fun e => hβ.1 e.symm)]
      · rw [i2 ma.β (fun e => ?_)]
        · rw [List.getElem?_set_self]
          have := live_lt hlive
          obtain ⟨sb', hs', _⟩ := hlive
          rw [← hh0] at hs'
          exact (List.getElem?_eq_some_iff.1 hs').1
        · obtain ⟨ma', h1, h2⟩ := List.mem_map.1 e
          exact hne ma' h1 h2
    unfold afterMA at ha
    cases hkeep : ma.keep with
    | false =>
      rw [if_pos hkeep] at ha
      have hk' : KeptR w' hs ds2 ks := by
        unfold KeptR at hk
        rw [hk2, hkeep] at hk
        simpa using hk
      obtain ⟨i1, i2, i3, i4, i5, i6⟩ := fin (m := μ ma.β) rfl ha rfl hk' hd hρ hq hp hm
      have hu : updMA μ (ma :: mas) ks = updMA μ mas ks := by rw [updMA.eq_def]; simp only [if_pos hkeep]
      rw [hu]
      refine ⟨i1, i2, fun ma' hm' hf => ?_, fun ma' hm' hf => ?_, i5⟩
      · rcases List.mem_cons.1 hm' with rfl | hm'
        · exact i6
        · exact i3 ma' hm' hf
      · rcases List.mem_cons.1 hm' with rfl | hm'
        · rw [hkeep] at hf; cases hf
        · exact i4 ma' hm' hf
    | true =>
      rw [if_neg (by rw [hkeep]; simp)] at ha
      have hk' := hk
      unfold KeptR at hk'
      rw [hk2, hkeep, if_pos rfl] at hk'
      obtain ⟨d, d2, k, k2, rfl, rfl, hkv, hko, hkr⟩ := hk'
      have hd0 : ρ1[n]? = some d := by have := hd 0 d rfl; simpa using this
      have hdn : ∀ (j : Nat) e, d2[j]? = some e → ρ1[n + 1 + j]? = some e := fun j e hj => by
        have := hd (j + 1) e (by simpa using hj); rw [show n + 1 + j = n + (j + 1) from by omega]; exact this
      have hm2 : ∀ u ∈ k2, ∀ b, u.own b → Mine b := fun u hu => hm u (by simp [hu])
      have hmk := hm k (by simp)
      have close : ∀ {sb : SB} {m : MV}, updMA μ (ma :: mas) (k :: k2) = (ma.β, m) :: updMA μ mas k2 → BlkR Mine w' F' hl' μ' ρ2 sb m →
          (h'.length = h.length ∧ (∀ β, β ∉ (ma :: mas).map MA.β → h'[β]? = h[β]?) ∧ (∀ ma' ∈ mas, ma'.keep = false → h'[ma'.β]? = some .dead) ∧ (∀ ma' ∈ mas, ma'.keep = true → ∃ m, (ma'.β, m) ∈ updMA μ mas k2) ∧
          (∀ p ∈ updMA μ mas k2, ∃ sb, h'[p.1]? = some sb ∧ BlkR Mine w' F' hl' μ' ρ2 sb p.2) ∧ h'[ma.β]? = some sb) →
          h'.length = h.length ∧ (∀ β, β ∉ (ma :: mas).map MA.β → h'[β]? = h[β]?) ∧ (∀ ma' ∈ ma :: mas, ma'.keep = false → h'[ma'.β]? = some .dead) ∧ (∀ ma' ∈ ma :: mas, ma'.keep = true → ∃ m, (ma'.β, m) ∈ updMA μ (ma :: mas) (k :: k2)) ∧
            ∀ p ∈ updMA μ (ma :: mas) (k :: k2), ∃ sb, h'[p.1]? = some sb ∧ BlkR Mine w' F' hl' μ' ρ2 sb p.2 := by
        intro sb m hu hbl ⟨i1, i2, i3, i4, i5, i6⟩
        rw [hu]
        refine ⟨i1, i2, fun ma' hm' hf => ?_, fun ma' hm' hf => ?_, fun p hp' => ?_⟩
        · rcases List.mem_cons.1 hm' with rfl | hm'
          · rw [hkeep] at hf; cases hf
          · exact i3 ma' hm' hf
        · rcases List.mem_cons.1 hm' with rfl | hm'
          · exact ⟨m, by simp⟩
          · obtain ⟨m', h1⟩ := i4 ma' hm' hf
            exact ⟨m', by simp [h1]⟩
        · rcases List.mem_cons.1 hp' with rfl | hp'
          · exact ⟨sb, i6, hbl⟩
          · exact i5 p hp'
      have getp : ∀ {post1 : List Push} {ρ11 : List D} {j : Nat} {e : D}, pushAll post1 ρ11 = some ρ2 → ρ11[j]? = some e → (Atom.v j).get ρ2 = some e := by
        intro post1 ρ11 j e h1 h2
        obtain ⟨σ, rfl, _⟩ := pushAll_env h1
        exact Atom.get_append (x := .v j) h2
      have hu : updMA μ (ma :: mas) (k :: k2) = (ma.β, match ma.at?, k.hist with | none, _ :: _ => ⟨(μ ma.β).v, (μ ma.β).hist ++ [k.inner]⟩ | _, _ => μ ma.β) :: updMA μ mas k2 := by
        rw [updMA.eq_def]; simp only [hkeep]; rfl
      obtain ⟨sbS, hsbS, hfit, _⟩ := c.ok ma (List.mem_of_getElem? hA0)
      have hblk := c.r.blocks ma.β sbS hsbS
      have hmn := hMine ma.β sbS hsbS (fit_mine hfit)
      rw [hh0, hsbS] at ha
      rw [hk1] at hko
      cases hat : ma.at? with
      | none =>
        rw [hat] at ha hk3 hu hfit
        dsimp only at ha
        obtain ⟨hv, hin⟩ := hk3
        have hkv' : k.v = (μ ma.β).v := hkv.trans hv
        cases hkk : ma.k with
        | rows et f e =>
          rw [hkk] at hfit hko
          cases sbS <;> first | exact hfit.elim | skip
          rename_i et' f' e' ver y
          obtain ⟨rfl, rfl, rfl⟩ := hfit
          obtain ⟨hh1, m, ls, h1, rfl, h4, h5, h6⟩ := hko (fun _ => True)
          obtain ⟨h0, _⟩ := hblk
          obtain ⟨l0, hl0⟩ := List.length_eq_one_iff.1 hh1
          have hinn : (MV.mk (μ ma.β).v ((μ ma.β).hist ++ [k.inner])).inner = k.inner := by simp [MV.inner]
          rw [hl0] at hu
          refine close (sb := .rows et f e (ver + 1) (.v n)) hu ?_ (fin (m := μ ma.β) rfl ha rfl hkr hdn hρ hq hp hm2)
          refine ⟨by simp [h0], m, ls, ?_, fun b hb => hmk b ?_, getp hp hd0, h4, ?_, ?_⟩
          · rw [hinn]; rw [← hkv']; exact h1
          · rcases hb with hb | hb
            · exact .inl (by rw [hkv']; exact hb)
            · exact .inr (by rw [hinn] at hb; exact hb)
          · rw [hinn]; exact h5
          · rw [hinn]; rw [← hkv']; exact h6
        | row t e =>
          rw [hkk] at hfit hko
          cases sbS <;> first | exact hfit.elim | skip
          rename_i t' e' y
          obtain ⟨rfl, rfl⟩ := hfit
          obtain ⟨hh1, _⟩ := hko (fun _ => True)
          obtain ⟨h0, _⟩ := hblk
          have hkm : k = μ ma.β := by
            cases k with
            | mk kv kh =>
              simp only at hh1 hkv'
              subst hh1 hkv'
              have : (μ ma.β) = ⟨(μ ma.β).v, (μ ma.β).hist⟩ := rfl
              rw [this, h0]
          rw [hh1] at hu
          refine close (sb := (MK.row t e).sb 0 (.v n)) hu ?_ (fin (m := μ ma.β) rfl (by rw [← hkk]; exact ha) rfl hkr hdn hρ hq hp hm2)
          have hb := OwnK.blk (F' := F') (hl' := hl') (μ' := μ') (x := .v n) hko (getp hp hd0) hmk
          rw [hkm] at hb
          exact hb
      | some i =>
        rw [hat] at ha hk3 hu hfit
        dsimp only at ha
        obtain ⟨_, hxh, nn, hi, hnn, hrow⟩ := hk3
        cases hkk : ma.k with
        | rows et f e => rw [hkk] at hfit; exact hfit.elim
        | row t f =>
          rw [hkk] at hfit hko
          cases sbS <;> first | exact hfit.elim | skip
          rename_i et f' e ver y
          obtain ⟨rfl, rfl⟩ := hfit
          dsimp only at ha
          cases hrec : afterMA mas (n + 1) (q + 1) (h.set ma.β (.rows et f e ver (.v q))) with
          | mk hr pr =>
          rw [hrec] at ha
          simp only [Prod.mk.injEq] at ha
          obtain ⟨rfl, rfl⟩ := ha
          obtain ⟨h0, m, ls, h1, _, h3, h4, h5, h6, h7⟩ := hblk
          obtain ⟨kh0, kn, kxs, kl, g1, rfl, g3, g4⟩ := hko (fun _ => True)
          obtain ⟨σ1, rfl⟩ := hρ
          obtain ⟨σ0, rfl⟩ := c.pre
          have hy : y.get (ρ ++ σ0 ++ σ1) = some (rowsDat et.agg ls) := Atom.get_append (Atom.get_append h3)
          have hi' := Atom.get_append (σ := σ1) hi
          have hnl : nn.toNat < ls.length := by rw [← h5.1]; exact (List.getElem?_eq_some_iff.1 hrow).1
          simp only [pushAll, evs, List.map_cons, List.map_nil, Atom.ev_of_get hy, Atom.ev_of_get hi', Atom.ev_of_get (x := .v n) hd0, rowsDat, Prim.ev, List.length_map] at hp
          rw [if_pos ⟨hnn, by omega⟩] at hp
          simp only at hp
          have hset : (ls.map fun l => D.lst (l.map (unflat et.agg))).set nn.toNat (.lst (kl.map (unflat (rowAgg (.s1 et))))) = (ls.set nn.toNat kl).map fun l => D.lst (l.map (unflat et.agg)) := by
            rw [List.map_set]; rfl
          rw [hset] at hp
          have hkh : k.hist = [] := kh0
          rw [hkh] at hu
          have hq1 : (ρ ++ σ0 ++ σ1 ++ [D.lst ((ls.set nn.toNat kl).map fun l => D.lst (l.map (unflat et.agg)))]).length = q + 1 := by simp at hq ⊢; omega
          have hnew : (ρ ++ σ0 ++ σ1 ++ [D.lst ((ls.set nn.toNat kl).map fun l => D.lst (l.map (unflat et.agg)))])[q]? = some (rowsDat et.agg (ls.set nn.toNat kl)) := by
            have := get_new (ρ := ρ ++ σ0 ++ σ1) (n := q) (d := D.lst ((ls.set nn.toNat kl).map fun l => D.lst (l.map (unflat et.agg)))) hq
            exact this
          refine close (sb := .rows et f e ver (.v q)) hu ?_ (fin (m := μ ma.β) rfl hrec rfl hkr (fun j e hj => ?_) ⟨σ1 ++ [D.lst ((ls.set nn.toNat kl).map fun l => D.lst (l.map (unflat et.agg)))], by simp⟩ hq1 hp hm2)
          · -- the rows behind the call
            have hxin : x ∈ hsA := List.mem_of_getElem? hB0
            have hxown : ∀ b, x.m.own b ↔ blkOf x.m.v = some b := fun b => MV.own_flat hxh
            have other : ∀ b, (μ ma.β).own b → blkOf x.m.v ≠ some b → w'.heap[b]? = w.heap[b]? := by
              intro b hb hne
              refine c.same b (c.r.own_lt hlive hb) fun z hz hzb => hne ?_
              have := c.whose hA0 hz hzb hb
              rw [hB0] at this
              simp only [Option.some.injEq] at this
              subst this
              exact (hxown b).1 hzb
            have hkx : k.v = x.m.v := hkv
            refine ⟨h0, m, ls.set nn.toNat kl, ownsRow_kept h1 (fun b hb => other b (.inl hb) fun e => h7 _ (List.mem_of_getElem? hrow) b e hb), hmn, getp hp hnew, by simpa using h4, ⟨by simpa using h5.1, fun i' u l hu' hl' => ?_⟩, h6, h7⟩
            rw [List.getElem?_set] at hl'
            split at hl'
            · rename_i he
              subst he
              simp only [Option.some.injEq] at hl'
              subst hl'
              rw [hrow] at hu'
              simp only [Option.some.injEq] at hu'
              subst hu'
              rw [← hkx]
              exact ⟨kn, kxs, g1, g3, g4⟩
            · rename_i he
              obtain ⟨n', xs', r1, r2⟩ := h5.2 i' u l hu' hl'
              refine ⟨n', xs', ownsRow_kept r1 fun b hb => other b (.inr ⟨u, List.mem_of_getElem? hu', hb⟩) fun e => ?_, r2⟩
              exact h6 i' nn.toNat u _ hu' hrow (fun e => he e.symm) b hb e
          · rw [List.getElem?_append_left]
            · exact hdn j e hj
            · rcases Nat.lt_or_ge (n + 1 + j) (ρ ++ σ0 ++ σ1).length with h' | h'
              · exact h'
              · have := hdn j e hj; rw [List.getElem?_eq_none h'] at this; cases this

end
end Vs

