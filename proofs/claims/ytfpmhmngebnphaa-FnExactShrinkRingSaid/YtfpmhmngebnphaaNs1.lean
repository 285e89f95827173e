/-
  Plain data, primitive operations on it, and a small first-order language with loops: what our symbolic executor makes of the program's code.
  Nothing of the machine stands here but the arithmetic that the model itself uses.
-/
import GoSem.Dispatch
namespace Vs
open Go

/-! ### Data -/
inductive D where
  | undef
  | int (n : Int)
  | bool (b : Bool)
  | flt (x : Nat)
  | str (s : ByteArray)
  | agg (l : List D)
  | lst (l : List D)

instance : Inhabited D := ⟨.undef⟩

/-! ### Floats: words up to the bits of a NaN -/
def fnan (k : FloatKind) : Nat := k.format.infRung + 2 ^ (k.format.fractionBits - 1)
def isnan (k : FloatKind) (x : Nat) : Bool := (k.decode x).isNaN
def canon (k : FloatKind) (x : Nat) : Nat := if isnan k x then fnan k else x
def fin (k : FloatKind) (r : Option Nat) : Nat := match r with | some r => canon k r | none => fnan k

def fadd (k : FloatKind) (x y : Nat) : Nat := fin k (k.format.add x y)
def fsub (k : FloatKind) (x y : Nat) : Nat := fin k (k.format.sub x y)
def fmul (k : FloatKind) (x y : Nat) : Nat := fin k (k.format.mul x y)
def fdiv (k : FloatKind) (x y : Nat) : Nat := fin k (k.format.div x y)
def fsqrt (k : FloatKind) (x : Nat) : Nat := fin k (k.format.sqrt x)
def fneg (k : FloatKind) (x : Nat) : Nat := canon k (Op.negFloat k x)
def feq (k : FloatKind) (x y : Nat) : Bool := k.format.order x y == some .eq
def flt (k : FloatKind) (x y : Nat) : Bool := k.format.order x y == some .lt
def fle (k : FloatKind) (x y : Nat) : Bool := k.format.order x y == some .lt || k.format.order x y == some .eq
def fgt (k : FloatKind) (x y : Nat) : Bool := k.format.order x y == some .gt
def fge (k : FloatKind) (x y : Nat) : Bool := k.format.order x y == some .gt || k.format.order x y == some .eq

/-- A float of one kind as one of the other kind; 'none' where the language leaves the result open. -/
def f2f (src dst : FloatKind) (x : Nat) : Option Nat :=
  if src = dst then some x else
  match src.decode x with
  | .nan _ _ => some (fnan dst)
  | .infinity s => some (canon dst (dst.encode (.infinity s)))
  | .number s m e => if (dst.decode (dst.encode (.number s m e))).isInfinity then none else some (canon dst (dst.encode (.number s m e)))
def f2i (src : FloatKind) (dst : IntKind) (x : Nat) : Option Int :=
  match (src.decode x).toInt .zero with
  | some n => if dst.min ≤ n ∧ n ≤ dst.max then some n else none
  | none => none
def i2f (dst : FloatKind) (n : Int) : Nat := canon dst (dst.nearest n)

/-! ### Primitive operations -/
inductive Prim where
  | id
  | iar (op : BinOp) (k : IntKind) | idv (op : BinOp) (k : IntKind) | ibt (op : BinOp) (k : IntKind) | icm (op : BinOp) | shf (op : BinOp) (k : IntKind)
  | far (op : BinOp) (k : FloatKind) | fcm (op : BinOp) (k : FloatKind) | fneg (k : FloatKind)
  | bnot | beq | bne
  | i2i (k : IntKind) | i2f (k : FloatKind) | f2i (s : FloatKind) (k : IntKind) | f2f (s k : FloatKind)
  | sqrt (k : FloatKind) | f2b (k : FloatKind) | b2f (k : FloatKind)
  | pick
  | idx | len | proj (j : Nat) | mkagg | mklst | app | set | sub | rep
  | str (op : BinOp) | slen | sidx
  | imin | imax | fmin (k : FloatKind) | fmax (k : FloatKind)
  deriving DecidableEq

def icmp (op : BinOp) (x y : Int) : Option Bool :=
  match op with
  | .eql => some (x == y) | .neq => some (x != y)
  | .lss => some (decide (x < y)) | .leq => some (decide (x ≤ y)) | .gtr => some (decide (x > y)) | .geq => some (decide (x ≥ y))
  | _ => none
def iarith (op : BinOp) (k : IntKind) (x y : Int) : Option Int :=
  match op with
  | .add => some (k.wrap (x + y)) | .sub => some (k.wrap (x - y)) | .mul => some (k.wrap (x * y)) | _ => none
def idiv (op : BinOp) (k : IntKind) (x y : Int) : Option Int :=
  if y = 0 then none else match op with | .quo => some (k.wrap (x.tdiv y)) | .rem => some (x.tmod y) | _ => none
def ibits (op : BinOp) (k : IntKind) (x y : Int) : Option Int :=
  let a := BitVec.ofInt k.bits x
  let b := BitVec.ofInt k.bits y
  match op with
  | .and => some (k.wrap (a &&& b).toNat) | .or => some (k.wrap (a ||| b).toNat) | .xor => some (k.wrap (a ^^^ b).toNat)
  | .andNot => some (k.wrap (a &&& ~~~b).toNat) | _ => none
def ishift (op : BinOp) (k : IntKind) (x y : Int) : Option Int :=
  if y < 0 then none else
  match op with
  | .shl => some (k.wrap (x * 2 ^ (min y.toNat k.bits))) | .shr => some (x.fdiv (2 ^ (min y.toNat k.bits))) | _ => none
def farith (op : BinOp) (k : FloatKind) (x y : Nat) : Option Nat :=
  match op with
  | .add => some (fadd k x y) | .sub => some (fsub k x y) | .mul => some (fmul k x y) | .quo => some (fdiv k x y) | _ => none
def fcmp (op : BinOp) (k : FloatKind) (x y : Nat) : Option Bool :=
  match op with
  | .eql => some (feq k x y) | .neq => some (!feq k x y) | .lss => some (flt k x y) | .leq => some (fle k x y)
  | .gtr => some (fgt k x y) | .geq => some (fge k x y) | _ => none

def Prim.ev : Prim → List D → Option D
  | .id, [x] => some x
  | .iar op k, [.int x, .int y] => (iarith op k x y).map .int
  | .idv op k, [.int x, .int y] => (idiv op k x y).map .int
  | .ibt op k, [.int x, .int y] => (ibits op k x y).map .int
  | .icm op, [.int x, .int y] => (icmp op x y).map .bool
  | .shf op k, [.int x, .int y] => (ishift op k x y).map .int
  | .far op k, [.flt x, .flt y] => (farith op k x y).map .flt
  | .fcm op k, [.flt x, .flt y] => (fcmp op k x y).map .bool
  | .fneg k, [.flt x] => some (.flt (Vs.fneg k x))
  | .bnot, [.bool x] => some (.bool !x)
  | .beq, [.bool x, .bool y] => some (.bool (x == y))
  | .bne, [.bool x, .bool y] => some (.bool (!(x == y)))
  | .i2i k, [.int x] => some (.int (k.wrap x))
  | .i2f k, [.int x] => some (.flt (Vs.i2f k x))
  | .f2i s k, [.flt x] => (Vs.f2i s k x).map .int
  | .f2f s k, [.flt x] => (Vs.f2f s k x).map .flt
  | .sqrt k, [.flt x] => some (.flt (fsqrt k x))
  | .f2b k, [.flt x] => if isnan k x then none else some (.int x)
  | .b2f k, [.int x] => some (.flt (canon k x.toNat))
  | .pick, [.bool c, x, y] => some (if c then x else y)
  | .idx, [.lst l, .int i] => if 0 ≤ i ∧ i < (l.length : Int) then l[i.toNat]? else none
  | .len, [.lst l] => some (.int (l.length : Int))
  | .proj j, [.agg l] => l[j]?
  | .mkagg, l => some (.agg l)
  | .mklst, l => some (.lst l)
  | .app, [.lst l, .lst m] => if l.length + m.length ≤ 1099511627776 then some (.lst (l ++ m)) else none
  | .set, [.lst l, .int i, x] => if 0 ≤ i ∧ i < (l.length : Int) then some (.lst (l.set i.toNat x)) else none
  | .sub, [.lst l, .int a, .int b] => if 0 ≤ a ∧ a ≤ b ∧ b ≤ (l.length : Int) then some (.lst ((l.take b.toNat).drop a.toNat)) else none
  | .imin, [.int x, .int y] => some (.int (min x y))
  | .imax, [.int x, .int y] => some (.int (max x y))
  | .rep, [.int n, x] => if 0 ≤ n ∧ n ≤ 1099511627776 then some (.lst (List.replicate n.toNat x)) else none
  | _, _ => none

/-! ### The language -/
inductive Atom where
  | v (i : Nat)
  | c (d : D)

def Atom.ev (ρ : List D) : Atom → D
  | .v i => ρ.getD i .undef
  | .c d => d

abbrev Guard := Option (Atom × Bool)
def Guard.ok (ρ : List D) : Guard → Bool
  | none => true
  | some (x, w) => match x.ev ρ with | .bool b => b == w | _ => false

inductive T where
  | op (g : Guard) (p : Prim) (xs : List Atom) (k : T)
  | call (g : Guard) (f : Nat) (xs : List Atom) (m : Nat) (k : T)
  | ite (c : Atom) (t e : T)
  | join (m : Nat) (t k : T)
  | loop (xs : List Atom) (b : T)
  | out (l : Nat) (xs : List Atom)

def evs (ρ : List D) (xs : List Atom) : List D := xs.map (·.ev ρ)

def iter (body : List D → Option (Nat × List D)) : Nat → List D → Option (Nat × List D)
  | 0, _ => none
  | f + 1, ds => match body ds with
    | some (0, ds') => iter body f ds'
    | some (l + 1, ds') => some (l, ds')
    | none => none

def run (G : Nat → List D → Option (List D)) (fuel : Nat) : T → List D → Option (Nat × List D)
  | .op g p xs k, ρ => if g.ok ρ then (match p.ev (evs ρ xs) with | some d => run G fuel k (ρ ++ [d]) | none => none) else run G fuel k (ρ ++ [.undef])
  | .call g f xs m k, ρ =>
    if g.ok ρ then (match G f (evs ρ xs) with | some ds => if ds.length = m then run G fuel k (ρ ++ ds) else none | none => none)
    else run G fuel k (ρ ++ List.replicate m .undef)
  | .ite c t e, ρ => match c.ev ρ with | .bool true => run G fuel t ρ | .bool false => run G fuel e ρ | _ => none
  | .join m t k, ρ => match run G fuel t ρ with
    | some (0, ds) => if ds.length = m then run G fuel k (ρ ++ ds) else none
    | some (l + 1, ds) => some (l, ds)
    | none => none
  | .loop xs b, ρ => iter (fun ds => if ds.length = xs.length then run G fuel b (ρ ++ ds) else none) fuel (evs ρ xs)
  | .out l xs, ρ => some (l, evs ρ xs)

end Vs
