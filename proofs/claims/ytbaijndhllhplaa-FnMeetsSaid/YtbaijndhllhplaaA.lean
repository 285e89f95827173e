/-
  Plain data, primitive operations on it, and a small first-order language with loops: what our symbolic executor makes of the program's code.
  Nothing of the machine stands here but the arithmetic that the model itself uses.
-/
import GoSem.Dispatch
import Derived.DeepKeys3
import Derived.WalkKit
import Derived.Laws.StructEq
import Derived.ChangeKeysEq
import Derived.MapKept
namespace Vs
open Go
inductive D where
 | undef
 | int (n : Int)
 | bool (b : Bool)
 | flt (x : Nat)
 | str (s : ByteArray)
 | agg (l : List D)
 | lst (l : List D)
instance : Inhabited D := ⟨.undef⟩
def fnan (k : FloatKind) : Nat := k.format.infRung + 2 ^ (k.format.fractionBits - 1)
def isnan (k : FloatKind) (x : Nat) : Bool := (k.decode x).isNaN
def canon (k : FloatKind) (x : Nat) : Nat := if isnan k x then fnan k else x
def fin (k : FloatKind) (r : Option Nat) : Nat := match r with | some r => canon k r | none => fnan k
def fadd (k : FloatKind) (x y : Nat) : Nat := fin k (k.format.add x y)
def fsub (k : FloatKind) (x y : Nat) : Nat := fin k (k.format.sub x y)
def fmul (k : FloatKind) (x y : Nat) : Nat := fin k (k.format.mul x y)
def fdiv (k : FloatKind) (x y : Nat) : Nat := fin k (k.format.div x y)
def fsqrt (k : FloatKind) (x : Nat) : Nat := fin k (k.format.sqrt x)
def fneg (k : FloatKind) (x : Nat) : Nat := canon k (Op.negFloat k x)
def feq (k : FloatKind) (x y : Nat) : Bool := k.format.order x y == some .eq
def flt (k : FloatKind) (x y : Nat) : Bool := k.format.order x y == some .lt
def fle (k : FloatKind) (x y : Nat) : Bool := k.format.order x y == some .lt || k.format.order x y == some .eq
def fgt (k : FloatKind) (x y : Nat) : Bool := k.format.order x y == some .gt
def fge (k : FloatKind) (x y : Nat) : Bool := k.format.order x y == some .gt || k.format.order x y == some .eq
def f2f (src dst : FloatKind) (x : Nat) : Option Nat :=
 if src = dst then some x else
 match src.decode x with
 | .nan _ _ => some (fnan dst)
 | .infinity s => some (canon dst (dst.encode (.infinity s)))
 | .number s m e => if (dst.decode (dst.encode (.number s m e))).isInfinity then none else some (canon dst (dst.encode (.number s m e)))
def f2i (src : FloatKind) (dst : IntKind) (x : Nat) : Option Int :=
 match (src.decode x).toInt .zero with
 | some n => if dst.min ≤ n ∧ n ≤ dst.max then some n else none
 | none => none
def i2f (dst : FloatKind) (n : Int) : Nat := canon dst (dst.nearest n)
inductive Prim where
 | id
 | iar (op : BinOp) (k : IntKind) | idv (op : BinOp) (k : IntKind) | ibt (op : BinOp) (k : IntKind) | icm (op : BinOp) | shf (op : BinOp) (k : IntKind)
 | far (op : BinOp) (k : FloatKind) | fcm (op : BinOp) (k : FloatKind) | fneg (k : FloatKind)
 | bnot | beq | bne
 | i2i (k : IntKind) | i2f (k : FloatKind) | f2i (s : FloatKind) (k : IntKind) | f2f (s k : FloatKind)
 | sqrt (k : FloatKind) | f2b (k : FloatKind) | b2f (k : FloatKind)
 | pick
 | idx | len | proj (j : Nat) | mkagg | mklst | app | set | sub | rep
 | str (op : BinOp) | slen | sidx
 | imin | imax | fmin (k : FloatKind) | fmax (k : FloatKind)
 | aeq (ks : List (Option FloatKind)) (neg : Bool)
 | mget | mset | ment | midx | mseti
 deriving DecidableEq
def icmp (op : BinOp) (x y : Int) : Option Bool :=
 match op with
 | .eql => some (x == y) | .neq => some (x != y)
 | .lss => some (decide (x < y)) | .leq => some (decide (x ≤ y)) | .gtr => some (decide (x > y)) | .geq => some (decide (x ≥ y))
 | _ => none
def iarith (op : BinOp) (k : IntKind) (x y : Int) : Option Int :=
 match op with
 | .add => some (k.wrap (x + y)) | .sub => some (k.wrap (x - y)) | .mul => some (k.wrap (x * y)) | _ => none
def idiv (op : BinOp) (k : IntKind) (x y : Int) : Option Int :=
 if y = 0 then none else match op with | .quo => some (k.wrap (x.tdiv y)) | .rem => some (x.tmod y) | _ => none
def ibits (op : BinOp) (k : IntKind) (x y : Int) : Option Int :=
 let a := BitVec.ofInt k.bits x
 let b := BitVec.ofInt k.bits y
 match op with
 | .and => some (k.wrap (a &&& b).toNat) | .or => some (k.wrap (a ||| b).toNat) | .xor => some (k.wrap (a ^^^ b).toNat)
 | .andNot => some (k.wrap (a &&& ~~~b).toNat) | _ => none
def ishift (op : BinOp) (k : IntKind) (x y : Int) : Option Int :=
 if y < 0 then none else
 match op with
 | .shl => some (k.wrap (x * 2 ^ (min y.toNat k.bits))) | .shr => some (x.fdiv (2 ^ (min y.toNat k.bits))) | _ => none
def farith (op : BinOp) (k : FloatKind) (x y : Nat) : Option Nat :=
 match op with
 | .add => some (fadd k x y) | .sub => some (fsub k x y) | .mul => some (fmul k x y) | .quo => some (fdiv k x y) | _ => none
def fcmp (op : BinOp) (k : FloatKind) (x y : Nat) : Option Bool :=
 match op with
 | .eql => some (feq k x y) | .neq => some (!feq k x y) | .lss => some (flt k x y) | .leq => some (fle k x y)
 | .gtr => some (fgt k x y) | .geq => some (fge k x y) | _ => none
def eqCells : List (Option FloatKind) → List D → List D → Option Bool
 | [], [], [] => some true
 | some k :: ks, .flt x :: xs, .flt y :: ys => (eqCells ks xs ys).map (feq k x y && ·)
 | none :: ks, .int x :: xs, .int y :: ys => (eqCells ks xs ys).map ((x == y) && ·)
 | none :: ks, .bool x :: xs, .bool y :: ys => (eqCells ks xs ys).map ((x == y) && ·)
 | _, _, _ => none
def kOk : List D → Bool
 | [] => true
 | .int n :: r => decide (-9223372036854775808 ≤ n) && (decide (n < 9223372036854775808) && kOk r)
 | _ => false
def kEq : List D → List D → Bool
 | [], [] => true
 | .int a :: r, .int b :: q => a == b && kEq r q
 | _, _ => false
def mfind (k : List D) : List D → Option D
 | .agg [.agg k', v] :: r => if kEq k' k = true then some v else mfind k r
 | _ => none
def mput (k : List D) (v : D) : List D → List D
 | .agg [.agg k', v'] :: r => if kEq k' k = true then .agg [.agg k', v] :: r else .agg [.agg k', v'] :: mput k v r
 | _ => [.agg [.agg k, v]]
def mwhere (k : List D) : List D → Option Nat
 | .agg [.agg k', _] :: r => if kEq k' k = true then some 0 else (mwhere k r).map (· + 1)
 | _ => none
def kInt : List D → Bool
 | [] => true
 | .int _ :: r => kInt r
 | _ => false
def mOk : List D → Bool
 | [] => true
 | .agg [.agg k, _] :: r => kInt k && mOk r
 | _ => false
def Prim.ev : Prim → List D → Option D
 | .id, [x] => some x
 | .iar op k, [.int x, .int y] => (iarith op k x y).map .int
 | .idv op k, [.int x, .int y] => (idiv op k x y).map .int
 | .ibt op k, [.int x, .int y] => (ibits op k x y).map .int
 | .icm op, [.int x, .int y] => (icmp op x y).map .bool
 | .shf op k, [.int x, .int y] => (ishift op k x y).map .int
 | .far op k, [.flt x, .flt y] => (farith op k x y).map .flt
 | .fcm op k, [.flt x, .flt y] => (fcmp op k x y).map .bool
 | .fneg k, [.flt x] => some (.flt (Vs.fneg k x))
 | .bnot, [.bool x] => some (.bool !x)
 | .beq, [.bool x, .bool y] => some (.bool (x == y))
 | .bne, [.bool x, .bool y] => some (.bool (!(x == y)))
 | .i2i k, [.int x] => some (.int (k.wrap x))
 | .i2f k, [.int x] => some (.flt (Vs.i2f k x))
 | .f2i s k, [.flt x] => (Vs.f2i s k x).map .int
 | .f2f s k, [.flt x] => (Vs.f2f s k x).map .flt
 | .sqrt k, [.flt x] => some (.flt (fsqrt k x))
 | .f2b k, [.flt x] => if isnan k x then none else some (.int x)
 | .b2f k, [.int x] => some (.flt (canon k x.toNat))
 | .pick, [.bool c, x, y] => some (if c then x else y)
 | .idx, [.lst l, .int i] => if 0 ≤ i ∧ i < (l.length : Int) then l[i.toNat]? else none
 | .len, [.lst l] => some (.int (l.length : Int))
 | .proj j, [.agg l] => l[j]?
 | .mkagg, l => some (.agg l)
 | .mklst, l => some (.lst l)
 | .app, [.lst l, .lst m] => if l.length + m.length ≤ 1099511627776 then some (.lst (l ++ m)) else none
 | .set, [.lst l, .int i, x] => if 0 ≤ i ∧ i < (l.length : Int) then some (.lst (l.set i.toNat x)) else none
 | .sub, [.lst l, .int a, .int b] => if 0 ≤ a ∧ a ≤ b ∧ b ≤ (l.length : Int) then some (.lst ((l.take b.toNat).drop a.toNat)) else none
 | .imin, [.int x, .int y] => some (.int (min x y))
 | .imax, [.int x, .int y] => some (.int (max x y))
 | .fmax k, [.flt x, .flt y] =>
  match k.format.order x y with
  | some .lt => some (.flt y)
  | some .gt => some (.flt x)
  | some .eq => some (.flt (if (k.decode x).neg then y else x))
  | none => none
 | .aeq ks neg, l => (eqCells ks (l.take ks.length) (l.drop ks.length)).map fun b => .bool (match neg with | true => !b | false => b)
 | .mget, [.lst l, .agg k, z] => if kOk k = true then some ((mfind k l).getD z) else none
 | .mset, [.lst l, .agg k, v] => if kOk k = true then some (.lst (mput k v l)) else none
 | .ment, [.lst l, .agg k, z] => if kOk k = true ∧ mOk l = true then some (.lst (mput k ((mfind k l).getD z) l)) else none
 | .midx, [.lst l, .agg k] => if kOk k = true then (mwhere k l).map fun (i : Nat) => D.int (i : Int) else none
 | .mseti, [.lst l, .int i, v] => match l[i.toNat]? with | some (.agg [k, _]) => if 0 ≤ i then some (.lst (l.set i.toNat (.agg [k, v]))) else none | _ => none
 | .rep, [.int n, x] => if 0 ≤ n ∧ n ≤ 1099511627776 then some (.lst (List.replicate n.toNat x)) else none
 | _, _ => none
inductive Atom where
 | v (i : Nat)
 | c (d : D)
def Atom.ev (ρ : List D) : Atom → D
 | .v i => ρ.getD i .undef
 | .c d => d
abbrev Guard := Option (Atom × Bool)
def Guard.ok (ρ : List D) : Guard → Bool
 | none => true
 | some (x, w) => match x.ev ρ with | .bool b => b == w | _ => false
inductive T where
 | op (g : Guard) (p : Prim) (xs : List Atom) (k : T)
 | call (g : Guard) (f : Nat) (xs : List Atom) (m : Nat) (k : T)
 | ite (c : Atom) (t e : T)
 | join (m : Nat) (t k : T)
 | loop (xs : List Atom) (b : T)
 | out (l : Nat) (xs : List Atom)
def evs (ρ : List D) (xs : List Atom) : List D := xs.map (·.ev ρ)
def iter (body : List D → Option (Nat × List D)) : Nat → List D → Option (Nat × List D)
 | 0, _ => none
 | f + 1, ds => match body ds with
  | some (0, ds') => iter body f ds'
  | some (l + 1, ds') => some (l, ds')
  | none => none
def run (G : Nat → List D → Option (List D)) (fuel : Nat) : T → List D → Option (Nat × List D)
 | .op g p xs k, ρ => if g.ok ρ then (match p.ev (evs ρ xs) with | some d => run G fuel k (ρ ++ [d]) | none => none) else run G fuel k (ρ ++ [.undef])
 | .call g f xs m k, ρ =>
  if g.ok ρ then (match G f (evs ρ xs) with | some ds => if ds.length = m then run G fuel k (ρ ++ ds) else none | none => none)
  else run G fuel k (ρ ++ List.replicate m .undef)
 | .ite c t e, ρ => match c.ev ρ with | .bool true => run G fuel t ρ | .bool false => run G fuel e ρ | _ => none
 | .join m t k, ρ => match run G fuel t ρ with
  | some (0, ds) => if ds.length = m then run G fuel k (ρ ++ ds) else none
  | some (l + 1, ds) => some (l, ds)
  | none => none
 | .loop xs b, ρ => iter (fun ds => if ds.length = xs.length then run G fuel b (ρ ++ ds) else none) fuel (evs ρ xs)
 | .out l xs, ρ => some (l, evs ρ xs)
end Vs

namespace Vs
open Go
inductive BT where
 | int (k : IntKind) | bool | flt (k : FloatKind) | str
 deriving DecidableEq
structure ET where
 agg : Bool
 cells : List BT
 deriving DecidableEq
inductive CT where
 | b (t : BT) | s1 (e : ET) | s2 (e : ET)
 deriving DecidableEq
def rowAgg : CT → Bool | .s1 e => e.agg | _ => false
def isS1 : CT → Bool | .s1 _ => true | _ => false
def rowSz : CT → Nat | .s1 e => e.cells.length | _ => 1
def rowCells : CT → List CT | .s1 e => e.cells.map .b | .s2 e => [.s1 e] | .b _ => []
inductive MT where
 | b (t : BT) | s (et : ET) (e : TypeId)
 deriving DecidableEq
structure MPK where
 t : TypeId
 k : TypeId
 kn : Nat
 v : MT
 deriving DecidableEq
inductive FC where
 | d (t : CT) (x : Atom) | o (β : Nat)
 | p (β : Nat)
inductive CV0 where
 | undef
 | nils
 | dat (t : CT) (x : Atom)
 | own (β : Nat)
 | vptr (β off : Nat)
 | eptr (β : Nat) (i : Atom) (sz off : Nat)
 | rref (β ver : Nat) (d i y : Atom)
 | rptr (β ver : Nat) (d i y ix : Atom) (sz off : Nat)
 | fcel (cs : List FC) (off : Nat)
 | omap (β : Nat)
 | mref (β ver : Nat) (d : Atom) (ks : List Atom) (y : Atom)
 | ment (β ver : Nat) (d j y : Atom)
 | mptr (β ver : Nat) (d : Atom) (ks : List Atom) (y i : Atom)
inductive CV where
 | s (c : CV0)
 | fn (f : FuncId) (caps : List CV0)
def FC.cv : FC → CV
 | .d t x => .s (.dat t x)
 | .o β => .s (.own β)
 | .p β => .s (.vptr β 0)
def fcOf (p : CT × Atom) : FC := .d p.1 p.2
inductive SV where
 | c (x : CV)
 | agg (cs : List CV)
 | tup (vs : List (Bool × List CV))
 | gd (g : Atom) (w : Bool) (s : SV)
inductive SB where
 | dead
 | hid
 | var (cs : List CV)
 | row (t : CT) (e : TypeId) (x : Atom)
 | rows (et : ET) (e' e : TypeId) (ver : Nat) (x : Atom)
 | map (m : MPK) (ver : Nat) (x : Atom) (hole : Option Atom)
 | mapz (m : MPK) (x : Atom)
 | bx (ts : List CT) (x : Atom)
structure SS where
 n : Nat
 slots : List SV
 heap : List SB
abbrev Res := Except String
def need {α : Type} (o : Option α) (why : String) : Res α := match o with | some a => .ok a | none => .error why
def SV.undef : SV := .c (.s .undef)
def dat (t : CT) (x : Atom) : SV := .c (.s (.dat t x))
def bdat (t : BT) (x : Atom) : SV := .c (.s (.dat (.b t) x))
def ctOf (P : Program) (t : TypeId) : Option BT :=
 match P.underlying t with
 | some .bool => some .bool | some (.int k) => some (.int k) | some (.float k) => some (.flt k) | some .string => some .str | _ => none
def plainCells (P : Program) : Nat → TypeId → Option (Bool × List BT)
 | 0, _ => none
 | d + 1, t =>
  match P.underlying t with
  | some (.struct fs) => (fs.toList.foldr (fun f acc => match acc, plainCells P d f.type with | some l, some (_, cs) => some (cs ++ l) | _, _ => none) (some [])).map fun l => (true, l)
  | some (.array n e) => (plainCells P d e).map fun (_, cs) => (true, (List.replicate n cs).flatten)
  | _ => (ctOf P t).map fun b => (false, [b])
def etOf (P : Program) (t : TypeId) : Option ET := (plainCells P 8 t).map fun (a, cs) => ⟨a, cs⟩
def cellTy (P : Program) (t : TypeId) : Option CT :=
 match P.underlying t with
 | some (.slice e) =>
  match P.underlying e with
  | some (.slice e') => (etOf P e').map .s2
  | _ => (etOf P e).map .s1
 | _ => (ctOf P t).map .b
def allCells (P : Program) : Nat → TypeId → Option (Bool × List CT)
 | 0, _ => none
 | d + 1, t =>
  match P.underlying t with
  | some (.struct fs) => (fs.toList.foldr (fun f acc => match acc, allCells P d f.type with | some l, some (_, cs) => some (cs ++ l) | _, _ => none) (some [])).map fun l => (true, l)
  | some (.array n e) => (allCells P d e).map fun (_, cs) => (true, (List.replicate n cs).flatten)
  | _ => (cellTy P t).map fun b => (false, [b])
def isAggB (P : Program) (t : TypeId) : Option Bool :=
 match P.underlying t with
 | some (.struct _) | some (.array _ _) => some true
 | some _ => some false
 | none => none
def sizeB (P : Program) (t : TypeId) : Option Nat := (P.info? t).map (·.size)
def elemOk (P : Program) (e : TypeId) (et : ET) : Bool :=
 match P.info? e with
 | some i => decide (etOf P e = some et) && decide (i.size = et.cells.length) && decide (0 < i.size ∧ i.size ≤ 64) && decide (i.bytes ≤ 64) && (match i.zero with | some z => decide (z.cells.size = i.size) | none => false)
 | none => false
def zeroB : BT → Option D | .int _ => some (.int 0) | .bool => some (.bool false) | _ => none
def zeroIs (P : Program) (e : TypeId) (b : BT) : Bool :=
 match b, (P.info? e).bind (·.zero) with
 | .int k, some (.int k' n) => decide (k = k') && n == 0
 | .bool, some (.bool b) => !b
 | _, _ => false
def zeroNil (P : Program) (e : TypeId) : Bool := match (P.info? e).bind (·.zero) with | some (.slice none 0 0) => true | _ => false
def isI64 (P : Program) (t : TypeId) : Bool := match P.underlying t with | some (.int .i64) => true | _ => false
def mpOf (P : Program) (t : TypeId) : Option MPK :=
 match P.underlying t with
 | some (.map k e) =>
  match P.underlying k with
  | some (.array n ke) =>
   if 0 < P.types.size ∧ isI64 P ke = true ∧ P.cellsOf ke = 1 ∧ P.keyTypeAt 2 k = true ∧ P.tiled 2 k = true then
    match P.underlying e with
    | some (.slice e') =>
     match etOf P e' with
     | some et => if elemOk P e' et = true ∧ zeroNil P e = true then some ⟨t, k, n, .s et e'⟩ else none
     | none => none
    | _ =>
     match ctOf P e with
     | some b => if zeroIs P e b = true then some ⟨t, k, n, .b b⟩ else none
     | none => none
   else none
  | _ => none
 | _ => none
def litCell : Value → Option CV0
 | .int k n => some (.dat (.b (.int k)) (.c (.int n)))
 | .bool b => some (.dat (.b .bool) (.c (.bool b)))
 | .float k x => some (.dat (.b (.flt k)) (.c (.flt (canon k x))))
 | .string s => some (.dat (.b .str) (.c (.str s)))
 | .slice none 0 0 => some .nils
 | .map none => some .undef
 | .pointer none => some .undef
 | _ => none
def litCells : List Value → Option (List CV)
 | [] => some []
 | v :: vs => match litCell v, litCells vs with | some c, some cs => some (.s c :: cs) | _, _ => none
def litSV (v : Value) : Option SV :=
 match v with
 | .agg cs => (litCells cs.toList).map .agg
 | v => (litCell v).map fun c => .c (.s c)
abbrev Push := Prim × List Atom
abbrev Loc := SV × List Push
def getSV (S : SS) : Operand → Res SV
 | .tmp t => need S.slots[t]? "slot"
 | .const v => need (litSV v) "const"
 | .func f => .ok (.c (.fn f []))
 | .global _ => .error "global"
def strip (g : Guard) (s : SV) : SV :=
 match g, s with
 | some (.v i, w), .gd (.v j) w' s' => if i = j ∧ w = w' then s' else s
 | _, s => s
def svCells : SV → Option (Bool × List CV)
 | .c x => some (false, [x])
 | .agg cs => some (true, cs)
 | _ => none
def mkSV (agg : Bool) (cs : List CV) : Option SV :=
 if agg then some (.agg cs) else match cs with | [x] => some (.c x) | _ => none
def isBoolT (P : Program) (t : TypeId) : Bool := match P.underlying t with | some .bool => true | _ => false
def kOf : BT → Option (Option FloatKind)
 | .flt k => some (some k) | .int _ | .bool => some none | .str => none
def eqFieldsB (P : Program) : Nat → List Field → Option (List BT)
 | _, [] => some []
 | j, f :: fs =>
  if f.name ≠ "_" ∧ f.offset = j ∧ isAggB P f.type = some false then
   match ctOf P f.type, eqFieldsB P (j + 1) fs with | some b, some bs => some (b :: bs) | _, _ => none
  else none
def flatEq (P : Program) (t : TypeId) : Option (List BT) :=
 if P.eqGuardType P.depth t = true then none else
 match P.underlying t with
 | some (.struct fs) => if P.stoodInHeld t = true then none else eqFieldsB P 0 fs.toList
 | some (.array n e) => if isAggB P e = some false ∧ sizeB P e = some 1 then (ctOf P e).map (List.replicate n) else none
 | _ => none
def eqAtoms : List BT → List CV → Res (List (Option FloatKind) × List Atom)
 | [], [] => .ok ([], [])
 | t :: ts, .s (.dat (.b t') x) :: cs =>
  match kOf t with
  | some k => if t = t' then do let (ks, xs) ← eqAtoms ts cs; .ok (k :: ks, x :: xs) else .error "compared cell"
  | none => .error "compared text"
 | _, _ => .error "compared cells"
def lopBin (n : Nat) (op : BinOp) (bt : Bool) (et : Option (List BT)) (a b : SV) : Res Loc :=
 match a, b with
 | .agg cs, .agg ds =>
  match et with
  | some ts => do
   let (ks, xs) ← eqAtoms ts cs
   let (_, ys) ← eqAtoms ts ds
   match op with
   | .eql => .ok (bdat .bool (.v n), [(.aeq ks false, xs ++ ys)])
   | .neq => .ok (bdat .bool (.v n), [(.aeq ks true, xs ++ ys)])
   | _ => .error "binop"
  | none => .error "compared type"
 | .c (.s (.dat (.b (.int k)) x)), .c (.s (.dat (.b (.int k')) y)) =>
  match op with
  | .shl | .shr => .ok (bdat (.int k) (.v n), [(.shf op k, [x, y])])
  | .add | .sub | .mul => if k = k' then .ok (bdat (.int k) (.v n), [(.iar op k, [x, y])]) else .error "kinds"
  | .quo | .rem => if k = k' then .ok (bdat (.int k) (.v n), [(.idv op k, [x, y])]) else .error "kinds"
  | .and | .or | .xor | .andNot => if k = k' then .ok (bdat (.int k) (.v n), [(.ibt op k, [x, y])]) else .error "kinds"
  | .eql | .neq | .lss | .leq | .gtr | .geq => if k = k' then .ok (bdat .bool (.v n), [(.icm op, [x, y])]) else .error "kinds"
 | .c (.s (.dat (.b (.flt k)) x)), .c (.s (.dat (.b (.flt k')) y)) =>
  if k = k' then
   match op with
   | .add | .sub | .mul | .quo => .ok (bdat (.flt k) (.v n), [(.far op k, [x, y])])
   | .eql | .neq | .lss | .leq | .gtr | .geq => .ok (bdat .bool (.v n), [(.fcm op k, [x, y])])
   | _ => .error "float op"
  else .error "kinds"
 | .c (.s (.dat (.b .bool) x)), .c (.s (.dat (.b .bool) y)) =>
  if bt = true then
   match op with
   | .eql => .ok (bdat .bool (.v n), [(.beq, [x, y])])
   | .neq => .ok (bdat .bool (.v n), [(.bne, [x, y])])
   | _ => .error "bool op"
  else .error "bool type"
 | _, _ => .error "binop"
def lopConv (P : Program) (n : Nat) (src dst : TypeId) (a : SV) : Res Loc :=
 match P.underlying src, P.underlying dst, a with
 | some _, some (.int k), .c (.s (.dat (.b (.int _)) x)) => .ok (bdat (.int k) (.v n), [(.i2i k, [x])])
 | some _, some (.float k), .c (.s (.dat (.b (.int _)) x)) => .ok (bdat (.flt k) (.v n), [(.i2f k, [x])])
 | some _, some (.int k), .c (.s (.dat (.b (.flt s)) x)) => .ok (bdat (.int k) (.v n), [(.f2i s k, [x])])
 | some _, some (.float k), .c (.s (.dat (.b (.flt s)) x)) => .ok (bdat (.flt k) (.v n), [(.f2f s k, [x])])
 | _, _, _ => .error "convert"
def elemCells (n : Nat) (t : CT) (x : Atom) : List (CT × Atom) × List Push :=
 if rowAgg t then
  ((rowCells t).zipIdx.map fun (c, j) => (c, .v (n + j)), (rowCells t).zipIdx.map fun (_, j) => (.proj j, [x]))
 else (match rowCells t with | [c] => [(c, x)] | _ => [], [])
def ptrAdd (s : SV) (k : Nat) : Res SV :=
 match s with
 | .c (.s (.vptr β off)) => .ok (.c (.s (.vptr β (off + k))))
 | .c (.s (.eptr β i sz off)) => .ok (.c (.s (.eptr β i sz (off + k))))
 | .c (.s (.fcel cs off)) => .ok (.c (.s (.fcel cs (off + k))))
 | .c (.s (.rptr β ver d i y ix sz off)) => .ok (.c (.s (.rptr β ver d i y ix sz (off + k))))
 | _ => .error "pointer"
def Atom.alike : Atom → Atom → Bool
 | .v i, .v j => i == j
 | .c (.int a), .c (.int b) => a == b
 | .c (.lst []), .c (.lst []) => true
 | _, _ => false
def mapNow (S : SS) (β ver : Nat) (d : Atom) : Option (ET × TypeId) :=
 match S.heap[β]? with
 | some (.map m ver' d' none) => if ver = ver' ∧ Atom.alike d d' = true then (match m.v with | .s et e => some (et, e) | .b _ => none) else none
 | _ => none
def rowsNow (S : SS) (β ver : Nat) (d : Atom) : Option (ET × TypeId) :=
 match S.heap[β]? with
 | some (.rows et e' _ ver' x) => if ver = ver' ∧ Atom.alike d x = true then some (et, e') else none
 | _ => none
def lopLoad (P : Program) (S : SS) (t : TypeId) (p : SV) : Res Loc := do
 let agg ← need (isAggB P t) "load type"
 let sz ← need (sizeB P t) "load size"
 match p with
 | .c (.s (.vptr β off)) =>
  match S.heap[β]? with
  | some (.var cs) =>
   let part := (cs.drop off).take sz
   if part.length = sz ∧ 0 < sz then do let s ← need (mkSV agg part) "load shape"; .ok (s, []) else .error "load part"
  | some (.bx ts x) =>
   let part := (ts.drop off).take sz
   if part.length = sz ∧ 0 < sz then do
    let s ← need (mkSV agg ((part.zipIdx.map fun (c, j) => (c, Atom.v (S.n + j))).map fun (c, y) => .s (.dat c y))) "load shape"; .ok (s, (part.zipIdx off).map fun (_, j) => (.proj j, [x]))
   else .error "load part"
  | _ => .error "load block"
 | .c (.s (.fcel cs off)) =>
  let part := (cs.drop off).take sz
  if part.length = sz ∧ 0 < sz then do let s ← need (mkSV agg (part.map FC.cv)) "load shape"; .ok (s, []) else .error "load part"
 | .c (.s (.eptr β i sz' off)) =>
  match S.heap[β]? with
  | some (.row rt _ x) =>
   let (cells, ps) := elemCells (S.n + 1) rt (.v S.n)
   let part := (cells.drop off).take sz
   if sz' = rowSz rt ∧ part.length = sz ∧ 0 < sz then do
    let s ← need (mkSV agg (part.map fun (c, x) => .s (.dat c x))) "load shape"; .ok (s, (.idx, [x, i]) :: ps)
   else .error "load part"
  | some (.rows _ _ _ ver x) => if sz' = 1 ∧ off = 0 ∧ agg = false ∧ sz = 1 then .ok (.c (.s (.rref β ver x i (.v S.n))), [(.idx, [x, i])]) else .error "load row of rows"
  | _ => .error "load row"
 | .c (.s (.mptr β ver d _ y i)) =>
  match mapNow S β ver d with
  | some (et, _) => if agg = false ∧ sz = 1 ∧ et.agg = false then (match et.cells with | [t] => .ok (bdat t (.v S.n), [(.idx, [y, i])]) | _ => .error "load map cells") else .error "load map element"
  | none => .error "load map"
 | .c (.s (.rptr β ver d _ y ix sz' off)) =>
  match rowsNow S β ver d with
  | some (et, _) =>
   let (cells, ps) := elemCells (S.n + 1) (.s1 et) (.v S.n)
   let part := (cells.drop off).take sz
   if sz' = et.cells.length ∧ part.length = sz ∧ 0 < sz then do
    let s ← need (mkSV agg (part.map fun (c, x) => .s (.dat c x))) "load shape"; .ok (s, (.idx, [y, ix]) :: ps)
   else .error "load part"
  | none => .error "load rows"
 | _ => .error "load"
def lopFieldAddr (P : Program) (s : TypeId) (p : SV) (f : Nat) : Res Loc :=
 match P.underlying s with
 | some (.struct fs) =>
  match fs[f]? with
  | some fd => if (sizeB P fd.type).any (0 < ·) then do let q ← ptrAdd p fd.offset; .ok (q, []) else .error "field size"
  | none => .error "field"
 | _ => .error "fieldAddr"
def atomNat : Atom → Option Nat
 | .c (.int i) => if 0 ≤ i then some i.toNat else none
 | _ => none
def lopIndexAddr (P : Program) (S : SS) (t : TypeId) (x i : SV) : Res Loc :=
 match P.underlying t, i with
 | some (.slice e), .c (.s (.dat (.b (.int _)) ix)) =>
  match x with
  | .c (.s (.dat (.s1 et) l)) =>
   if sizeB P e = some et.cells.length then
    let (cells, ps) := elemCells (S.n + 1) (.s1 et) (.v S.n)
    .ok (.c (.s (.fcel (cells.map fcOf) 0)), (.idx, [l, ix]) :: ps)
   else .error "index size"
  | .c (.s (.dat (.s2 et) l)) =>
   if sizeB P e = some 1 then .ok (.c (.s (.fcel [.d (.s1 et) (.v S.n)] 0)), [(.idx, [l, ix])]) else .error "index size"
  | .c (.s (.own β)) =>
   match S.heap[β]? with
   | some (.row rt _ l) => if sizeB P e = some (rowSz rt) then .ok (.c (.s (.eptr β ix (rowSz rt) 0)), [(.idx, [l, ix])]) else .error "index size"
   | some (.rows _ _ _ _ l) => if sizeB P e = some 1 then .ok (.c (.s (.eptr β ix 1 0)), [(.idx, [l, ix])]) else .error "index size"
   | _ => .error "index own"
  | .c (.s (.mref β ver d ks y)) =>
   match mapNow S β ver d with
   | some (et, _) => if sizeB P e = some 1 ∧ et.agg = false ∧ et.cells.length = 1 then .ok (.c (.s (.mptr β ver d ks y ix)), [(.idx, [y, ix])]) else .error "index map element"
   | none => .error "index map"
  | .c (.s (.rref β ver d j y)) =>
   match rowsNow S β ver d with
   | some (et, _) => if sizeB P e = some et.cells.length then .ok (.c (.s (.rptr β ver d j y ix et.cells.length 0)), [(.idx, [y, ix])]) else .error "index row of rows"
   | none => .error "index rows"
  | _ => .error "index slice"
 | some (.array len e), .c (.s (.dat (.b (.int _)) ix)) =>
  match atomNat ix, sizeB P e with
  | some k, some sz => if k < len then do let q ← ptrAdd x (k * sz); .ok (q, []) else .error "array index"
  | _, _ => .error "array index"
 | _, _ => .error "indexAddr"
def lopPart (P : Program) (t : TypeId) (cs : List CV) (off : Nat) : Res Loc := do
 let agg ← need (isAggB P t) "part type"
 let sz ← need (sizeB P t) "part size"
 let part := (cs.drop off).take sz
 if part.length = sz ∧ 0 < sz then do let s ← need (mkSV agg part) "part shape"; .ok (s, []) else .error "part"
def lopField (P : Program) (t : TypeId) (x : SV) (f : Nat) : Res Loc :=
 match P.underlying t, x with
 | some (.struct fs), .agg cs => match fs[f]? with | some fd => lopPart P fd.type cs fd.offset | none => .error "field"
 | _, _ => .error "field"
def lopIndex (P : Program) (t : TypeId) (x i : SV) : Res Loc :=
 match P.underlying t, x, i with
 | some (.array len e), .agg cs, .c (.s (.dat (.b (.int _)) ix)) =>
  match atomNat ix, sizeB P e with
  | some k, some sz => if k < len then lopPart P e cs (k * sz) else .error "index"
  | _, _ => .error "index"
 | _, _, _ => .error "index"
def plainCV : CV → Bool | .s .undef => false | _ => true
def fillS (place : Nat → Option (Nat × Nat)) : List CV → List (Nat × SV) → Res (List CV)
 | cs, [] => .ok cs
 | cs, (i, v) :: rest =>
  match place i, svCells v with
  | some (off, sz), some (_, vs) =>
   if vs.length = sz ∧ off + vs.length ≤ cs.length ∧ vs.all plainCV = true then fillS place (cs.take off ++ vs ++ cs.drop (off + vs.length)) rest else .error "fill size"
  | _, _ => .error "fill"
def lopBuild (P : Program) (t : TypeId) (parts : List (Nat × SV)) : Res Loc := do
 let i ← need (P.info? t) "build type"
 let z ← need i.zero "build zero"
 let zs ← need (litCells z.cells.toList) "build zero cells"
 match P.underlying t with
 | some (.struct fs) => do
  let places ← need (fs.toList.mapM (fun f => (P.info? f.type).map fun i => (f.offset, i.size))) "build field size"
  let cs ← fillS (places.toArray[·]?) zs parts
  .ok (.agg cs, [])
 | some (.array _ e) => do
  let ie ← need (P.info? e) "build size"
  let cs ← fillS (fun j => some (j * ie.size, ie.size)) zs parts
  .ok (.agg cs, [])
 | _ => .error "build"
def keyAtoms : List CV → Res (List Atom)
 | [] => .ok []
 | .s (.dat (.b (.int .i64)) x) :: cs => do let xs ← keyAtoms cs; .ok (x :: xs)
 | _ :: _ => .error "key cell"
def mapAt (P : Program) (S : SS) (t : TypeId) (x i : SV) : Res (Nat × MPK × Nat × Atom × Option Atom × List Atom) :=
 match x, i with
 | .c (.s (.omap β)), .agg cs =>
  match S.heap[β]? with
  | some (.map m ver d hole) =>
   if mpOf P t = some m then do
    let ks ← keyAtoms cs
    if ks.length = m.kn then .ok (β, m, ver, d, hole, ks) else .error "key size"
   else .error "map type"
  | _ => .error "map block"
 | _, _ => .error "map"
def lopLookupZ (P : Program) (S : SS) (t : TypeId) (x i : SV) : Res Loc :=
 match x, i with
 | .c (.s (.omap β)), .agg cs =>
  match S.heap[β]? with
  | some (.mapz m d) =>
   if mpOf P t = some m then do
    let ks ← keyAtoms cs
    if ks.length = m.kn then
     match m.v with
     | .b b => do
      let z ← need (zeroB b) "map zero"
      .ok (bdat b (.v (S.n + 1)), [(.mkagg, ks), (.mget, [d, .v S.n, .c z])])
     | .s _ _ => .error "map of slices"
    else .error "key size"
   else .error "map type"
  | _ => .error "map block"
 | _, _ => .error "map"
def lopLookupM (P : Program) (S : SS) (t : TypeId) (x i : SV) : Res Loc := do
 let (β, m, ver, d, hole, ks) ← mapAt P S t x i
 match hole with
 | some _ => .error "lookup in a map with a hole"
 | none =>
  match m.v with
  | .b b => do
   let z ← need (zeroB b) "map zero"
   .ok (bdat b (.v (S.n + 1)), [(.mkagg, ks), (.mget, [d, .v S.n, .c z])])
  | .s _ _ => .ok (.c (.s (.mref β ver d ks (.v (S.n + 1)))), [(.mkagg, ks), (.mget, [d, .v S.n, .c (.lst [])])])
def lopLookup (P : Program) (S : SS) (t : TypeId) (x i : SV) : Res Loc :=
 match lopLookupZ P S t x i with
 | .ok r => .ok r
 | .error _ => lopLookupM P S t x i
def lopLen (P : Program) (S : SS) (t : TypeId) (x : SV) : Res Loc :=
 match P.underlying t, x with
 | some (.slice _), .c (.s (.dat (.s1 _) l)) | some (.slice _), .c (.s (.dat (.s2 _) l)) => .ok (bdat (.int .i64) (.v S.n), [(.len, [l])])
 | some (.slice _), .c (.s (.own β)) => match S.heap[β]? with | some (.row _ _ l) | some (.rows _ _ _ _ l) => .ok (bdat (.int .i64) (.v S.n), [(.len, [l])]) | _ => .error "len own"
 | some (.slice _), .c (.s .nils) => .ok (bdat (.int .i64) (.c (.int 0)), [])
 | some (.slice _), .c (.s (.mref β ver d _ y)) => match mapNow S β ver d with | some _ => .ok (bdat (.int .i64) (.v S.n), [(.len, [y])]) | none => .error "len map"
 | some (.slice _), .c (.s (.rref β ver d _ y)) => match rowsNow S β ver d with | some _ => .ok (bdat (.int .i64) (.v S.n), [(.len, [y])]) | none => .error "len row"
 | _, _ => .error "len"
def lopPick (n : Nat) (c a b : SV) : Res Loc :=
 let a := match c, a with | .c (.s (.dat _ (.v i))), .gd (.v j) w s => if w = true then (if i = j then s else a) else a | _, _ => a
 let b := match c, b with | .c (.s (.dat _ (.v i))), .gd (.v j) w s => if w = false then (if i = j then s else b) else b | _, _ => b
 match c, a, b with
 | .c (.s (.dat (.b .bool) x)), .c (.s (.dat (.b t) y)), .c (.s (.dat (.b t') z)) => if t = t' then .ok (bdat t (.v n), [(.pick, [x, y, z])]) else .error "pick types"
 | _, _, _ => .error "pick"
def getSVs (S : SS) (g : Guard) : List Operand → Res (List SV)
 | [] => .ok []
 | o :: os => do let a ← getSV S o; let l ← getSVs S g os; .ok (strip g a :: l)
def svParts (S : SS) (g : Guard) : List (Nat × Operand) → Res (List (Nat × SV))
 | [] => .ok []
 | (i, o) :: os => do let a ← getSV S o; let l ← svParts S g os; .ok ((i, strip g a) :: l)
inductive Ext where
 | sqrt | f64bits | f64frombits | f32bits | f32frombits
 deriving DecidableEq
def lopExt (n : Nat) (e : Ext) (xs : List SV) : Res Loc :=
 match e, xs with
 | .sqrt, [.c (.s (.dat (.b (.flt .f64)) x))] => .ok (bdat (.flt .f64) (.v n), [(.sqrt .f64, [x])])
 | .f64bits, [.c (.s (.dat (.b (.flt .f64)) x))] => .ok (bdat (.int .u64) (.v n), [(.f2b .f64, [x])])
 | .f32bits, [.c (.s (.dat (.b (.flt .f32)) x))] => .ok (bdat (.int .u32) (.v n), [(.f2b .f32, [x])])
 | .f64frombits, [.c (.s (.dat (.b (.int .u64)) x))] => .ok (bdat (.flt .f64) (.v n), [(.b2f .f64, [x])])
 | .f32frombits, [.c (.s (.dat (.b (.int .u32)) x))] => .ok (bdat (.flt .f32) (.v n), [(.b2f .f32, [x])])
 | _, _ => .error "ext"
def isSl : CT → Bool | .b _ => false | _ => true
def lopSlice (P : Program) (n : Nat) (t : TypeId) (l : Atom) (ct : CT) (lo hi : Option SV) : Res Loc :=
 match P.underlying t with
 | some (.slice e) =>
  match sizeB P e with
  | some sz =>
   if sz = rowSz ct ∧ isSl ct = true then do
    let (h, ps) ← (match hi with
     | none => .ok (.v n, [(.len, [l])])
     | some (.c (.s (.dat (.b (.int .i64)) x))) => .ok (x, [])
     | _ => .error "slice bound" : Res (Atom × List Push))
    let a ← (match lo with
     | none => .ok (.c (.int 0))
     | some (.c (.s (.dat (.b (.int .i64)) x))) => .ok x
     | _ => .error "slice bound" : Res Atom)
    .ok (.c (.s (.dat ct (.v (n + ps.length)))), ps ++ [(.sub, [l, a, h])])
   else .error "slice size"
  | none => .error "slice element"
 | _ => .error "slice type"
def capsOf : List SV → Res (List CV0)
 | [] => .ok []
 | .c (.s c) :: r => do let l ← capsOf r; .ok (c :: l)
 | _ :: _ => .error "capture"
def lop (P : Program) (X : FuncId → Option Ext) (S : SS) (g : Guard) (o : Oper) : Res Loc :=
 let get (x : Operand) : Res SV := do let a ← getSV S x; .ok (strip g a)
 match o.op with
 | .move x | .assign x => do let a ← get x; .ok (a, [])
 | .pick c a b => do lopPick S.n (← get c) (← get a) (← get b)
 | .nilCheck x => do let a ← get x; let q ← ptrAdd a 0; .ok (q, [])
 | .binOp op t x y _ => do lopBin S.n op (isBoolT P t) (flatEq P t) (← get x) (← get y)
 | .unOp op _ x => do
  match op, ← get x with
  | .not, .c (.s (.dat (.b .bool) y)) => .ok (bdat .bool (.v S.n), [(.bnot, [y])])
  | .neg, .c (.s (.dat (.b (.flt k)) y)) => .ok (bdat (.flt k) (.v S.n), [(.fneg k, [y])])
  | .neg, .c (.s (.dat (.b (.int k)) y)) => .ok (bdat (.int k) (.v S.n), [(.iar .sub k, [.c (.int 0), y])])
  | _, _ => .error "unop"
 | .convert src dst x => do lopConv P S.n src dst (← get x)
 | .load t a => do lopLoad P S t (← get a)
 | .fieldAddr s x f => do lopFieldAddr P s (← get x) f
 | .field s x f => do lopField P s (← get x) f
 | .indexAddr t x i => do lopIndexAddr P S t (← get x) (← get i)
 | .index t x i => do lopIndex P t (← get x) (← get i)
 | .lookup t x i false => do lopLookup P S t (← get x) (← get i)
 | .extract t j => do
  match ← get t with
  | .tup vs => match vs[j]? with | some (ag, cs) => do let s ← need (mkSV ag cs) "extract shape"; .ok (s, []) | none => .error "extract"
  | _ => .error "extract"
 | .build t parts => do lopBuild P t (← svParts S g parts.toList)
 | .call { callee := .builtin .len, args, argTypes } => do
  match ← getSVs S g args.toList, argTypes[0]? with
  | [x], some t => lopLen P S t x
  | _, _ => .error "len args"
 | .makeFunc (.func f) first captured => do
  if first.size = 0 then
   let cs ← getSVs S g captured.toList
   let l ← capsOf cs
   .ok (.c (.fn f l), [])
  else .error "bound"
 | .slice t x lo hi none => do
  match ← get x with
  | .c (.s (.dat ct l)) => do
   let a ← (match lo with | none => .ok none | some y => do let v ← get y; .ok (some v))
   let b ← (match hi with | none => .ok none | some y => do let v ← get y; .ok (some v))
   lopSlice P S.n t l ct a b
  | _ => .error "slice of what is not data"
 | .call { callee := .builtin .min, args, .. } => do
  match ← getSVs S g args.toList with
  | [.c (.s (.dat (.b (.int k)) x)), .c (.s (.dat (.b (.int k')) y))] => if k = k' then .ok (bdat (.int k) (.v S.n), [(.imin, [x, y])]) else .error "min"
  | _ => .error "min"
 | .call { callee := .builtin .max, args, .. } => do
  match ← getSVs S g args.toList with
  | [.c (.s (.dat (.b (.int k)) x)), .c (.s (.dat (.b (.int k')) y))] => if k = k' then .ok (bdat (.int k) (.v S.n), [(.imax, [x, y])]) else .error "max"
  | [.c (.s (.dat (.b (.flt k)) x)), .c (.s (.dat (.b (.flt k')) y))] => if k = k' then .ok (bdat (.flt k) (.v S.n), [(.fmax k, [x, y])]) else .error "max"
  | _ => .error "max"
 | .call { callee := .value (.func f), args, .. } => do
  match X f with
  | some e => lopExt S.n e (← getSVs S g args.toList)
  | none => .error "call"
 | _ => .error "not local"
inductive MK where
 | row (t : CT) (e : TypeId)
 | rows (et : ET) (e' e : TypeId)
 | map (m : MPK)
 | box (ts : List CT)
 deriving DecidableEq
def MK.sb (k : MK) (ver : Nat) (x : Atom) : SB := match k with | .row t e => .row t e x | .rows et e' e => .rows et e' e ver x | .map m => .map m ver x none | .box ts => .bx ts x
def MK.cv (k : MK) (β : Nat) : CV0 := match k with | .map _ => .omap β | .box _ => .vptr β 0 | _ => .own β
def MK.fc (k : MK) (β : Nat) : FC := match k with | .box _ => .p β | _ => .o β
inductive PC where
 | rd (t : CT) | mt (k : MK) (keep : Bool)
inductive PK where
 | val (agg : Bool) (ts : List PC)
 | ptr (ts : List PC)
 | fn (f : FuncId) (caps : List (List PC))
inductive RK where
 | cell (t : BT)
 | own (k : MK)
structure Sig where
 params : List PK
 results : List (Bool × List RK)
def keepsC : List PC → List MK
 | [] => []
 | .rd _ :: r => keepsC r
 | .mt k keep :: r => if keep then k :: keepsC r else keepsC r
def keepsP : List PK → List MK
 | [] => []
 | .val _ ts :: r => keepsC ts ++ keepsP r
 | .ptr ts :: r => keepsC ts ++ keepsP r
 | .fn _ caps :: r => (caps.flatMap keepsC) ++ keepsP r
def Sig.keeps (s : Sig) : List MK := keepsP s.params
structure MA where
 β : Nat
 k : MK
 keep : Bool
 at? : Option Atom
def cellAtom (S : SS) (t : CT) : CV → Res Atom
 | .s (.dat t' x) => if t = t' then .ok x else .error "cell type"
 | .s .nils => match t with | .b _ => .error "nil cell" | _ => .ok (.c (.lst []))
 | .s (.own β) => match S.heap[β]? with
  | some (.row t' _ x) => if t = t' then .ok x else .error "row type"
  | some (.rows et _ _ _ x) => if t = .s2 et then .ok x else .error "rows type"
  | _ => .error "row"
 | .s (.rref β ver d _ y) => match rowsNow S β ver d with | some (et, _) => if t = .s1 et then .ok y else .error "row type" | none => .error "row"
 | _ => .error "cell"
structure AR where
 xs : List Atom
 pre : List Push
 mas : List MA
 rds : List Nat
def isVal : PK → Bool | .val _ _ => true | _ => false
def isBT : CT → Bool | .b _ => true | _ => false
def MK.free : MK → Bool | .row t _ => isS1 t | .box ts => ts.all isBT | _ => true
def RK.free : RK → Bool | .cell _ => true | .own k => k.free
def callFree (sg : Sig) (ar : AR) : Bool := (sg.results.all (fun r => r.2.all RK.free) && ar.mas.all (fun m => m.k.free)) || (sg.params.all isVal && ar.rds.isEmpty)
def AR.nil : AR := ⟨[], [], [], []⟩
def AR.app (a b : AR) : AR := ⟨a.xs ++ b.xs, a.pre ++ b.pre, a.mas ++ b.mas, a.rds ++ b.rds⟩
def rdsOf : CV → List Nat
 | .s (.own β) => [β]
 | .s (.rref β _ _ _ _) => [β]
 | _ => []
def argCell (S : SS) (n : Nat) : PC → CV → Res AR
 | .rd t, c => do let x ← cellAtom S t c; .ok ⟨[x], [], [], rdsOf c⟩
 | .mt k keep, .s (.own β) =>
  match S.heap[β]?, k with
  | some (.row t e x), .row t' e' => if t = t' ∧ e = e' then .ok ⟨[x], [], [⟨β, k, keep, none⟩], []⟩ else .error "own arg type"
  | some (.rows et f e _ x), .rows et' f' e' => if et = et' ∧ f = f' ∧ e = e' then .ok ⟨[x], [], [⟨β, k, keep, none⟩], []⟩ else .error "own arg type"
  | _, _ => .error "own arg"
 | .mt k keep, .s (.rref β ver _ i _) =>
  match S.heap[β]?, k with
  | some (.rows et f _ v x), .row (.s1 et') f' => if et = et' ∧ f = f' ∧ v = ver ∧ keep = true then .ok ⟨[.v n], [(.idx, [x, i])], [⟨β, k, true, some i⟩], []⟩ else .error "row arg type"
  | _, _ => .error "row arg"
 | .mt k keep, .s (.vptr β off) =>
  match S.heap[β]?, k with
  | some (.bx ts x), .box ts' => if ts = ts' ∧ off = 0 then .ok ⟨[x], [], [⟨β, k, keep, none⟩], []⟩ else .error "box arg type"
  | _, _ => .error "box arg"
 | _, _ => .error "own arg cell"
def argCells (S : SS) : Nat → List PC → List CV → Res AR
 | _, [], [] => .ok .nil
 | n, t :: ts, c :: cs => do
  let p ← argCell S n t c
  let q ← argCells S (n + p.pre.length) ts cs
  .ok (p.app q)
 | _, _, _ => .error "cells"
def ptrCells (S : SS) (m : Nat) : CV0 → Res (List CV)
 | .vptr β off => match S.heap[β]? with | some (.var cs) => .ok ((cs.drop off).take m) | _ => .error "param ptr"
 | .fcel cs off => .ok (((cs.drop off).take m).map FC.cv)
 | _ => .error "param ptr"
def argCaps (S : SS) : Nat → List (List PC) → List CV0 → Res AR
 | _, [], [] => .ok .nil
 | n, ts :: tss, c :: cs => do
  let l ← ptrCells S ts.length c
  let p ← argCells S n ts l
  let q ← argCaps S (n + p.pre.length) tss cs
  .ok (p.app q)
 | _, _, _ => .error "captures"
def argOne (S : SS) (n : Nat) : PK → SV → Res AR
 | .val agg ts, v => match svCells v with | some (agg', cs) => if agg = agg' then argCells S n ts cs else .error "param agg" | none => .error "param"
 | .ptr ts, .c (.s c) => do let l ← ptrCells S ts.length c; argCells S n ts l
 | .fn f caps, .c (.fn f' cs) => if f = f' then argCaps S n caps cs else .error "another function"
 | _, _ => .error "param kind"
def argAll (S : SS) : Nat → List PK → List SV → Res AR
 | _, [], [] => .ok .nil
 | n, k :: ks, v :: vs => do
  let p ← argOne S n k v
  let q ← argAll S (n + p.pre.length) ks vs
  .ok (p.app q)
 | _, _, _ => .error "params"
def resCells : List RK → Nat → Nat → List CV × List SB
 | [], _, _ => ([], [])
 | .cell t :: rs, n, h => let (cs, bs) := resCells rs (n + 1) h; (.s (.dat (.b t) (.v n)) :: cs, bs)
 | .own k :: rs, n, h => let (cs, bs) := resCells rs (n + 1) (h + 1); (.s (k.cv h) :: cs, k.sb 0 (.v n) :: bs)
def resAll : List (Bool × List RK) → Nat → Nat → List (Bool × List CV) × List SB
 | [], _, _ => ([], [])
 | (ag, rs) :: r, n, h =>
  let (cs, bs) := resCells rs n h
  let (cs', bs') := resAll r (n + rs.length) (h + bs.length)
  ((ag, cs) :: cs', bs ++ bs')
def resCount (r : List (Bool × List RK)) : Nat := (r.map fun x => x.2.length).foldr (· + ·) 0
def resSV (r : List (Bool × List CV)) : Option SV :=
 match r with
 | [(ag, cs)] => mkSV ag cs
 | _ => some (.tup r)
inductive Eff where
 | prims (ps : List Push)
 | call (pre : List Push) (f : Nat) (xs : List Atom) (m : Nat) (post : List Push)
def put (S : SS) (dst : Option Nat) (v : SV) : Res (List SV) :=
 match dst with
 | none => .ok S.slots
 | some d => if d < S.slots.length then .ok (S.slots.set d v) else .error "dst"
def afterMA : List MA → Nat → Nat → List SB → List SB × List Push
 | [], _, _, h => (h, [])
 | a :: r, n, q, h =>
  if a.keep = false then afterMA r n q (h.set a.β .dead) else
  match a.at? with
  | none =>
   match h[a.β]? with
   | some (.rows et f e ver _) => afterMA r (n + 1) q (h.set a.β (.rows et f e (ver + 1) (.v n)))
   | _ => afterMA r (n + 1) q (h.set a.β (a.k.sb 0 (.v n)))
  | some i =>
   match h[a.β]? with
   | some (.rows et f e ver x) =>
    let (h', ps) := afterMA r (n + 1) (q + 1) (h.set a.β (.rows et f e ver (.v q)))
    (h', (.set, [x, i, .v n]) :: ps)
   | _ => afterMA r (n + 1) q h
structure Env where
 P : Program
 ext : FuncId → Option Ext
 sig : FuncId → Option (Nat × Sig)
def guardOf (S : SS) (ops : List Oper) (o : Oper) : Res Guard :=
 match o.guard with
 | none => .ok none
 | some (j, w) =>
  match (ops[j]?).bind (·.dst) with
  | some d => match S.slots[d]? with
   | some (.c (.s (.dat (.b .bool) (.v i)))) => if i < S.n then .ok (some (.v i, w)) else .error "guard place"
   | some (.gd _ _ (.c (.s (.dat (.b .bool) (.v i))))) => if i < S.n then .ok (some (.v i, w)) else .error "guard place"
   | some (.c (.s (.dat (.b .bool) (.c (.bool b))))) => if b = w then .ok none else .error "guard constant"
   | _ => .error "guard slot"
  | none => .error "guard dst"
def wrapG (g : Guard) (s : SV) : SV := match g with | none => s | some (x, w) => .gd x w s
def ownPlace (n : Nat) (g : Guard) (r : Loc) : Loc :=
 match g, r with
 | some _, (.c (.s (.dat t x)), []) => (.c (.s (.dat t (.v n))), [(.id, [x])])
 | _, r => r
def freshSV (n m : Nat) : SV → Bool
 | .c (.s (.dat _ x)) => match x with | .v i => n ≤ i && i < n + m | .c _ => false
 | .gd _ _ _ => false
 | _ => true
def elemSl (P : Program) (e : TypeId) (et : ET) (e' : TypeId) : Bool :=
 match P.info? e with
 | some i => (match P.underlying e with | some (.slice x) => x == e' | _ => false) && decide (i.size = 1) && decide (i.bytes ≤ 64) && (match i.zero with | some (.slice none 0 0) => true | _ => false) && elemOk P e' et
 | none => false
def mkOf (P : Program) (t : TypeId) : Option MK :=
 match P.underlying t with
 | some (.slice e) =>
  match P.underlying e with
  | some (.slice e') => match etOf P e' with | some et => if elemSl P e et e' then some (.rows et e' e) else none | none => none
  | _ => match etOf P e with | some et => if elemOk P e et then some (.row (.s1 et) e) else none | none => none
 | _ => none
def elemPush (n : Nat) (et : ET) (cs : List CV) : Res (Atom × List Push) := do
 let xs ← cellAtoms0 et.cells cs
 if et.agg then .ok (.v n, [(.mkagg, xs)]) else match xs with | [x] => .ok (x, []) | _ => .error "element"
where cellAtoms0 : List BT → List CV → Res (List Atom)
 | [], [] => .ok []
 | t :: ts, .s (.dat (.b t') x) :: cs => if t = t' then do let xs ← cellAtoms0 ts cs; .ok (x :: xs) else .error "element cell"
 | _, _ => .error "element cells"
def elemsPush (et : ET) : Nat → List SV → Res (List Atom × List Push)
 | _, [] => .ok ([], [])
 | n, v :: vs => do
  match svCells v with
  | some (ag, cs) =>
   if ag = et.agg then do
    let (x, p) ← elemPush n et cs
    let (xs, ps) ← elemsPush et (n + p.length) vs
    .ok (x :: xs, p ++ ps)
   else .error "element kind"
  | none => .error "element value"
def ownRows (S : SS) (et : ET) (e' : TypeId) : List SV → Res (List Nat × List Atom)
 | [] => .ok ([], [])
 | .c (.s (.own β)) :: vs => do
  match S.heap[β]? with
  | some (.row t e x) =>
   if t = .s1 et ∧ e = e' then do let (bs, xs) ← ownRows S et e' vs; .ok (β :: bs, x :: xs) else .error "row type"
  | _ => .error "own row"
 | _ => .error "rows of what is not own"
def killAll (h : List SB) (bs : List Nat) : List SB := bs.foldl (fun h β => h.set β .dead) h
def boxAtoms : List CT → List CV → Res (List Atom)
 | [], [] => .ok []
 | t :: ts, .s (.dat t' x) :: cs => if t = t' then do let xs ← boxAtoms ts cs; .ok (x :: xs) else .error "box cell type"
 | t :: ts, .s .nils :: cs => match t with | .b _ => .error "box cell nil" | _ => do let xs ← boxAtoms ts cs; .ok (.c (.lst []) :: xs)
 | _, _ => .error "box cells"
def srcCells : List CT := [.s1 ⟨false, [.int .u8]⟩, .b (.int .i64), .b (.int .u64)]
def isSrc (P : Program) (t : TypeId) (z : Value) : Bool :=
 decide (allCells P 8 t = some (true, srcCells)) && (match z.cells.toList with | [.slice none 0 0, .int .i64 0, .int .u64 0] => true | _ => false)
abbrev Hop := SV × List Push × List SB × List Nat
def hopBoxStore (S : SS) (β : Nat) (ts : List CT) (x : Atom) (off sz : Nat) (vs : List CV) : Res Hop := do
 let ys ← boxAtoms ((ts.drop off).take sz) vs
 if vs.length = sz ∧ off + sz ≤ ts.length ∧ vs.all plainCV then
  let m := ts.length
  let cells : List Atom := ((List.range m).map fun j => Atom.v (S.n + j)).take off ++ ys ++ ((List.range m).map fun j => Atom.v (S.n + j)).drop (off + sz)
  .ok (SV.undef, (ts.zipIdx.map fun (_, j) => ((.proj j, [x]) : Push)) ++ [(.mkagg, cells)], S.heap.set β (.bx ts (.v (S.n + m))), [β])
 else .error "box store shape"
def hopBuildSlice (P : Program) (S : SS) (t : TypeId) (len : Nat) (parts : List (Nat × SV)) : Res Hop := do
 let k ← need (mkOf P t) "slice type"
 if parts.map (·.1) = List.range len ∧ len ≤ 4096 then
  match k with
  | .row (.s1 et) e => do
   let (xs, ps) ← elemsPush et S.n (parts.map (·.2))
   .ok (.c (.s (.own S.heap.length)), ps ++ [(.mklst, xs)], S.heap ++ [.row (.s1 et) e (.v (S.n + ps.length))], [])
  | .rows et e' e => do
   let (bs, xs) ← ownRows S et e' (parts.map (·.2))
   if bs.Nodup then .ok (.c (.s (.own S.heap.length)), [(.mklst, xs)], killAll S.heap bs ++ [.rows et e' e 0 (.v S.n)], bs) else .error "one row twice"
  | _ => .error "slice kind"
 else .error "parts"
def frzOne : List (Nat × SV) → Option (ET × Atom)
 | [(0, .c (.s (.dat (.s1 et) x)))] => some (et, x)
 | _ => none
def hopBuildF (P : Program) (S : SS) (t : TypeId) (len : Nat) (et : ET) (x : Atom) : Res Hop := do
 let k ← need (mkOf P t) "slice type"
 match k with
 | .rows et' _ e => if et = et' ∧ len = 1 then .ok (.c (.s (.own S.heap.length)), [(.mklst, [x])], S.heap ++ [.row (.s2 et) e (.v S.n)], []) else .error "slice of one"
 | _ => .error "slice of one kind"
def hopBuildAny (P : Program) (S : SS) (t : TypeId) (len : Nat) (l : List (Nat × SV)) : Res Hop :=
 match frzOne l with
 | some (et, x) => hopBuildF P S t len et x
 | none => hopBuildSlice P S t len l
def zeroD (P : Program) (e : TypeId) (et : ET) : Option D :=
 match P.info? e with
 | some i => match i.zero with
  | some z => match litCells z.cells.toList with
   | some cs => (zs et.cells cs).map (unflatD et.agg)
   | none => none
  | none => none
 | none => none
where
 unflatD (agg : Bool) (ds : List D) : D := if agg then .agg ds else ds.headD .undef
 zs : List BT → List CV → Option (List D)
 | [], [] => some []
 | t :: ts, .s (.dat (.b t') (.c d)) :: cs => if t = t' then (zs ts cs).map (d :: ·) else none
 | _, _ => none
def Atom.same : Atom → Atom → Bool
 | .v i, .v j => i == j
 | .c (.int a), .c (.int b) => a == b
 | _, _ => false
def hopMakeSlice (P : Program) (S : SS) (t : TypeId) (a b : SV) : Res Hop := do
 let k ← need (mkOf P t) "slice type"
 match a, b with
 | .c (.s (.dat (.b (.int .i64)) x)), .c (.s (.dat (.b (.int .i64)) y)) =>
  if Atom.same x y then
   match k with
   | .row (.s1 et) e => do
    let z ← need (zeroD P e et) "zero"
    .ok (.c (.s (.own S.heap.length)), [(.rep, [x, .c z])], S.heap ++ [.row (.s1 et) e (.v S.n)], [])
   | .rows et e' e => .ok (.c (.s (.own S.heap.length)), [(.rep, [x, .c (.lst [])])], S.heap ++ [.rows et e' e 0 (.v S.n)], [])
   | _ => .error "slice kind"
  else .error "room beyond the length"
 | _, _ => .error "make"
def hopAppend (P : Program) (S : SS) (t : TypeId) (a b : SV) : Res Hop := do
 let k ← need (mkOf P t) "append type"
 let (x, ha, tch) ← (match a with
  | .c (.s .nils) => .ok (.c (.lst []), S.heap, [])
  | .c (.s (.own β)) =>
   match S.heap[β]?, k with
   | some (.row u e x), .row u' e' => if u = u' ∧ e = e' then .ok (x, S.heap.set β .dead, [β]) else .error "append row"
   | some (.rows et f e _ x), .rows et' f' e' => if et = et' ∧ f = f' ∧ e = e' then .ok (x, S.heap.set β .dead, [β]) else .error "append rows"
   | _, _ => .error "append to"
  | _ => .error "append to what is not own" : Res (Atom × List SB × List Nat))
 match k, b with
 | .row (.s1 et) e, .c (.s (.dat (.s1 et') y)) =>
  if et = et' then .ok (.c (.s (.own S.heap.length)), [(.app, [x, y])], ha ++ [.row (.s1 et) e (.v S.n)], tch) else .error "append type"
 | .row (.s1 et) e, .c (.s .nils) => .ok (.c (.s (.own S.heap.length)), [(.app, [x, .c (.lst [])])], ha ++ [.row (.s1 et) e (.v S.n)], tch)
 | .row (.s1 et) e, .c (.s (.own γ)) =>
  match ha[γ]? with
  | some (.row (.s1 et') _ y) => if et = et' then .ok (.c (.s (.own S.heap.length)), [(.app, [x, y])], ha ++ [.row (.s1 et) e (.v S.n)], tch) else .error "append type"
  | _ => .error "append what"
 | .rows et e' e, .c (.s (.own γ)) =>
  match ha[γ]? with
  | some (.rows et' f' e'' _ y) =>
   if et = et' ∧ f' = e' ∧ e'' = e then .ok (.c (.s (.own S.heap.length)), [(.app, [x, y])], ha.set γ .dead ++ [.rows et e' e 0 (.v S.n)], γ :: tch) else .error "append rows type"
  | _ => .error "append what rows"
 | _, _ => .error "append kind"
def mapNews (S : SS) (et : ET) : SV → Res Atom
 | .c (.s (.dat (.s1 et') y)) => if et = et' then .ok y else .error "append type"
 | .c (.s (.own γ)) =>
  match S.heap[γ]? with
  | some (.row (.s1 et') _ y) => if et = et' then .ok y else .error "append type"
  | _ => .error "append what"
 | _ => .error "append kind"
def hopAppendM (P : Program) (S : SS) (t : TypeId) (β ver : Nat) (d j y : Atom) (b : SV) : Res Hop := do
 let k ← need (mkOf P t) "append type"
 match S.heap[β]?, mapNow S β ver d, k with
 | some (.map m _ _ _), some (et, e), .row u e' =>
  if u = .s1 et ∧ e = e' then do
   let z ← mapNews S et b
   .ok (.c (.s (.own S.heap.length)), [(.app, [y, z])], S.heap.set β (.map m (ver + 1) d (some j)) ++ [.row (.s1 et) e (.v S.n)], [β])
  else .error "append map row"
 | _, _, _ => .error "append to a map's"
def hopAppendF (P : Program) (S : SS) (t : TypeId) (β : Nat) (et : ET) (e : TypeId) (x : Atom) (b : SV) : Res Hop := do
 let k ← need (mkOf P t) "append type"
 match k, b with
 | .rows et' _ e', .c (.s (.own γ)) =>
  match (S.heap.set β .dead)[γ]? with
  | some (.row (.s2 et2) _ y) => if et = et' ∧ e = e' ∧ et2 = et then .ok (.c (.s (.own S.heap.length)), [(.app, [x, y])], S.heap.set β .dead ++ [.row (.s2 et) e (.v S.n)], [β]) else .error "append frozen type"
  | _ => .error "append frozen what"
 | _, _ => .error "append frozen kind"
def isFrz (S : SS) : SV → Option (Nat × ET × TypeId × Atom)
 | .c (.s (.own β)) => match S.heap[β]? with | some (.row (.s2 et) e x) => some (β, et, e, x) | _ => none
 | _ => none
def hopApp (P : Program) (S : SS) (t : TypeId) (a b : SV) : Res Hop :=
 match a with
 | .c (.s (.ment β ver d j y)) => hopAppendM P S t β ver d j y b
 | _ => match isFrz S a with
  | some (β, et, e, x) => hopAppendF P S t β et e x b
  | none => hopAppend P S t a b
def hopStore (P : Program) (S : SS) (t : TypeId) (β : Nat) (i : Atom) (sz' off : Nat) (v : SV) : Res Hop := do
 let sz ← need (sizeB P t) "store size"
 match S.heap[β]? with
 | some (.row (.s1 et) e x) =>
  match svCells v with
  | some (_, vs) =>
   if sz' = et.cells.length ∧ vs.length = sz ∧ off + sz ≤ et.cells.length ∧ 0 < sz then do
    let ys ← elemPush.cellAtoms0 ((et.cells.drop off).take sz) vs
    if et.agg then
     if sz = et.cells.length then .ok (SV.undef, [(.mkagg, ys), (.set, [x, i, .v S.n])], S.heap.set β (.row (.s1 et) e (.v (S.n + 1))), [β])
     else
      let m := et.cells.length
      let pre : List Push := (.idx, [x, i]) :: (List.range m).map fun j => (.proj j, [.v S.n])
      let cells : List Atom := ((List.range m).map fun j => Atom.v (S.n + 1 + j)).take off ++ ys ++ ((List.range m).map fun j => Atom.v (S.n + 1 + j)).drop (off + sz)
      .ok (SV.undef, pre ++ [(.mkagg, cells), (.set, [x, i, .v (S.n + 1 + m)])], S.heap.set β (.row (.s1 et) e (.v (S.n + 2 + m))), [β])
    else match ys with
     | [y] => if et.cells.length = 1 then .ok (SV.undef, [(.set, [x, i, y])], S.heap.set β (.row (.s1 et) e (.v S.n)), [β]) else .error "store element"
     | _ => .error "store element"
   else .error "store shape"
  | none => .error "store value"
 | some (.rows et e' e ver x) =>
  match v with
  | .c (.s (.own γ)) =>
   match S.heap[γ]? with
   | some (.row (.s1 et') e'' y) =>
    if γ ≠ β ∧ et = et' ∧ e'' = e' ∧ sz' = 1 ∧ off = 0 ∧ sz = 1 then .ok (SV.undef, [(.set, [x, i, y])], (S.heap.set γ .dead).set β (.rows et e' e (ver + 1) (.v S.n)), [β, γ]) else .error "store row type"
   | _ => .error "store row"
  | _ => .error "store in rows"
 | _ => .error "store block"
def hopMakeMap (P : Program) (S : SS) (t : TypeId) : Res Hop := do
 let m ← need (mpOf P t) "map type"
 .ok (.c (.s (.omap S.heap.length)), [], S.heap ++ [.map m 0 (.c (.lst [])) none], [])
def hopMapUpdate (P : Program) (S : SS) (t : TypeId) (x i v : SV) : Res Hop := do
 let (β, m, ver, d, hole, ks) ← mapAt P S t x i
 match hole, m.v, v with
 | none, .b b, .c (.s (.dat (.b b') y)) =>
  if b = b' then .ok (SV.undef, [(.mkagg, ks), (.mset, [d, .v S.n, y])], S.heap.set β (.map m (ver + 1) (.v (S.n + 1)) none), [β]) else .error "map value type"
 | _, _, _ => .error "map value"
def entVal (b : MT) (β ver n : Nat) : CV0 :=
 match b with
 | .b b => .dat (.b b) (.v (n + 2))
 | .s _ _ => .ment β ver (.v (n + 1)) (.v (n + 3)) (.v (n + 2))
def zeroMT : MT → Option D
 | .b b => zeroB b
 | .s _ _ => some (.lst [])
def hopMapEntry (P : Program) (S : SS) (t : TypeId) (x i : SV) : Res Hop := do
 let (β, m, ver, d, hole, ks) ← mapAt P S t x i
 match hole with
 | none => do
  let z ← need (zeroMT m.v) "map zero"
  .ok (.tup [(false, [.s (entVal m.v β (ver + 1) S.n)]), (false, [.s (.dat (.b (.int .i64)) (.v (S.n + 3)))])],
   [(.mkagg, ks), (.ment, [d, .v S.n, .c z]), (.mget, [.v (S.n + 1), .v S.n, .c z]), (.midx, [.v (S.n + 1), .v S.n])], S.heap.set β (.map m (ver + 1) (.v (S.n + 1)) none), [β])
 | some _ => .error "map entry"
def hopEntryStore (P : Program) (S : SS) (t : TypeId) (x i v : SV) : Res Hop :=
 match x, i with
 | .c (.s (.omap β)), .c (.s (.dat (.b (.int .i64)) j)) =>
  match S.heap[β]? with
  | some (.map m ver d hole) =>
   if mpOf P t = some m then
    match hole, m.v, v with
    | none, .b b, .c (.s (.dat (.b b') y)) => if b = b' then .ok (SV.undef, [(.mseti, [d, j, y])], S.heap.set β (.map m (ver + 1) (.v S.n) none), [β]) else .error "entry value type"
    | some k, .s et e, .c (.s (.own γ)) =>
     match S.heap[γ]? with
     | some (.row (.s1 et') e' y) =>
      if γ ≠ β ∧ Atom.alike k j = true ∧ et = et' ∧ e = e' then .ok (SV.undef, [(.mseti, [d, j, y])], (S.heap.set γ .dead).set β (.map m (ver + 1) (.v S.n) none), [β, γ]) else .error "entry row type"
     | _ => .error "entry row"
    | _, _, _ => .error "entry value"
   else .error "entry type"
  | _ => .error "entry block"
 | _, _ => .error "entry"
def hop (P : Program) (S : SS) (o : Oper) : Res Hop :=
 match o.op with
 | .box t x => do
  let a ← getSV S x
  match svCells a with
  | some (_, cs) =>
   if cs.all plainCV then
    if decide (allCells P 8 t = some (true, srcCells)) then do
     let ys ← boxAtoms srcCells cs
     .ok (.c (.s (.vptr S.heap.length 0)), [(.mkagg, ys)], S.heap ++ [.bx srcCells (.v S.n)], [])
    else .ok (.c (.s (.vptr S.heap.length 0)), [], S.heap ++ [.var cs], [])
   else .error "box cells"
  | none => .error "box"
 | .alloc t => do
  let i ← need (P.info? t) "alloc type"
  let z ← need i.zero "alloc zero"
  if isSrc P t z then .ok (.c (.s (.vptr S.heap.length 0)), [], S.heap ++ [.bx srcCells (.c (.agg [.lst [], .int 0, .int 0]))], []) else do
  let cs ← need (litCells z.cells.toList) "alloc cells"
  .ok (.c (.s (.vptr S.heap.length 0)), [], S.heap ++ [.var cs], [])
 | .store t p x => do
  let pa ← getSV S p
  let a ← getSV S x
  match pa with
  | .c (.s (.vptr β off)) => do
   let sz ← need (sizeB P t) "store size"
   match svCells a with
   | some (_, vs) =>
    match S.heap[β]? with
    | some (.var cs) =>
     if vs.length = sz ∧ off + sz ≤ cs.length ∧ vs.all plainCV then .ok (SV.undef, [], S.heap.set β (.var (cs.take off ++ vs ++ cs.drop (off + sz))), [β]) else .error "store shape"
    | some (.bx ts x) => hopBoxStore S β ts x off sz vs
    | _ => .error "store block"
   | none => .error "store"
  | .c (.s (.eptr β i sz off)) => hopStore P S t β i sz off a
  | _ => .error "store"
 | .buildSlice t len parts => do
  let l ← svParts S none parts.toList
  hopBuildAny P S t len l
 | .makeSlice t l c => do hopMakeSlice P S t (← getSV S l) (← getSV S c)
 | .makeMap t none => hopMakeMap P S t
 | .mapUpdate t m k v => do hopMapUpdate P S t (← getSV S m) (← getSV S k) (← getSV S v)
 | .mapEntry t m k => do hopMapEntry P S t (← getSV S m) (← getSV S k)
 | .entryStore t m s v => do hopEntryStore P S t (← getSV S m) (← getSV S s) (← getSV S v)
 | .call { callee := .builtin .append, args, argTypes } => do
  match ← getSVs S none args.toList, argTypes.toList with
  | [a, b], [t, t'] => if t = t' then hopApp P S t a b else .error "append types"
  | _, _ => .error "append"
 | .slice t x lo hi none => do
  match ← getSV S x with
  | .c (.s (.own β)) => do
   let a ← (match lo with | none => .ok none | some y => do let v ← getSV S y; .ok (some v))
   let b ← (match hi with | none => .ok none | some y => do let v ← getSV S y; .ok (some v))
   match S.heap[β]? with
   | some (.row (.s1 et) _ l) => do let (v, ps) ← lopSlice P S.n t l (.s1 et) a b; .ok (v, ps, S.heap.set β .dead, [β])
   | some (.rows et _ _ _ l) => do let (v, ps) ← lopSlice P S.n t l (.s2 et) a b; .ok (v, ps, S.heap.set β .dead, [β])
   | _ => .error "slice block"
  | .c (.s (.vptr β off)) =>
   match lo, hi, P.underlying t, S.heap[β]? with
   | none, none, some (.array n e), some (.var cs) =>
    match ctOf P e with
    | some bt =>
     if off = 0 ∧ sizeB P e = some 1 ∧ cs.length = n ∧ 0 < n then do
      let xs ← elemPush.cellAtoms0 (List.replicate n bt) cs
      .ok (.c (.s (.dat (.s1 ⟨false, [bt]⟩) (.v S.n))), [(.mklst, xs)], S.heap.set β .dead, [β])
     else .error "slice of an array: size"
    | none => .error "slice of an array: cells"
   | _, _, _, _ => .error "slice of an array"
  | _ => .error "slice"
 | _ => .error "no operation"
def calleeOf (S : SS) (g : Guard) : Operand → Res (FuncId × List SV)
 | .func f => .ok (f, [])
 | .tmp t => do
  match strip g (← getSV S (.tmp t)) with
  | .c (.fn f cs) => .ok (f, cs.map fun c => .c (.s c))
  | _ => .error "callee"
 | _ => .error "callee"
def frzB (h : Nat) : SV → List SB → Option (ET × TypeId × Atom)
 | .c (.s (.own β)), [.row (.s1 et) e x] => if β = h then some (et, e, x) else none
 | _, _ => none
def frzV (r : ET × TypeId × Atom) : SV := .c (.s (.dat (.s1 r.1) r.2.2))
def hopGuarded (P : Program) (S : SS) (g : Guard) (o : Oper) (why : String) : Res (SV × List Push) :=
 match o.op with
 | .buildSlice t len parts => do
  let l ← svParts S g parts.toList
  let (v, ps, heap, tch) ← hopBuildSlice P S t len l
  match mkOf P t, tch with
  | some (.row (.s1 _) _), [] =>
   match frzB S.heap.length v (heap.drop S.heap.length) with
   | some r => .ok (frzV r, ps)
   | none => .error "built under a guard"
  | _, _ => .error "built under a guard"
 | _ => .error why
def sop (E : Env) (ops : List Oper) (S : SS) (o : Oper) : Res (SS × Guard × Eff × List Nat) := do
 let g ← guardOf S ops o
 match lop E.P E.ext S g o with
 | .ok r => do
  let (v, ps) := ownPlace S.n g r
  if g.isSome ∧ freshSV S.n ps.length v = false then .error "guarded value" else do
  let slots ← put S o.dst (wrapG g v)
  .ok ({ S with n := S.n + ps.length, slots }, g, .prims ps, [])
 | .error why =>
  match o.op with
  | .call { callee := .value fo, args, .. } => do
   let (f, caps) ← calleeOf S g fo
   match E.sig f with
   | some (key, sg) => do
    let as ← getSVs S g args.toList
    let ar ← argAll S S.n sg.params (as ++ caps)
    let n1 := S.n + ar.pre.length
    let m := resCount sg.results + sg.keeps.length
    let (heap', post) := afterMA ar.mas (n1 + resCount sg.results) (n1 + m) S.heap
    let (rs, bs) := resAll sg.results n1 S.heap.length
    let v ← need (resSV rs) "result shape"
    if ¬ (ar.mas.map MA.β).Nodup ∨ ar.rds.any (fun β => (ar.mas.map MA.β).contains β) = true ∨ callFree sg ar = false then .error "one own block twice" else
    if g.isSome = true ∧ bs.isEmpty = false then
     match frzB S.heap.length v bs with
     | some r =>
      if ar.mas.isEmpty = true ∧ ar.pre.isEmpty = true ∧ freshSV S.n m (frzV r) = true ∧ o.dst.isSome = true then do
       let slots ← put S o.dst (wrapG g (frzV r))
       .ok ({ n := S.n + m, slots, heap := S.heap }, g, .call [] key ar.xs m [], [])
      else .error "own results under a guard: what is handed over"
     | none => .error "own results under a guard: not one row"
    else
    if g.isSome ∧ (bs.isEmpty = false ∨ ar.mas.isEmpty = false ∨ ar.pre.isEmpty = false ∨ freshSV n1 m v = false) then .error "own results under a guard" else do
    let slots ← put S o.dst (wrapG g v)
    .ok ({ n := n1 + m + post.length, slots, heap := heap' ++ bs }, g, .call ar.pre key ar.xs m post, ar.mas.map MA.β)
   | none => .error "no signature"
  | _ =>
   if g.isSome then do
    let (v, ps) ← hopGuarded E.P S g o why
    if freshSV S.n ps.length v = false ∨ o.dst.isSome = false then .error "guarded value" else do
    let slots ← put S o.dst (wrapG g v)
    .ok ({ S with n := S.n + ps.length, slots }, g, .prims ps, [])
   else do
   let (v, ps, heap, tch) ← hop E.P S o
   let slots ← put S o.dst v
   .ok ({ n := S.n + ps.length, slots, heap }, g, .prims ps, tch)
end Vs

namespace Vs
open Go Go.RowKit
def unflat (agg : Bool) (ds : List D) : D := if agg then .agg ds else ds.headD .undef
def RdB : BT → Value → D → Prop
 | .int k, v, d => ∃ n, v = .int k n ∧ d = .int n
 | .bool, v, d => ∃ b, v = .bool b ∧ d = .bool b
 | .flt k, v, d => ∃ b, v = .float k b ∧ d = .flt (canon k b)
 | .str, v, d => ∃ s, v = .string s ∧ d = .str s
def RdCs {α : Type} (R : α → Value → D → Prop) : List α → List Value → List D → Prop
 | [], [], [] => True
 | t :: ts, v :: vs, d :: ds => R t v d ∧ RdCs R ts vs ds
 | _, _, _ => False
def RdRow {α : Type} (R : α → Value → D → Prop) (ts : List α) : List Value → List (List D) → Prop
 | xs, [] => xs = []
 | xs, l :: ls => ∃ c r, xs = c ++ r ∧ RdCs R ts c l ∧ RdRow R ts r ls
def RdSl (w : World) (F : Nat → Prop) (rr : List Value → List (List D) → Prop) (agg : Bool) (v : Value) (d : D) : Prop :=
 ∃ ls : List (List D), d = .lst (ls.map (unflat agg)) ∧ (((∃ a cap, v = .slice a 0 cap ∧ (a = none → cap = 0)) ∧ ls = []) ∨
  ∃ b off cap xs, v = .slice (some ⟨b, off, none⟩) ls.length cap ∧ ls.length ≤ cap ∧ F b ∧ (∀ (j : Nat) u, xs[j]? = some u → w.cell? ⟨b, off + j, none⟩ = some u) ∧ rr xs ls)
def rr1 (e : ET) : List Value → List (List D) → Prop := RdRow RdB e.cells
def rr2 (w : World) (F : Nat → Prop) (e : ET) : List Value → List (List D) → Prop := RdRow (fun (_ : Unit) v d => RdSl w F (rr1 e) e.agg v d) [()]
def RdC (w : World) (F : Nat → Prop) : CT → Value → D → Prop
 | .b t => RdB t
 | .s1 e => RdSl w F (rr1 e) e.agg
 | .s2 e => RdSl w F (rr2 w F e) false
def rowRd (w : World) (F : Nat → Prop) : CT → List Value → List (List D) → Prop
 | .s1 e => rr1 e
 | .s2 e => rr2 w F e
 | .b _ => fun _ _ => False
theorem RdCs.mono {α : Type} {R R' : α → Value → D → Prop} (h : ∀ t v d, R t v d → R' t v d) : ∀ {ts : List α} {vs : List Value} {ds : List D}, RdCs R ts vs ds → RdCs R' ts vs ds
 | [], [], [], _ => trivial
 | _ :: _, _ :: _, _ :: _, ⟨a, b⟩ => ⟨h _ _ _ a, RdCs.mono h b⟩
theorem RdRow.mono {α : Type} {R R' : α → Value → D → Prop} (h : ∀ t v d, R t v d → R' t v d) {ts : List α} : ∀ {ls : List (List D)} {xs : List Value}, RdRow R ts xs ls → RdRow R' ts xs ls
 | [], _, e => e
 | _ :: _, _, ⟨c, r, e, a, b⟩ => ⟨c, r, e, a.mono h, RdRow.mono h b⟩
structure Stays (F F' : Nat → Prop) (w w' : World) : Prop where
 le : ∀ b, F b → F' b
 same : ∀ b, F b → w'.heap[b]? = w.heap[b]?
theorem Stays.cell {F F' : Nat → Prop} {w w' : World} (h : Stays F F' w w') {b : Nat} (hb : F b) (o : Nat) : w'.cell? ⟨b, o, none⟩ = w.cell? ⟨b, o, none⟩ :=
 World.cell?_of_block (a := ⟨b, o, none⟩) (h.same b hb)
theorem RdSl.mono {F F' : Nat → Prop} {w w' : World} (h : Stays F F' w w') {rr rr' : List Value → List (List D) → Prop} (hr : ∀ xs ls, rr xs ls → rr' xs ls) {agg : Bool} {v : Value} {d : D}
  (hh : RdSl w F rr agg v d) : RdSl w' F' rr' agg v d := by
 obtain ⟨ls, hd, hn | ⟨b, off, cap, xs, hv, hcap, hb, hc, hx⟩⟩ := hh
 ·exact ⟨ls, hd, .inl hn⟩
 ·exact ⟨ls, hd, .inr ⟨b, off, cap, xs, hv, hcap, h.le b hb, fun j u hu => by rw [h.cell hb]; exact hc j u hu, hr _ _ hx⟩⟩
theorem rr2.mono {F F' : Nat → Prop} {w w' : World} (h : Stays F F' w w') {e : ET} : ∀ xs ls, rr2 w F e xs ls → rr2 w' F' e xs ls :=
 fun _ _ => RdRow.mono fun _ _ _ => RdSl.mono h fun _ _ h => h
theorem RdC.mono {F F' : Nat → Prop} {w w' : World} (h : Stays F F' w w') {t : CT} {v : Value} {d : D} (hh : RdC w F t v d) : RdC w' F' t v d := by
 cases t with
 | b t => exact hh
 | s1 e => exact RdSl.mono h (fun _ _ h => h) hh
 | s2 e => exact RdSl.mono h (rr2.mono h) hh
theorem rowRd.mono {F F' : Nat → Prop} {w w' : World} (h : Stays F F' w w') {t : CT} {xs : List Value} {ls : List (List D)} (hh : rowRd w F t xs ls) : rowRd w' F' t xs ls := by
 cases t with
 | b t => exact hh
 | s1 e => exact hh
 | s2 e => exact rr2.mono h _ _ hh
def Atom.get (ρ : List D) : Atom → Option D
 | .v i => ρ[i]?
 | .c d => some d
theorem Atom.ev_of_get {ρ : List D} {x : Atom} {d : D} (h : x.get ρ = some d) : x.ev ρ = d := by
 cases x with
 | v i => simp only [Atom.get] at h; simp [Atom.ev, List.getD_eq_getElem?_getD, h]
 | c d' => simp only [Atom.get, Option.some.injEq] at h; exact h
theorem Atom.get_append {ρ σ : List D} {x : Atom} {d : D} (h : x.get ρ = some d) : x.get (ρ ++ σ) = some d := by
 cases x with
 | v i =>
  simp only [Atom.get] at *;rw [List.getElem?_append_left]
  ·exact h
  ·rcases Nat.lt_or_ge i ρ.length with h' | h'
   ·exact h'
   ·rw [List.getElem?_eq_none h'] at h; cases h
 | c d' => exact h
structure MV where
 v : Value
 hist : List (List Value)
abbrev Mu := Nat → MV
def blkOf : Value → Option Nat
 | .pointer (some a) => some a.block
 | .slice (some a) _ _ => some a.block
 | .map (some b) => some b
 | _ => none
def MV.inner (m : MV) : List Value := (m.hist.getLast?).getD []
def MV.own (m : MV) (b : Nat) : Prop := blkOf m.v = some b ∨ ∃ u ∈ m.inner, blkOf u = some b
def MV.one (v : Value) : MV := ⟨v, []⟩
theorem MV.inner_nil {m : MV} (h : m.hist = []) : m.inner = [] := by simp [MV.inner, h]
theorem MV.own_flat {m : MV} (h : m.hist = []) {b : Nat} : m.own b ↔ blkOf m.v = some b := by simp [MV.own, MV.inner_nil h]
def live (h : List SB) (β : Nat) : Prop := ∃ sb, h[β]? = some sb ∧ sb ≠ .dead
def Fz (X : Nat → Prop) (h : List SB) (μ : Mu) (w : World) (b : Nat) : Prop := (b < w.heap.size ∧ ¬ X b) ∧ ∀ β, live h β → ¬ (μ β).own b
def FCR (w : World) (F : Nat → Prop) (hl : Nat) (μ : Mu) (ρ : List D) : FC → Value → Prop
 | .d t x, v => ∃ d, x.get ρ = some d ∧ RdC w F t v d
 | .o β, v => β < hl ∧ v = (μ β).v ∧ ∃ a len cap, (μ β).v = .slice a len cap
 | .p β, v => β < hl ∧ ∃ b, (μ β).v = .pointer (some ⟨b, 0, none⟩) ∧ v = .pointer (some ⟨b, 0, none⟩)
def mD (kvs : List (List Int × D)) : D := .lst (kvs.map fun (kv : List Int × D) => .agg [.agg (kv.1.map D.int), kv.2])
def kVal (ns : List Int) : Value := .agg (ns.map (Value.int .i64)).toArray
def KS (ρ : List D) : List Atom → List Int → Prop
 | [], [] => True
 | k :: ks, n :: ns => k.get ρ = some (.int n) ∧ KS ρ ks ns
 | _, _ => False
def kR (ns : List Int) : Prop := ∀ n ∈ ns, -9223372036854775808 ≤ n ∧ n < 9223372036854775808
def MEnt (ρ : List D) (l : List Value) (d j y : Atom) (v : Value) : Prop :=
 ∃ (kvs : List (List Int × D)) (n : Nat) (kv : List Int × D), d.get ρ = some (mD kvs) ∧ l.length = kvs.length ∧ j.get ρ = some (.int n) ∧ kvs[n]? = some kv ∧ l[n]? = some v ∧ y.get ρ = some kv.2 ∧ ∃ a len cap, v = .slice a len cap
def MRef (ρ : List D) (l : List Value) (d : Atom) (ks : List Atom) (y : Atom) (v : Value) : Prop :=
 ∃ (kvs : List (List Int × D)) (ns : List Int), d.get ρ = some (mD kvs) ∧ KS ρ ks ns ∧ kR ns ∧ l.length = kvs.length ∧
  ((∃ (j : Nat) (kv : List Int × D), kvs[j]? = some kv ∧ kv.1 = ns ∧ l[j]? = some v ∧ y.get ρ = some kv.2) ∨ ((∀ kv ∈ kvs, kv.1 ≠ ns) ∧ v = .slice none 0 0 ∧ y.get ρ = some (.lst []))) ∧ ∃ a len cap, v = .slice a len cap
def RRef (ρ : List D) (l : List Value) (d i y : Atom) (v : Value) : Prop :=
 ∃ (ls : List D) (n : Nat) (dy : D), d.get ρ = some (.lst ls) ∧ i.get ρ = some (.int n) ∧ ls[n]? = some dy ∧ l[n]? = some v ∧ y.get ρ = some dy ∧ ∃ a len cap, v = .slice a len cap
def CVR0 (w : World) (F : Nat → Prop) (hl : Nat) (μ : Mu) (ρ : List D) : CV0 → Value → Prop
 | .undef, _ => True
 | .nils, v => v = .slice none 0 0
 | .dat t x, v => ∃ d, x.get ρ = some d ∧ RdC w F t v d
 | .own β, v => β < hl ∧ v = (μ β).v ∧ ∃ a len cap, (μ β).v = .slice a len cap
 | .vptr β off, v => β < hl ∧ ∃ b, (μ β).v = .pointer (some ⟨b, 0, none⟩) ∧ v = .pointer (some ⟨b, off, none⟩)
 | .eptr β i sz off, v => β < hl ∧ ∃ b len cap n, (μ β).v = .slice (some ⟨b, 0, none⟩) len cap ∧ i.get ρ = some (.int n) ∧ 0 ≤ n ∧ n < (len : Int) ∧ v = .pointer (some ⟨b, n.toNat * sz + off, none⟩)
 | .rref β ver d i y, v => β < hl ∧ ∃ l, (μ β).hist[ver]? = some l ∧ RRef ρ l d i y v
 | .rptr β ver d i y ix sz off, v => β < hl ∧ ∃ l u, (μ β).hist[ver]? = some l ∧ RRef ρ l d i y u ∧ ∃ b len cap n, u = .slice (some ⟨b, 0, none⟩) len cap ∧ ix.get ρ = some (.int n) ∧ 0 ≤ n ∧ n < (len : Int) ∧ v = .pointer (some ⟨b, n.toNat * sz + off, none⟩)
 | .fcel cs off, v => ∃ b o, v = .pointer (some ⟨b, o + off, none⟩) ∧ F b ∧ ∀ (j : Nat) c, cs[j]? = some c → ∃ u, w.cell? ⟨b, o + j, none⟩ = some u ∧ FCR w F hl μ ρ c u
 | .omap β, v => β < hl ∧ v = (μ β).v ∧ ∃ b, (μ β).v = .map (some b)
 | .mref β ver d ks y, v => β < hl ∧ ∃ l, (μ β).hist[ver]? = some l ∧ MRef ρ l d ks y v
 | .ment β ver d j y, v => β < hl ∧ ∃ l, (μ β).hist[ver]? = some l ∧ MEnt ρ l d j y v
 | .mptr β ver d ks y i, v => β < hl ∧ ∃ l u, (μ β).hist[ver]? = some l ∧ MRef ρ l d ks y u ∧ ∃ b len cap n, u = .slice (some ⟨b, 0, none⟩) len cap ∧ i.get ρ = some (.int n) ∧ 0 ≤ n ∧ n < (len : Int) ∧ v = .pointer (some ⟨b, n.toNat, none⟩)
def CVR (w : World) (F : Nat → Prop) (hl : Nat) (μ : Mu) (ρ : List D) : CV → Value → Prop
 | .s c, v => CVR0 w F hl μ ρ c v
 | .fn f caps, v => ∃ cs, v = .func (.func f) #[] cs ∧ cs.size = caps.length ∧ ∀ (j : Nat) c u, caps[j]? = some c → cs[j]? = some u → CVR0 w F hl μ ρ c u
def CVRs (w : World) (F : Nat → Prop) (hl : Nat) (μ : Mu) (ρ : List D) : List CV → List Value → Prop
 | [], [] => True
 | c :: cs, v :: vs => CVR w F hl μ ρ c v ∧ CVRs w F hl μ ρ cs vs
 | _, _ => False
def PVR (w : World) (F : Nat → Prop) (hl : Nat) (μ : Mu) (ρ : List D) (agg : Bool) (cs : List CV) (v : Value) : Prop :=
 match agg with
 | true => ∃ arr : Array Value, v = .agg arr ∧ CVRs w F hl μ ρ cs arr.toList
 | false => ∃ c, cs = [c] ∧ CVR w F hl μ ρ c v
def TVR (w : World) (F : Nat → Prop) (hl : Nat) (μ : Mu) (ρ : List D) : List (Bool × List CV) → List Value → Prop
 | [], [] => True
 | (ag, cs) :: r, v :: vs => PVR w F hl μ ρ ag cs v ∧ TVR w F hl μ ρ r vs
 | _, _ => False
def unset (ρ : List D) : SV → Prop
 | .c (.s (.dat _ (.v i))) => ∃ d, ρ[i]? = some d ∧ ∀ b, d ≠ .bool b
 | _ => True
def SVR (w : World) (F : Nat → Prop) (hl : Nat) (μ : Mu) (ρ : List D) : SV → Value → Prop
 | .c x, v => CVR w F hl μ ρ x v
 | .agg cs, v => ∃ arr : Array Value, v = .agg arr ∧ CVRs w F hl μ ρ cs arr.toList
 | .tup vs, v => ∃ arr : Array Value, v = .tuple arr ∧ TVR w F hl μ ρ vs arr.toList
 | .gd g want s, v => g.get ρ ≠ none ∧ (g.get ρ = some (.bool want) → SVR w F hl μ ρ s v) ∧ (g.get ρ ≠ some (.bool want) → v = Go.undef ∧ unset ρ s)
structure Grows (F F' : Nat → Prop) (hl hl' : Nat) (μ μ' : Mu) (ρ ρ' : List D) (w w' : World) : Prop where
 stays : Stays F F' w w'
 env : ∃ σ, ρ' = ρ ++ σ
 len : hl ≤ hl'
 mu : ∀ β, β < hl → (μ' β).v = (μ β).v ∧ ∃ ext, (μ' β).hist = (μ β).hist ++ ext
section
variable {F F' : Nat → Prop} {μ μ' : Mu} {hl hl' : Nat} {ρ ρ' : List D} {w w' : World}
theorem Grows.get (h : Grows F F' hl hl' μ μ' ρ ρ' w w') {x : Atom} {d : D} (hx : x.get ρ = some d) : x.get ρ' = some d := by
 obtain ⟨σ, rfl⟩ := h.env
 exact Atom.get_append hx
theorem Grows.v (h : Grows F F' hl hl' μ μ' ρ ρ' w w') {β : Nat} (hb : β < hl) : (μ' β).v = (μ β).v := (h.mu β hb).1
theorem KS.mono (h : Grows F F' hl hl' μ μ' ρ ρ' w w') : ∀ {ks : List Atom} {ns : List Int}, KS ρ ks ns → KS ρ' ks ns
 | [], [], _ => trivial
 | _ :: _, _ :: _, ⟨a, b⟩ => ⟨h.get a, KS.mono h b⟩
theorem MRef.mono (h : Grows F F' hl hl' μ μ' ρ ρ' w w') {l : List Value} {d : Atom} {ks : List Atom} {y : Atom} {v : Value} (hh : MRef ρ l d ks y v) : MRef ρ' l d ks y v := by
 obtain ⟨kvs, ns, h1, h2, h3, h4, h5, h6⟩ := hh
 refine ⟨kvs, ns, h.get h1, h2.mono h, h3, h4, ?_, h6⟩
 rcases h5 with ⟨j, kv, a, b, c, d⟩ | ⟨a, b, c⟩
 ·exact .inl ⟨j, kv, a, b, c, h.get d⟩
 ·exact .inr ⟨a, b, h.get c⟩
theorem MEnt.mono (h : Grows F F' hl hl' μ μ' ρ ρ' w w') {l : List Value} {d j y : Atom} {v : Value} (hh : MEnt ρ l d j y v) : MEnt ρ' l d j y v := by
 obtain ⟨kvs, n, kv, h1, h2, h3, h4, h5, h6, h7⟩ := hh
 exact ⟨kvs, n, kv, h.get h1, h2, h.get h3, h4, h5, h.get h6, h7⟩
theorem RRef.mono (h : Grows F F' hl hl' μ μ' ρ ρ' w w') {l : List Value} {d i y : Atom} {v : Value} (hh : RRef ρ l d i y v) : RRef ρ' l d i y v := by
 obtain ⟨ls, n, dy, h1, h2, h3, h4, h5, h6⟩ := hh
 exact ⟨ls, n, dy, h.get h1, h.get h2, h3, h4, h.get h5, h6⟩
theorem Grows.hist (h : Grows F F' hl hl' μ μ' ρ ρ' w w') {β ver : Nat} (hb : β < hl) {l : List Value} (hl' : (μ β).hist[ver]? = some l) : (μ' β).hist[ver]? = some l := by
 obtain ⟨_, ext, he⟩ := h.mu β hb
 rw [he, List.getElem?_append_left (List.getElem?_eq_some_iff.1 hl').1]; exact hl'
theorem FCR.mono (h : Grows F F' hl hl' μ μ' ρ ρ' w w') {c : FC} {v : Value} (hh : FCR w F hl μ ρ c v) : FCR w' F' hl' μ' ρ' c v := by
 cases c with
 | d t x => obtain ⟨d, hx, hd⟩ := hh; exact ⟨d, h.get hx, hd.mono h.stays⟩
 | o β => obtain ⟨hb, hh⟩ := hh; refine ⟨Nat.lt_of_lt_of_le hb h.len, ?_⟩; rw [h.v hb]; exact hh
 | p β => obtain ⟨hb, hh⟩ := hh; refine ⟨Nat.lt_of_lt_of_le hb h.len, ?_⟩; rw [h.v hb]; exact hh
theorem CVR0.mono (h : Grows F F' hl hl' μ μ' ρ ρ' w w') {c : CV0} {v : Value} (hh : CVR0 w F hl μ ρ c v) : CVR0 w' F' hl' μ' ρ' c v := by
 cases c with
 | undef => trivial
 | nils => exact hh
 | dat t x => obtain ⟨d, hx, hd⟩ := hh; exact ⟨d, h.get hx, hd.mono h.stays⟩
 | own β => obtain ⟨hb, hh⟩ := hh; refine ⟨Nat.lt_of_lt_of_le hb h.len, ?_⟩; rw [h.v hb]; exact hh
 | vptr β off => obtain ⟨hb, hh⟩ := hh; refine ⟨Nat.lt_of_lt_of_le hb h.len, ?_⟩; rw [h.v hb]; exact hh
 | eptr β i sz off =>
  obtain ⟨hb, b, len, cap, n, h1, h2, h3⟩ := hh;refine ⟨Nat.lt_of_lt_of_le hb h.len, b, len, cap, n, ?_, h.get h2, h3⟩;rw [h.v hb]; exact h1
 | rref β ver d i y => obtain ⟨hb, l, h1, h2⟩ := hh; exact ⟨Nat.lt_of_lt_of_le hb h.len, l, h.hist hb h1, h2.mono h⟩
 | rptr β ver d i y ix sz off =>
  obtain ⟨hb, l, u, h1, h2, b, len, cap, n, e1, e2, e3⟩ := hh;exact ⟨Nat.lt_of_lt_of_le hb h.len, l, u, h.hist hb h1, h2.mono h, b, len, cap, n, e1, h.get e2, e3⟩
 | fcel cs off =>
  obtain ⟨b, o, h1, h2, h3⟩ := hh;refine ⟨b, o, h1, h.stays.le b h2, fun j c hj => ?_⟩
  obtain ⟨u, a1, a2⟩ := h3 j c hj;exact ⟨u, by rw [h.stays.cell h2]; exact a1, a2.mono h⟩
 | omap β => obtain ⟨hb, hh⟩ := hh; refine ⟨Nat.lt_of_lt_of_le hb h.len, ?_⟩; rw [h.v hb]; exact hh
 | mref β ver d ks y => obtain ⟨hb, l, h1, h2⟩ := hh; exact ⟨Nat.lt_of_lt_of_le hb h.len, l, h.hist hb h1, h2.mono h⟩
 | ment β ver d j y => obtain ⟨hb, l, h1, h2⟩ := hh; exact ⟨Nat.lt_of_lt_of_le hb h.len, l, h.hist hb h1, h2.mono h⟩
 | mptr β ver d ks y i =>
  obtain ⟨hb, l, u, h1, h2, b, len, cap, n, e1, e2, e3⟩ := hh;exact ⟨Nat.lt_of_lt_of_le hb h.len, l, u, h.hist hb h1, h2.mono h, b, len, cap, n, e1, h.get e2, e3⟩
theorem CVR.mono (h : Grows F F' hl hl' μ μ' ρ ρ' w w') {c : CV} {v : Value} (hh : CVR w F hl μ ρ c v) : CVR w' F' hl' μ' ρ' c v := by
 cases c with
 | s c => exact CVR0.mono h hh
 | fn f caps => obtain ⟨cs, h1, h2, h3⟩ := hh; exact ⟨cs, h1, h2, fun j c u a b => (h3 j c u a b).mono h⟩
theorem CVRs.mono (h : Grows F F' hl hl' μ μ' ρ ρ' w w') : ∀ {cs : List CV} {vs : List Value}, CVRs w F hl μ ρ cs vs → CVRs w' F' hl' μ' ρ' cs vs
 | [], [], _ => trivial
 | _ :: _, _ :: _, ⟨a, b⟩ => ⟨a.mono h, CVRs.mono h b⟩
theorem PVR.mono (h : Grows F F' hl hl' μ μ' ρ ρ' w w') {ag : Bool} {cs : List CV} {v : Value} (hh : PVR w F hl μ ρ ag cs v) : PVR w' F' hl' μ' ρ' ag cs v := by
 cases ag with
 | true => obtain ⟨arr, e, hc⟩ := hh; exact ⟨arr, e, hc.mono h⟩
 | false => obtain ⟨c, e, hc⟩ := hh; exact ⟨c, e, hc.mono h⟩
theorem TVR.mono (h : Grows F F' hl hl' μ μ' ρ ρ' w w') : ∀ {cs : List (Bool × List CV)} {vs : List Value}, TVR w F hl μ ρ cs vs → TVR w' F' hl' μ' ρ' cs vs
 | [], [], _ => trivial
 | (_, _) :: _, _ :: _, ⟨a, b⟩ => ⟨a.mono h, TVR.mono h b⟩
theorem SVR.mono (h : Grows F F' hl hl' μ μ' ρ ρ' w w') : ∀ {s : SV} {v : Value}, SVR w F hl μ ρ s v → SVR w' F' hl' μ' ρ' s v
 | .c _, _, hh => CVR.mono h hh
 | .agg _, _, ⟨arr, e, hc⟩ => ⟨arr, e, hc.mono h⟩
 | .tup _, _, ⟨arr, e, hc⟩ => ⟨arr, e, hc.mono h⟩
 | .gd g want s, v, ⟨h0, hh, hu⟩ => by
  cases hg : g.get ρ with
  | none => exact absurd hg h0
  | some d =>
   have := h.get hg;refine ⟨by rw [this]; simp, fun hw => SVR.mono h (hh ?_), fun hw => ?_⟩
   ·rw [this] at hw
    rw [hg]; exact hw
   ·rw [this] at hw
    obtain ⟨h1, h2⟩ := hu (by rw [hg]; exact hw)
    refine ⟨h1, ?_⟩;unfold unset at h2 ⊢;split
    ·rename_i i
     obtain ⟨d', hd, hb⟩ := h2;have hx : (Atom.v i).get ρ = some d' := hd;exact ⟨d', h.get hx, hb⟩
    ·trivial
end
def Apart (us : List Value) : Prop := ∀ (i j : Nat) u u', us[i]? = some u → us[j]? = some u' → i ≠ j → ∀ b, blkOf u = some b → blkOf u' ≠ some b
def RowsD (w : World) (et : ET) (e' : TypeId) (us : List Value) (ls : List (List (List D))) : Prop :=
 us.length = ls.length ∧ ∀ (i : Nat) u l, us[i]? = some u → ls[i]? = some l → ∃ n xs, w.ownsRow 0 e' et.cells.length u n xs ∧ l.length = n ∧ RdRow RdB et.cells xs l
def rowsDat (agg : Bool) (ls : List (List (List D))) : D := .lst (ls.map fun l => .lst (l.map (unflat agg)))
def ValR (w : World) : MT → Value → D → Prop
 | .b t, v, d => RdB t v d
 | .s et e, v, d => ∃ n xs l, w.ownsRow 0 e et.cells.length v n xs ∧ d = .lst (l.map (unflat et.agg)) ∧ l.length = n ∧ RdRow RdB et.cells xs l
structure MapR (w : World) (m : MPK) (es : List MapEntry) (kvs : List (List Int × D)) (us : List Value) (hk : Option Nat) : Prop where
 len : es.length = kvs.length
 ulen : us.length = kvs.length
 nodup : (kvs.map (·.1)).Nodup
 key : ∀ (j : Nat) kv, kvs[j]? = some kv → kv.1.length = m.kn ∧ kR kv.1
 ent : ∀ (j : Nat) e kv u, es[j]? = some e → kvs[j]? = some kv → us[j]? = some u → e.born = j ∧ e.key = kVal kv.1 ∧
  (hk = some j → u = .slice none 0 0) ∧ (hk ≠ some j → u = e.val ∧ ValR w m.v u kv.2)
def HoleR (ρ : List D) : Option Atom → Option Nat → Prop
 | none, none => True
 | some k, some n => k.get ρ = some (.int n)
 | _, _ => False
def MapZ (m : MPK) (bt : BT) (es : List MapEntry) (l : List D) (z : D) : Prop :=
 (∀ e ∈ es, ∃ ks : List Int, e.key = kVal ks ∧ ks.length = m.kn ∧ kR ks) ∧ ∀ ns : List Int, ns.length = m.kn → kR ns →
  ((∀ e ∈ es, e.key ≠ kVal ns) → (mfind (ns.map D.int) l).getD z = z) ∧ ∀ e ∈ es, e.key = kVal ns → RdB bt e.val ((mfind (ns.map D.int) l).getD z)
def MapB (w : World) (m : MPK) (mv : MV) (d : D) (hk : Option Nat) : Prop :=
 ∃ b es kvs, mv.v = .map (some b) ∧ w.heap[b]? = some (.map es es.size) ∧ d = mD kvs ∧ MapR w m es.toList kvs mv.inner hk ∧ Apart mv.inner ∧ ∀ u ∈ mv.inner, ∀ c, blkOf u = some c → c ≠ b
def BlkR (Mine : Nat → Prop) (w : World) (F : Nat → Prop) (hl : Nat) (μ : Mu) (ρ : List D) : SB → MV → Prop
 | .dead, _ => True
 | .hid, m => ∀ b, m.own b → b < w.heap.size
 | .var cs, m => m.hist = [] ∧ ∃ b arr T, m.v = .pointer (some ⟨b, 0, none⟩) ∧ Mine b ∧ w.heap[b]? = some (.cells arr T (0, 0)) ∧ CVRs w F hl μ ρ cs arr.toList
 | .row t e x, m => m.hist = [] ∧ ∃ n xs ls, w.ownsRow 0 e (rowSz t) m.v n xs ∧ (∀ b, m.own b → Mine b) ∧ x.get ρ = some (.lst (ls.map (unflat (rowAgg t)))) ∧ ls.length = n ∧ rowRd w F t xs ls
 | .rows et e' e ver x, m => m.hist.length = ver + 1 ∧ ∃ n ls, w.ownsRow 0 e 1 m.v n m.inner ∧ (∀ b, m.own b → Mine b) ∧ x.get ρ = some (rowsDat et.agg ls) ∧ ls.length = n ∧ RowsD w et e' m.inner ls ∧
   Apart m.inner ∧ ∀ u ∈ m.inner, ∀ b, blkOf u = some b → blkOf m.v ≠ some b
 | .map mk ver x hole, m => m.hist.length = ver + 1 ∧ (∀ b, m.own b → Mine b) ∧ ∃ d hk, x.get ρ = some d ∧ HoleR ρ hole hk ∧ MapB w mk m d hk
 | .mapz mk x, m => (∀ c, m.own c → c < w.heap.size) ∧ ∃ b es l bt z, mk.v = .b bt ∧ zeroB bt = some z ∧ m.v = .map (some b) ∧ w.heap[b]? = some (.map es es.size) ∧ x.get ρ = some (.lst l) ∧ MapZ mk bt es.toList l z
 | .bx ts x, m => m.hist = [] ∧ ∃ b arr T ds, m.v = .pointer (some ⟨b, 0, none⟩) ∧ Mine b ∧ w.heap[b]? = some (.cells arr T (0, 0)) ∧ x.get ρ = some (.agg ds) ∧ RdCs (RdC w F) ts arr.toList ds
structure Keeps (M : Nat → Prop) (w w' : World) : Prop where
 os : w'.os = w.os
 tape : w'.tape = w.tape
 output : w'.output = w.output
 size : w.heap.size ≤ w'.heap.size
 block : ∀ k, k < w.heap.size → ¬ M k → w'.heap[k]? = w.heap[k]?
 drawn : w.drawn ≤ w'.drawn
theorem Keeps.refl (M : Nat → Prop) (w : World) : Keeps M w w := ⟨rfl, rfl, rfl, Nat.le_refl _, fun _ _ _ => rfl, Nat.le_refl _⟩
theorem Keeps.trans {M : Nat → Prop} {a b c : World} (h : Keeps M a b) (k : Keeps M b c) : Keeps M a c :=
 ⟨k.os.trans h.os, k.tape.trans h.tape, k.output.trans h.output, Nat.le_trans h.size k.size,
  fun i hi hm => (k.block i (Nat.lt_of_lt_of_le hi h.size) hm).trans (h.block i hi hm), Nat.le_trans h.drawn k.drawn⟩
structure Hand where
 M : Nat → Prop
 anc : List Value
instance : CoeFun Hand (fun _ => Nat → Prop) := ⟨Hand.M⟩
instance : Coe Hand (Nat → Prop) := ⟨Hand.M⟩
structure R (X : Nat → Prop) (M : Hand) (w0 : World) (S : SS) (μ : Mu) (ρ : List D) (a : Act) (w : World) : Prop where
 keeps : Keeps M w0 w
 len : ρ.length = S.n
 size : a.tmps.size = S.slots.length
 defers : a.defers = []
 slots : ∀ (i : Nat) s, S.slots[i]? = some s → SVR w (Fz X S.heap μ w) S.heap.length μ ρ s (a.tmps.getD i Go.undef)
 blocks : ∀ (β : Nat) sb, S.heap[β]? = some sb → BlkR (fun b => w0.heap.size ≤ b ∨ M b) w (Fz X S.heap μ w) S.heap.length μ ρ sb (μ β)
 ex : ∀ b, X b → b < w.heap.size
 inj : ∀ β γ, live S.heap β → live S.heap γ → β ≠ γ → ∀ b, (μ β).own b → ¬ (μ γ).own b
 exo : ∀ β, live S.heap β → ∀ b, (μ β).own b → ¬ X b
 anc : ∀ (β : Nat) v, M.anc[β]? = some v → β < S.heap.length ∧ (μ β).v = v
theorem MV.hist_last {m : MV} {ver : Nat} (h : m.hist.length = ver + 1) : m.hist[ver]? = some m.inner := by
 unfold MV.inner
 rw [List.getLast?_eq_getElem?, h, Nat.add_sub_cancel]
 rw [List.getElem?_eq_getElem (by omega)]
 rfl
theorem ownsRow_slice {w : World} {e : TypeId} {sz n : Nat} {v : Value} {xs : List Value} (h : w.ownsRow 0 e sz v n xs) : ∃ a cap, v = .slice a n cap := by
 rcases h.2 with ⟨e1, e2⟩ | ⟨g, cap, cur, e1, _⟩
 ·exact ⟨none, 0, by rw [e1, e2]⟩
 ·exact ⟨_, _, e1⟩
theorem FCR_cv {w : World} {F : Nat → Prop} {hl : Nat} {μ : Mu} {ρ : List D} {c : FC} {v : Value} : FCR w F hl μ ρ c v ↔ CVR w F hl μ ρ c.cv v := by
 cases c <;> exact Iff.rfl
end Vs

namespace Vs
open Go Go.RowKit
structure Quiet (w w' : World) : Prop where
 heap : w'.heap = w.heap
 os : w'.os = w.os
 tape : w'.tape = w.tape
 output : w'.output = w.output
 drawn : w.drawn ≤ w'.drawn
theorem Quiet.refl (w : World) : Quiet w w := ⟨rfl, rfl, rfl, rfl, Nat.le_refl _⟩
theorem Quiet.drew (w : World) : Quiet w { w with drawn := w.drawn + 1 } := ⟨rfl, rfl, rfl, rfl, Nat.le_succ _⟩
theorem isnan_fnan (k : FloatKind) : isnan k (fnan k) = true := by cases k <;> decide
theorem canon_of {k : FloatKind} {x : Nat} (h : isnan k x = false) : canon k x = x := by simp [canon, h]
theorem canon_nan {k : FloatKind} {x : Nat} (h : isnan k x = true) : canon k x = fnan k := by simp [canon, h]
theorem isnan_canon (k : FloatKind) (x : Nat) : isnan k (canon k x) = isnan k x := by
 cases h : isnan k x with
 | true => rw [canon_nan h, isnan_fnan]
 | false => rw [canon_of h, h]
theorem read_nan {k : FloatKind} {x : Nat} (h : isnan k x = true) : ∃ s t, k.format.read x = .nan s t := by
 unfold isnan FloatKind.decode Ieee.Datum.isNaN at h
 split at h
 ·rename_i s t e; exact ⟨s, t, e⟩
 ·cases h
theorem canon_two {α : Type} (k : FloatKind) (f : Ieee.Datum → Ieee.Datum → Option α) (h1 : ∀ s t d, f (.nan s t) d = none) (h2 : ∀ d s t, f d (.nan s t) = none) (x y : Nat) :
  f (k.format.read (canon k x)) (k.format.read (canon k y)) = f (k.format.read x) (k.format.read y) := by
 cases hx : isnan k x with
 | true =>
  obtain ⟨s, t, e⟩ := read_nan hx;obtain ⟨s', t', e'⟩ := read_nan (isnan_fnan k);rw [canon_nan hx, e, e', h1, h1]
 | false =>
  rw [canon_of hx]
  cases hy : isnan k y with
  | true =>
   obtain ⟨s, t, e⟩ := read_nan hy;obtain ⟨s', t', e'⟩ := read_nan (isnan_fnan k);rw [canon_nan hy, e, e', h2, h2]
  | false => rw [canon_of hy]
theorem canon_one {α : Type} (k : FloatKind) (f : Ieee.Datum → Option α) (h1 : ∀ s t, f (.nan s t) = none) (x : Nat) : f (k.format.read (canon k x)) = f (k.format.read x) := by
 cases hx : isnan k x with
 | true =>
  obtain ⟨s, t, e⟩ := read_nan hx;obtain ⟨s', t', e'⟩ := read_nan (isnan_fnan k);rw [canon_nan hx, e, e', h1, h1]
 | false => rw [canon_of hx]
theorem add_canon (k : FloatKind) (x y : Nat) : k.format.add (canon k x) (canon k y) = k.format.add x y :=
 canon_two k (fun a b => (a.sum b).map k.format.write) (by intro s t d; cases d <;> rfl) (by intro d s t; cases d <;> rfl) x y
theorem sub_canon (k : FloatKind) (x y : Nat) : k.format.sub (canon k x) (canon k y) = k.format.sub x y :=
 canon_two k (fun a b => (a.sum b.opposite).map k.format.write) (by intro s t d; cases d <;> rfl) (by intro d s t; cases d <;> rfl) x y
theorem mul_canon (k : FloatKind) (x y : Nat) : k.format.mul (canon k x) (canon k y) = k.format.mul x y :=
 canon_two k (fun a b => (a.product b).map k.format.write) (by intro s t d; cases d <;> rfl) (by intro d s t; cases d <;> rfl) x y
theorem div_canon (k : FloatKind) (x y : Nat) : k.format.div (canon k x) (canon k y) = k.format.div x y :=
 canon_two k (fun a b => (a.quotient (k.format.fractionBits + 2) b).map k.format.write) (by intro s t d; cases d <;> rfl) (by intro d s t; cases d <;> rfl) x y
theorem order_canon (k : FloatKind) (x y : Nat) : k.format.order (canon k x) (canon k y) = k.format.order x y :=
 canon_two k (fun a b => a.order b) (by intro s t d; cases d <;> rfl) (by intro d s t; cases d <;> rfl) x y
theorem order_some {k : FloatKind} {x y : Nat} {o : Ordering} (h : k.format.order x y = some o) : isnan k x = false ∧ isnan k y = false := by
 have key : ∀ {z : Nat}, isnan k z = true → ∃ s t, k.format.read z = .nan s t := fun hz => read_nan hz
 refine ⟨?_, ?_⟩
 ·cases hx : isnan k x with
  | false => rfl
  | true =>
   obtain ⟨s, t, e⟩ := key hx;have : k.format.order x y = (k.format.read x).order (k.format.read y) := rfl;rw [this, e] at h;generalize k.format.read y = d at h
   cases d <;> cases h
 ·cases hy : isnan k y with
  | false => rfl
  | true =>
   obtain ⟨s, t, e⟩ := key hy;have : k.format.order x y = (k.format.read x).order (k.format.read y) := rfl;rw [this, e] at h;generalize k.format.read x = d at h
   cases d <;> cases h
theorem sqrt_canon (k : FloatKind) (x : Nat) : k.format.sqrt (canon k x) = k.format.sqrt x :=
 canon_one k (fun a => (a.root (k.format.fractionBits + 2)).map k.format.write) (by intro s t; rfl) x
theorem isnan32 {c : Nat} (h1 : 2139095040 < c % 2147483648) : isnan .f32 c = true := by
 have e1 : FloatKind.f32.format.signWeight = 2147483648 := rfl
 have e2 : FloatKind.f32.format.binade = 8388608 := rfl
 have e3 : FloatKind.f32.format.infRung = 2139095040 := rfl
 unfold isnan FloatKind.decode Ieee.Format.read
 simp only [e1, e2, e3]
 rw [if_neg (by omega), if_neg (by omega), if_neg (by omega)]
 rfl
theorem isnan64 {c : Nat} (h1 : 9218868437227405312 < c % 9223372036854775808) : isnan .f64 c = true := by
 have e1 : FloatKind.f64.format.signWeight = 9223372036854775808 := rfl
 have e2 : FloatKind.f64.format.binade = 4503599627370496 := rfl
 have e3 : FloatKind.f64.format.infRung = 9218868437227405312 := rfl
 unfold isnan FloatKind.decode Ieee.Format.read
 simp only [e1, e2, e3]
 rw [if_neg (by omega), if_neg (by omega), if_neg (by omega)]
 rfl
theorem nanBits_cut (k : FloatKind) (x y t : Nat) : isnan k ((Question.nanBits k x y).cut t) = true := by
 have h1 : t % 2 ≤ 1 := by omega
 cases k
 ·have h2 : t / 2 % (2 ^ 23 - 1) < 2 ^ 23 - 1 := Nat.mod_lt _ (by decide)
  refine isnan32 ?_; simp only [Question.cut];generalize t % 2 = a at *; generalize t / 2 % (2 ^ 23 - 1) = b at *; omega
 ·have h2 : t / 2 % (2 ^ 52 - 1) < 2 ^ 52 - 1 := Nat.mod_lt _ (by decide)
  refine isnan64 ?_; simp only [Question.cut];generalize t % 2 = a at *; generalize t / 2 % (2 ^ 52 - 1) = b at *; omega
theorem nanConv_cut (k : FloatKind) (x t : Nat) : isnan k ((Question.nanConv k x).cut t) = true := by
 cases k
 ·exact nanBits_cut .f32 0 0 t
 ·exact nanBits_cut .f64 0 0 t
theorem canon_neg (k : FloatKind) (x : Nat) : fneg k (canon k x) = canon k (Op.negFloat k x) := by
 unfold fneg
 cases hx : isnan k x with
 | false => rw [canon_of hx]
 | true =>
  have key : ∀ y, isnan k y = true → isnan k (Op.negFloat k y) = true := by
   intro y hy;obtain ⟨s, t, e⟩ := read_nan hy
   cases k
   ·have e1 : FloatKind.f32.format.signWeight = 2147483648 := rfl
    have e2 : FloatKind.f32.format.binade = 8388608 := rfl;have e3 : FloatKind.f32.format.infRung = 2139095040 := rfl;refine isnan32 ?_;have hm : Op.negFloat .f32 y % 2147483648 = y % 2147483648 := by
     have := @Nat.xor_mod_two_pow y (2 ^ 31) 31;have h2 : (2 ^ 31 % 2 ^ 31 : Nat) = 0 := by decide
     rw [h2, Nat.xor_zero] at this;exact this
    rw [hm];unfold Ieee.Format.read at e;simp only [e1, e2, e3] at e;split at e
    ·cases e
    ·split at e
     ·cases e
     ·split at e
      ·cases e
      ·omega
   ·have e1 : FloatKind.f64.format.signWeight = 9223372036854775808 := rfl
    have e2 : FloatKind.f64.format.binade = 4503599627370496 := rfl;have e3 : FloatKind.f64.format.infRung = 9218868437227405312 := rfl;refine isnan64 ?_;have hm : Op.negFloat .f64 y % 9223372036854775808 = y % 9223372036854775808 := by
     have := @Nat.xor_mod_two_pow y (2 ^ 63) 63;have h2 : (2 ^ 63 % 2 ^ 63 : Nat) = 0 := by decide
     rw [h2, Nat.xor_zero] at this;exact this
    rw [hm];unfold Ieee.Format.read at e;simp only [e1, e2, e3] at e;split at e
    ·cases e
    ·split at e
     ·cases e
     ·split at e
      ·cases e
      ·omega
  rw [canon_nan (key _ hx), canon_nan (key _ (by rw [isnan_canon]; exact hx))]
section
variable {P : Program} (w : World)
def opRes (op : BinOp) (k : FloatKind) (x y : Nat) : Option Nat :=
 match op with | .add => k.format.add x y | .sub => k.format.sub x y | .mul => k.format.mul x y | _ => k.format.div x y
theorem run_farith (op : BinOp) (t : TypeId) (k : FloatKind) (x y r : Nat) (h : farith op k (canon k x) (canon k y) = some r) :
  ∃ c w', (binOp op t (.float k x) (.float k y)).run P w = .ok (.float k c) w' ∧ Quiet w w' ∧ canon k c = r := by
 have key : ∀ o : Option Nat, o = opRes op k x y → fin k o = r →
   ∃ c w', (binOp op t (.float k x) (.float k y)).run P w = .ok (.float k c) w' ∧ Quiet w w' ∧ canon k c = r := by
  intro o ho hr
  cases o with
  | some q =>
   refine ⟨q, w, ?_, Quiet.refl w, hr⟩;unfold farith at h
   cases op <;> simp only [Option.some.injEq, reduceCtorEq] at h <;> simp only [opRes] at ho <;> simp [binOp, Op.floatArith, ← ho]
  | none =>
   refine ⟨(Question.nanBits k x y).cut (w.tape w.drawn (.nanBits k x y)), { w with drawn := w.drawn + 1 }, ?_, Quiet.drew w, (canon_nan (nanBits_cut k x y _)).trans hr⟩
   unfold farith at h
   cases op <;> simp only [Option.some.injEq, reduceCtorEq] at h <;> simp only [opRes] at ho <;> simp [binOp, Op.floatArith, ← ho, Question.forced]
 unfold farith at h
 cases op <;> simp only [Option.some.injEq, reduceCtorEq] at h
 ·exact key _ rfl (by rw [← h, fadd, add_canon]; rfl)
 ·exact key _ rfl (by rw [← h, fsub, sub_canon]; rfl)
 ·exact key _ rfl (by rw [← h, fmul, mul_canon]; rfl)
 ·exact key _ rfl (by rw [← h, fdiv, div_canon]; rfl)
theorem run_fcmp (op : BinOp) (t : TypeId) (k : FloatKind) (x y : Nat) (b : Bool) (h : fcmp op k (canon k x) (canon k y) = some b) :
  (binOp op t (.float k x) (.float k y)).run P w = .ok (.bool b) w := by
 unfold fcmp at h
 cases op <;> simp only [Option.some.injEq, reduceCtorEq] at h
 all_goals (subst h; simp [binOp, Op.floatCmp, feq, flt, fle, fgt, fge, order_canon, bne])
theorem run_icmp (op : BinOp) (t : TypeId) (k : IntKind) (x y : Int) (b : Bool) (h : icmp op x y = some b) :
  (binOp op t (.int k x) (.int k y)).run P w = .ok (.bool b) w := by
 unfold icmp at h
 cases op <;> simp only [Option.some.injEq, reduceCtorEq] at h
 all_goals (subst h; simp [binOp, Op.intCmp])
theorem run_iarith (op : BinOp) (t : TypeId) (k : IntKind) (x y z : Int) (h : iarith op k x y = some z) :
  (binOp op t (.int k x) (.int k y)).run P w = .ok (.int k z) w := by
 unfold iarith at h
 cases op <;> simp only [Option.some.injEq, reduceCtorEq] at h
 all_goals (subst h; simp [binOp, Op.intArith])
theorem run_idiv (op : BinOp) (t : TypeId) (k : IntKind) (x y z : Int) (h : idiv op k x y = some z) :
  (binOp op t (.int k x) (.int k y)).run P w = .ok (.int k z) w := by
 unfold idiv at h
 split at h
 ·cases h
 ·rename_i hy
  cases op <;> simp only [Option.some.injEq, reduceCtorEq] at h
  all_goals (subst h; simp [binOp, Op.intDiv, hy])
theorem run_ibits (op : BinOp) (t : TypeId) (k : IntKind) (x y z : Int) (h : ibits op k x y = some z) :
  (binOp op t (.int k x) (.int k y)).run P w = .ok (.int k z) w := by
 unfold ibits at h
 cases op <;> simp only [Option.some.injEq, reduceCtorEq] at h
 all_goals (subst h; simp [binOp, Op.intBits])
theorem run_ishift (op : BinOp) (t : TypeId) (k k' : IntKind) (x y z : Int) (h : ishift op k x y = some z) :
  (binOp op t (.int k x) (.int k' y)).run P w = .ok (.int k z) w := by
 unfold ishift at h
 split at h
 ·cases h
 ·rename_i hy
  cases op <;> simp only [Option.some.injEq, reduceCtorEq] at h
  all_goals (subst h; simp [binOp, Op.shift, hy])
theorem run_f2f (s k : FloatKind) (x r : Nat) (h : f2f s k (canon s x) = some r) :
  ∃ c w', (Conv.floatToFloat s x k).run P w = .ok (.float k c) w' ∧ Quiet w w' ∧ canon k c = r := by
 unfold f2f at h
 unfold Conv.floatToFloat
 by_cases hsk : s = k
 ·subst hsk
  simp only [if_true, Option.some.injEq] at h;exact ⟨x, w, by simp, Quiet.refl w, h⟩
 ·simp only [hsk, if_false] at h ⊢
  cases hx : isnan s x with
  | true =>
   rw [canon_nan hx] at h;obtain ⟨a, b, e⟩ := read_nan hx;obtain ⟨a', b', e'⟩ := read_nan (isnan_fnan s);simp only [FloatKind.decode, e', Option.some.injEq] at h;simp only [FloatKind.decode, e];refine ⟨(Question.nanConv k x).cut (w.tape w.drawn (.nanConv k x)), { w with drawn := w.drawn + 1 }, ?_, Quiet.drew w, (canon_nan (nanConv_cut k x _)).trans h⟩
   simp [Question.forced]
  | false =>
   rw [canon_of hx] at h
   cases hd : s.decode x with
   | nan a b => simp [isnan, hd, Ieee.Datum.isNaN] at hx
   | infinity a =>
    simp only [hd, Option.some.injEq] at h;exact ⟨_, w, by simp, Quiet.refl w, h⟩
   | number a m e =>
    simp only [hd] at h;split at h
    ·cases h
    ·rename_i hi
     simp only [Option.some.injEq] at h;exact ⟨_, w, by simp [hi], Quiet.refl w, h⟩
theorem run_f2i (s : FloatKind) (k : IntKind) (x : Nat) (n : Int) (h : f2i s k (canon s x) = some n) : (Conv.floatToInt s x k).run P w = .ok (.int k n) w := by
 unfold f2i at h
 have e := canon_one s (fun d => d.toInt .zero) (by intro a b; rfl) x
 simp only [FloatKind.decode] at h
 rw [e] at h
 unfold Conv.floatToInt
 simp only [FloatKind.decode]
 split at h
 ·rename_i m hm
  split at h
  ·rename_i hb
   simp only [Option.some.injEq] at h;subst h;simp [hm, hb.1, hb.2]
  ·cases h
 ·cases h
end
end Vs

namespace Vs
open Go Go.RowKit
theorem viewStore_drawn {p : Program} {w w' : World} {at_ : Addr} {u : TypeId} {k : Addr} {v : Value} {atomic : Bool} {l : List Addr} (h : World.viewStore p w at_ u k v atomic = .ok (w', l)) : w'.drawn = w.drawn := by
 unfold World.viewStore at h
 simp only [bind, Except.bind, pure, Except.pure] at h
 repeat' (split at h)
 all_goals first | (cases h; done) | skip
 all_goals (simp only [Except.ok.injEq, Prod.mk.injEq] at h; rw [← h.1])
theorem farStore_drawn {p : Program} {w w' : World} {a : Addr} {v : Value} {atomic : Bool} {l : List Addr} (h : World.farStore p w a v atomic = .ok (w', l)) : w'.drawn = w.drawn := by
 unfold World.farStore at h
 split at h
 ·split at h
  ·rename_i r hr
   cases h
   exact viewStore_drawn hr
  ·cases h
 ·cases h
theorem ask_drawn {α : Type} : ∀ (k : Ask α) (w : World), w.drawn ≤ (w.ask k).2.drawn
 | .done _, _ => Nat.le_refl _
 | .ask what range k, w => by
  unfold World.ask
  dsimp only
  split
  ·exact ask_drawn _ w
  ·exact Nat.le_trans (Nat.le_succ w.drawn) (ask_drawn (k _) { w with drawn := w.drawn + 1 })
theorem sys_drawn (w : World) (c : Sys) : w.drawn ≤ (w.sys c).2.drawn := by
 unfold World.sys
 have := ask_drawn (Kernel.perform c w.os) w
 split
 ·exact Nat.le_refl _
 ·rename_i h
  rw [h] at this;exact this
theorem freeze_drawn (w : World) (a : Addr) (n : Nat) : (w.freeze a n).drawn = w.drawn := by
 unfold World.freeze
 split <;> rfl
theorem store_drawn {α : Type} {P : Program} {m : Mode} {a : Addr} {v : Value} {k : Sem α} {w w' : World} {x : α} (ih : ∀ {w w' : World} {x : α}, k.run P w = .ok x w' → w.drawn ≤ w'.drawn)
  (h : (match w.cell? a with
   | some _ => if w.frozen? a then Result.halt (.unsupported (.unsafePointer "a write to bytes that a string shares")) w else k.run P (w.setCell a v)
   | none => match w.farStore P a v (m == Mode.atomic) with
    | .ok (w, _) => k.run P w
    | .error h => .halt h w) = .ok x w') : w.drawn ≤ w'.drawn := by
 split at h
 ·split at h
  ·cases h
  ·exact ih (w := w.setCell a v) h
 ·split at h
  ·rename_i hf
   have := ih h;rwa [farStore_drawn hf] at this
  ·cases h
theorem drawn_le {α : Type} {P : Program} (m : Sem α) : ∀ {w w' : World} {x : α}, m.run P w = .ok x w' → w.drawn ≤ w'.drawn := by
 induction m with
 | pure a => intro w w' x h; cases h; exact Nat.le_refl _
 | load m a k ih =>
  intro w w' x h;simp only [Sem.run] at h;split at h
  ·exact ih _ h
  ·split at h
   ·exact ih _ h
   ·cases h
 | store m a v k ih =>
  intro w w' x h
  cases v with
  | agg _ => simp only [Sem.run] at h; cases h
  | tuple _ => simp only [Sem.run] at h; cases h
  | _ => simp only [Sem.run] at h; exact store_drawn ih h
 | new o k ih => intro w w' x h; simp only [Sem.run] at h; exact ih _ (w := { w with heap := w.heap.push o }) h
 | shape r k ih => intro w w' x h; simp only [Sem.run] at h; exact ih _ h
 | freeze a n k ih =>
  intro w w' x h;simp only [Sem.run] at h;have := ih h;rwa [freeze_drawn] at this
 | frozen a k ih => intro w w' x h; simp only [Sem.run] at h; exact ih _ h
 | getObj r k ih =>
  intro w w' x h;simp only [Sem.run] at h;split at h
  ·cases h
  ·exact ih _ h
  ·cases h
 | setObj r o k ih =>
  intro w w' x h;simp only [Sem.run] at h;split at h
  ·cases h
  ·exact ih (w := { w with heap := w.heap.setIfInBounds r o }) h
  ·cases h
 | choose q k ih =>
  intro w w' x h;simp only [Sem.run] at h;split at h
  ·exact ih _ h
  ·exact Nat.le_trans (Nat.le_succ w.drawn) (ih _ (w := { w with drawn := w.drawn + 1 }) h)
 | sys c k ih =>
  intro w w' x h;simp only [Sem.run] at h;exact Nat.le_trans (sys_drawn w c) (ih _ h)
 | program k ih => intro w w' x h; simp only [Sem.run] at h; exact ih _ h
 | mark _ k ih => intro w w' x h; simp only [Sem.run] at h; exact ih h
 | halt h => intro w w' x h'; simp only [Sem.run] at h'; cases h'
end Vs

namespace Vs
open Go Go.RowKit
def pushAll : List Push → List D → Option (List D)
 | [], ρ => some ρ
 | (p, xs) :: ps, ρ => match p.ev (evs ρ xs) with | some d => pushAll ps (ρ ++ [d]) | none => none
theorem pushAll_env : ∀ {ps : List Push} {ρ ρ' : List D}, pushAll ps ρ = some ρ' → ∃ σ, ρ' = ρ ++ σ ∧ σ.length = ps.length
 | [], ρ, ρ', h => by simp only [pushAll, Option.some.injEq] at h; exact ⟨[], by simp [h]⟩
 | (p, xs) :: ps, ρ, ρ', h => by
  simp only [pushAll] at h;split at h
  ·rename_i d _
   obtain ⟨σ, e, hl⟩ := pushAll_env h;exact ⟨d :: σ, by simp [e], by simp [hl]⟩
  ·cases h
theorem pushAll_one {p : Prim} {xs : List Atom} {ρ ρ' : List D} (h : pushAll [(p, xs)] ρ = some ρ') : ∃ d, p.ev (evs ρ xs) = some d ∧ ρ' = ρ ++ [d] := by
 simp only [pushAll] at h
 split at h
 ·rename_i d e; exact ⟨d, e, by simpa using h.symm⟩
 ·cases h
theorem get_new {ρ : List D} {d : D} {n : Nat} (h : ρ.length = n) : (Atom.v n).get (ρ ++ [d]) = some d := by subst h; simp [Atom.get]
theorem need_ok {α : Type} {o : Option α} {why : String} {a : α} (h : need o why = .ok a) : o = some a := by
 cases o with
 | none => cases h
 | some b => simp only [need, Except.ok.injEq] at h; rw [h]
theorem bind_ok {α β : Type} {x : Res α} {f : α → Res β} {b : β} (h : (x >>= f) = .ok b) : ∃ a, x = .ok a ∧ f a = .ok b := by
 cases x with
 | error e => cases h
 | ok a => exact ⟨a, rfl, h⟩
section
variable {P : Program} {w : World} {F : Nat → Prop} {hl : Nat} {μ : Mu} {ρ : List D}
theorem litCell_ok {v : Value} {c : CV0} (h : litCell v = some c) : CVR0 w F hl μ ρ c v := by
 unfold litCell at h
 split at h <;> simp only [Option.some.injEq, reduceCtorEq] at h <;> subst h
 ·exact ⟨_, rfl, _, rfl, rfl⟩
 ·exact ⟨_, rfl, _, rfl, rfl⟩
 ·exact ⟨_, rfl, _, rfl, rfl⟩
 ·exact ⟨_, rfl, _, rfl, rfl⟩
 ·rfl
 ·trivial
 ·trivial
theorem litCells_ok : ∀ {vs : List Value} {cs : List CV}, litCells vs = some cs → CVRs w F hl μ ρ cs vs
 | [], cs, h => by simp only [litCells, Option.some.injEq] at h; subst h; trivial
 | v :: vs, cs, h => by
  simp only [litCells] at h;split at h
  ·rename_i c cs' h1 h2
   simp only [Option.some.injEq] at h;subst h;exact ⟨litCell_ok h1, litCells_ok h2⟩
  ·cases h
theorem litSV_ok {v : Value} {s : SV} (h : litSV v = some s) : SVR w F hl μ ρ s v := by
 unfold litSV at h
 split at h
 ·rename_i arr
  cases hc : litCells arr.toList with
  | none => simp [hc] at h
  | some cs =>
   simp only [hc, Option.map_some, Option.some.injEq] at h;subst h;exact ⟨arr, rfl, litCells_ok hc⟩
 ·cases hc : litCell v with
  | none => simp [hc] at h
  | some c =>
   simp only [hc, Option.map_some, Option.some.injEq] at h;subst h;exact litCell_ok hc
theorem rd_int {x : Atom} {k : IntKind} {v : Value} (h : SVR w F hl μ ρ (.c (.s (.dat (.b (.int k)) x))) v) : ∃ n, v = .int k n ∧ x.get ρ = some (.int n) := by obtain ⟨d, hx, n, hv, hd⟩ := h; subst hd; exact ⟨n, hv, hx⟩
theorem rd_flt {x : Atom} {k : FloatKind} {v : Value} (h : SVR w F hl μ ρ (.c (.s (.dat (.b (.flt k)) x))) v) : ∃ b, v = .float k b ∧ x.get ρ = some (.flt (canon k b)) := by obtain ⟨d, hx, n, hv, hd⟩ := h; subst hd; exact ⟨n, hv, hx⟩
theorem rd_bool {x : Atom} {v : Value} (h : SVR w F hl μ ρ (.c (.s (.dat (.b .bool) x))) v) : ∃ b, v = .bool b ∧ x.get ρ = some (.bool b) := by obtain ⟨d, hx, n, hv, hd⟩ := h; subst hd; exact ⟨n, hv, hx⟩
theorem mk_int {w' : World} {x : Atom} {k : IntKind} {n : Int} (h : x.get ρ = some (.int n)) : SVR w' F hl μ ρ (bdat (.int k) x) (.int k n) := ⟨_, h, n, rfl, rfl⟩
theorem mk_flt {w' : World} {x : Atom} {k : FloatKind} {b : Nat} (h : x.get ρ = some (.flt (canon k b))) : SVR w' F hl μ ρ (bdat (.flt k) x) (.float k b) := ⟨_, h, b, rfl, rfl⟩
theorem mk_bool {w' : World} {x : Atom} {b : Bool} (h : x.get ρ = some (.bool b)) : SVR w' F hl μ ρ (bdat .bool x) (.bool b) := ⟨_, h, b, rfl, rfl⟩
theorem map_some_eq {α β : Type} {o : Option α} {f : α → β} {b : β} (h : o.map f = some b) : ∃ a, o = some a ∧ f a = b := by
 cases o with
 | none => cases h
 | some a => exact ⟨a, rfl, by simpa using h⟩
theorem evs_cons {ρ : List D} {x : Atom} {xs : List Atom} {d : D} (h : x.get ρ = some d) : evs ρ (x :: xs) = d :: evs ρ xs := by simp only [evs, List.map_cons, Atom.ev_of_get h]
theorem eqAtoms_ok : ∀ {ts : List BT} {cs : List CV} {vs : List Value} {ks : List (Option FloatKind)} {xs : List Atom}, eqAtoms ts cs = .ok (ks, xs) → CVRs w F hl μ ρ cs vs →
  RdCs RdB ts vs (evs ρ xs) ∧ ts.map kOf = ks.map some ∧ (evs ρ xs).length = ks.length
 | [], [], vs, ks, xs, h, hv => by
  simp only [eqAtoms, Except.ok.injEq, Prod.mk.injEq] at h;obtain ⟨rfl, rfl⟩ := h
  cases vs with
  | nil => exact ⟨trivial, rfl, rfl⟩
  | cons v vs => cases hv
 | t :: ts, c :: cs, vs, ks, xs, h, hv => by
  unfold eqAtoms at h;split at h
  ·rename_i he1 he2
   cases he1
  ·rename_i t1 ts1 t' x cs1 he1 he2
   cases he1
   cases he2
   split at h
   case h_2 => cases h
   rename_i k hk;split at h
   case isFalse => cases h
   rename_i ht;subst ht;obtain ⟨⟨ks', xs'⟩, h1, h2⟩ := bind_ok h;simp only [Except.ok.injEq, Prod.mk.injEq] at h2;obtain ⟨rfl, rfl⟩ := h2
   cases vs with
   | nil => cases hv
   | cons v vs =>
    obtain ⟨hc, hr⟩ := hv;obtain ⟨d, hx, hd⟩ := hc;obtain ⟨i1, i2, i3⟩ := eqAtoms_ok h1 hr;rw [evs_cons hx];exact ⟨⟨hd, i1⟩, by simp [hk, i2], by simp [i3]⟩
  ·cases h
 | [], _ :: _, _, _, _, h, _ => by simp [eqAtoms] at h
 | _ :: _, [], _, _, _, h, _ => by simp [eqAtoms] at h
theorem ctOf_inv {t : TypeId} {b : BT} (h : ctOf P t = some b) : (∃ k, b = .flt k ∧ P.underlying t = some (.float k)) ∨ (∃ k, b = .int k ∧ P.underlying t = some (.int k)) ∨ (b = .bool ∧ P.underlying t = some .bool) ∨ b = .str := by
 unfold ctOf at h
 split at h
 all_goals first
  | (cases h; done)
  | (simp only [Option.some.injEq] at h; subst h; rename_i e; first | exact .inr (.inr (.inl ⟨rfl, e⟩)) | exact .inr (.inl ⟨_, rfl, e⟩) | exact .inl ⟨_, rfl, e⟩ | exact .inr (.inr (.inr rfl)))
theorem cell_eq {b : BT} {k : Option FloatKind} {ks : List (Option FloatKind)} {u v : Value} {d e : D} {ds es : List D} {r : Bool} (hu : RdB b u d) (hv : RdB b v e) (hk : kOf b = some k)
  (h : eqCells (k :: ks) (d :: ds) (e :: es) = some r) :
  ∃ r1 r2, eqCells ks ds es = some r2 ∧ r = (r1 && r2) ∧ ∀ (t : TypeId) (n : Nat) (w : World), ctOf P t = some b → (Op.equalIn (n + 1) t u v).run P w = .ok r1 w := by
 cases b with
 | flt q =>
  simp only [kOf, Option.some.injEq] at hk;subst hk;obtain ⟨x, rfl, rfl⟩ := hu;obtain ⟨y, rfl, rfl⟩ := hv;simp only [eqCells, Option.map_eq_some_iff] at h;obtain ⟨r2, h2, rfl⟩ := h;refine ⟨_, r2, h2, rfl, fun t n w ht => ?_⟩
  rcases ctOf_inv ht with ⟨k, e1, e2⟩ | ⟨k, e1, e2⟩ | ⟨e1, e2⟩ | e1
  ·cases e1
   simp [Op.equalIn, run_underlying e2, Op.floatEq, feq, order_canon]
  ·cases e1
  ·cases e1
  ·cases e1
 | int q =>
  simp only [kOf, Option.some.injEq] at hk;subst hk;obtain ⟨x, rfl, rfl⟩ := hu;obtain ⟨y, rfl, rfl⟩ := hv;simp only [eqCells, Option.map_eq_some_iff] at h;obtain ⟨r2, h2, rfl⟩ := h;refine ⟨_, r2, h2, rfl, fun t n w ht => ?_⟩
  rcases ctOf_inv ht with ⟨k, e1, e2⟩ | ⟨k, e1, e2⟩ | ⟨e1, e2⟩ | e1
  ·cases e1
  ·cases e1
   simp [Op.equalIn, run_underlying e2]
  ·cases e1
  ·cases e1
 | bool =>
  simp only [kOf, Option.some.injEq] at hk;subst hk;obtain ⟨x, rfl, rfl⟩ := hu;obtain ⟨y, rfl, rfl⟩ := hv;simp only [eqCells, Option.map_eq_some_iff] at h;obtain ⟨r2, h2, rfl⟩ := h;refine ⟨_, r2, h2, rfl, fun t n w ht => ?_⟩
  rcases ctOf_inv ht with ⟨k, e1, e2⟩ | ⟨k, e1, e2⟩ | ⟨e1, e2⟩ | e1
  ·cases e1
  ·cases e1
  ·simp [Op.equalIn, run_underlying e2]
  ·cases e1
 | str => cases hk
theorem run_part_cell {e : TypeId} (he : isAggB P e = some false) {xs : Array Value} {off : Nat} {v : Value} (hx : xs[off]? = some v) (w : World) : (part e xs off).run P w = .ok v w := by
 unfold isAggB at he
 split at he
 ·cases he
 ·cases he
 ·rename_i d h1 h2 hu
  cases d <;> first | (simp [part, isAgg, run_underlying hu, hx]; done) | exact absurd rfl (h1 _) | exact absurd rfl (h2 _ _)
 ·cases he
theorem drop_cell {xs : Array Value} {j : Nat} {v : Value} {vs : List Value} (h : xs.toList.drop j = v :: vs) : xs[j]? = some v ∧ xs.toList.drop (j + 1) = vs := by
 constructor
 ·have := congrArg (·[0]?) h
  simpa using this
 ·rw [← List.drop_drop, h]
  rfl
theorem eqFields_ok {xs ys : Array Value} (n : Nat) : ∀ {fs : List Field} {j : Nat} {ts : List BT} {us vs : List Value} {ds es : List D} {ks : List (Option FloatKind)} {r : Bool} (w : World),
  eqFieldsB P j fs = some ts → ts.map kOf = ks.map some → xs.toList.drop j = us → ys.toList.drop j = vs → RdCs RdB ts us ds → RdCs RdB ts vs es → eqCells ks ds es = some r →
  (Op.eqFields (n + 1) xs ys fs).run P w = .ok r w
 | [], j, ts, us, vs, ds, es, ks, r, w, h, hk, _, _, hu, hv, hr => by
  simp only [eqFieldsB, Option.some.injEq] at h;subst h
  cases ks with
  | cons k ks => simp at hk
  | nil =>
   cases us <;> cases ds <;> try cases hu
   cases vs <;> cases es <;> try cases hv
   simp only [eqCells, Option.some.injEq] at hr;subst hr;simp [Op.eqFields]
 | f :: fs, j, ts, us, vs, ds, es, ks, r, w, h, hk, hx, hy, hu, hv, hr => by
  unfold eqFieldsB at h;split at h
  case isFalse => cases h
  rename_i hf;obtain ⟨hname, hoff, hagg⟩ := hf;split at h
  case h_2 => cases h
  rename_i b bs hb hbs;simp only [Option.some.injEq] at h;subst h
  cases ks with
  | nil => simp at hk
  | cons k ks =>
   simp only [List.map_cons, List.cons.injEq] at hk;obtain ⟨hk1, hk2⟩ := hk
   cases us <;> cases ds <;> try cases hu
   cases vs <;> cases es <;> try cases hv
   rename_i u us d ds hu1 hu2 v vs e es hv1 hv2;obtain ⟨r1, r2, h2, rfl, heq⟩ := cell_eq (P := P) hu1 hv1 hk1 hr;obtain ⟨gx, hx'⟩ := drop_cell hx;obtain ⟨gy, hy'⟩ := drop_cell hy;have ih := eqFields_ok n w hbs hk2 hx' hy' hu2 hv2 h2;simp only [Op.eqFields, hname, ne_eq, not_false_eq_true, if_true, Sem.run_bind, hoff, run_part_cell hagg gx, run_part_cell hagg gy, heq _ n w hb, Result.andThen_ok]
   cases r1
   ·simp
   ·simpa using ih
theorem eqItems_ok {e : TypeId} {b : BT} {xs ys : Array Value} (n : Nat) (hc : P.cellsOf e = 1) (hagg : isAggB P e = some false) (hb : ctOf P e = some b) :
  ∀ {m j : Nat} {us vs : List Value} {ds es : List D} {ks : List (Option FloatKind)} {r : Bool} (w : World),
  (List.replicate m b).map kOf = ks.map some → xs.toList.drop j = us → ys.toList.drop j = vs → RdCs RdB (List.replicate m b) us ds → RdCs RdB (List.replicate m b) vs es → eqCells ks ds es = some r →
  (Op.eqItems (n + 1) e (P.cellsOf e) xs ys (List.range' j m)).run P w = .ok r w
 | 0, j, us, vs, ds, es, ks, r, w, hk, _, _, hu, hv, hr => by
  cases ks with
  | cons k ks => simp at hk
  | nil =>
   simp only [List.replicate_zero] at hu hv
   cases us <;> cases ds <;> try cases hu
   cases vs <;> cases es <;> try cases hv
   simp only [eqCells, Option.some.injEq] at hr;subst hr;simp [Op.eqItems]
 | m + 1, j, us, vs, ds, es, ks, r, w, hk, hx, hy, hu, hv, hr => by
  cases ks with
  | nil => simp at hk
  | cons k ks =>
   simp only [List.replicate_succ, List.map_cons, List.cons.injEq] at hk hu hv;obtain ⟨hk1, hk2⟩ := hk
   cases us <;> cases ds <;> try cases hu
   cases vs <;> cases es <;> try cases hv
   rename_i u us d ds hu1 hu2 v vs e es hv1 hv2;obtain ⟨r1, r2, h2, rfl, heq⟩ := cell_eq (P := P) hu1 hv1 hk1 hr;obtain ⟨gx, hx'⟩ := drop_cell hx;obtain ⟨gy, hy'⟩ := drop_cell hy;have ih := eqItems_ok n hc hagg hb w hk2 hx' hy' hu2 hv2 h2;rw [hc] at ih;simp only [List.range'_succ, Op.eqItems, Sem.run_bind, hc, Nat.mul_one, run_part_cell hagg gx, run_part_cell hagg gy, heq _ n w hb, Result.andThen_ok]
   cases r1
   ·simp
   ·simpa using ih
theorem flatEq_ok {t : TypeId} {ts : List BT} {xs ys : Array Value} {ds es : List D} {ks : List (Option FloatKind)} {r : Bool} (h : flatEq P t = some ts) (hk : ts.map kOf = ks.map some)
  (hu : RdCs RdB ts xs.toList ds) (hv : RdCs RdB ts ys.toList es) (hr : eqCells ks ds es = some r) (w : World) :
  P.eqGuardType P.depth t = false ∧ (Op.equalIn 10000 t (.agg xs) (.agg ys)).run P w = .ok r w := by
 unfold flatEq at h
 split at h
 ·cases h
 rename_i hg
 refine ⟨by simpa using hg, ?_⟩
 split at h
 ·rename_i fs hfs
  split at h
  ·cases h
  rename_i hst;have hf : P.fieldsOf t = fs := by simp [Program.fieldsOf, hfs]
  rw [show (10000 : Nat) = 9999 + 1 from rfl, run_equalIn_agg w 9999 t xs ys (by rw [hf]; exact hfs) (by simpa using hst), hf]
  exact eqFields_ok 9998 (j := 0) w h hk rfl rfl hu hv hr
 ·rename_i n e hae
  split at h
  case isFalse => cases h
  rename_i hc;obtain ⟨hagg, hsz⟩ := hc;obtain ⟨b, hb, rfl⟩ := map_some_eq h;unfold sizeB at hsz;obtain ⟨i, hi, hs⟩ := map_some_eq hsz;have hcell : P.cellsOf e = 1 := by simp [Program.cellsOf, hi, hs]
  rw [show (10000 : Nat) = 9999 + 1 from rfl, run_equalIn_array w 9999 xs ys hae hi, List.range_eq_range']
  exact eqItems_ok 9998 hcell hagg hb w hk rfl rfl hu hv hr
 ·cases h
theorem lopBin_ok {op : BinOp} {t : TypeId} {sa sb v : SV} {ps : List Push} {va vb : Value} {ρ' : List D} (h : lopBin ρ.length op (isBoolT P t) (flatEq P t) sa sb = .ok (v, ps))
    (ha : SVR w F hl μ ρ sa va) (hb : SVR w F hl μ ρ sb vb) (hp : pushAll ps ρ = some ρ') :
    (∀ x y w1, (eqGuard op t x y va vb).run P w1 = .ok () w1) ∧ ∃ u w', (binOp op t va vb).run P w = .ok u w' ∧ Quiet w w' ∧ ∀ w1, SVR w1 F hl μ ρ' v u := by
  unfold lopBin at h
  split at h
  · rename_i cs ds
    split at h
    case h_2 => cases h
    rename_i ts hts
    obtain ⟨⟨ks, xs⟩, h1, h2⟩ := bind_ok h
    obtain ⟨⟨ks', ys⟩, h3, h4⟩ := bind_ok h2
    obtain ⟨xr, rfl, hx⟩ := ha
    obtain ⟨yr, rfl, hy⟩ := hb
    obtain ⟨i1, i2, i3⟩ := eqAtoms_ok h1 hx
    obtain ⟨j1, _, _⟩ := eqAtoms_ok h3 hy
    have key : ∀ (d : D) (neg : Bool), (Prim.aeq ks neg).ev (evs ρ (xs ++ ys)) = some d → ∃ r, d = .bool (match neg with | true => !r | false => r) ∧ ∀ w, P.eqGuardType P.depth t = false ∧ (Op.equalIn 10000 t (.agg xr) (.agg yr)).run P w = .ok r w := by
      intro d neg hd
      simp only [Prim.ev, evs, List.map_append] at hd
      simp only [evs] at i3 i1 j1
      rw [List.take_left' (by rw [← i3]), List.drop_left' (by rw [← i3])] at hd
      obtain ⟨r, hr, rfl⟩ := map_some_eq hd
      exact ⟨r, rfl, fun w => flatEq_ok hts i2 i1 j1 hr w⟩
    dsimp only at h4
    split at h4
    · simp only [Except.ok.injEq, Prod.mk.injEq] at h4
      obtain ⟨rfl, rfl⟩ := h4
      obtain ⟨d, hd, rfl⟩ := pushAll_one hp
      obtain ⟨r, rfl, hr⟩ := key d _ hd
      refine ⟨fun x y w1 => run_eqGuard_agg w1 _ t x y xr yr (hr w1).1, .bool r, w, ?_, Quiet.refl w, fun w1 => mk_bool (get_new rfl)⟩
      rw [run_eql_struct, (hr w).2]
      rfl
    · simp only [Except.ok.injEq, Prod.mk.injEq] at h4
      obtain ⟨rfl, rfl⟩ := h4
      obtain ⟨d, hd, rfl⟩ := pushAll_one hp
      obtain ⟨r, rfl, hr⟩ := key d _ hd
      refine ⟨fun x y w1 => run_eqGuard_agg w1 _ t x y xr yr (hr w1).1, .bool !r, w, ?_, Quiet.refl w, fun w1 => mk_bool (get_new rfl)⟩
      rw [run_neq_struct, (hr w).2]
      rfl
    · cases h4
  · rename_i k x k' y
    obtain ⟨n, rfl, hx⟩ := rd_int ha
    obtain ⟨m, rfl, hy⟩ := rd_int hb
    refine ⟨fun _ _ w1 => by unfold eqGuard; cases op <;> rfl, ?_⟩
    split at h
    · simp only [Except.ok.injEq, Prod.mk.injEq] at h
      obtain ⟨rfl, rfl⟩ := h
      obtain ⟨d, hd, rfl⟩ := pushAll_one hp
      simp only [evs, List.map_cons, List.map_nil, Atom.ev_of_get hx, Atom.ev_of_get hy, Prim.ev] at hd
      obtain ⟨z, hz, rfl⟩ := map_some_eq hd
      exact ⟨_, w, run_ishift w _ t k k' n m z hz, Quiet.refl w, fun w1 => mk_int (get_new rfl)⟩
    · simp only [Except.ok.injEq, Prod.mk.injEq] at h
      obtain ⟨rfl, rfl⟩ := h
      obtain ⟨d, hd, rfl⟩ := pushAll_one hp
      simp only [evs, List.map_cons, List.map_nil, Atom.ev_of_get hx, Atom.ev_of_get hy, Prim.ev] at hd
      obtain ⟨z, hz, rfl⟩ := map_some_eq hd
      exact ⟨_, w, run_ishift w _ t k k' n m z hz, Quiet.refl w, fun w1 => mk_int (get_new rfl)⟩
    all_goals
      split at h
      · rename_i hk
        subst hk
        simp only [Except.ok.injEq, Prod.mk.injEq] at h
        obtain ⟨rfl, rfl⟩ := h
        obtain ⟨d, hd, rfl⟩ := pushAll_one hp
        simp only [evs, List.map_cons, List.map_nil, Atom.ev_of_get hx, Atom.ev_of_get hy, Prim.ev] at hd
        obtain ⟨z, hz, rfl⟩ := map_some_eq hd
        first
          | exact ⟨_, w, run_iarith w _ t k n m z hz, Quiet.refl w, fun w1 => mk_int (get_new rfl)⟩
          | exact ⟨_, w, run_idiv w _ t k n m z hz, Quiet.refl w, fun w1 => mk_int (get_new rfl)⟩
          | exact ⟨_, w, run_ibits w _ t k n m z hz, Quiet.refl w, fun w1 => mk_int (get_new rfl)⟩
          | exact ⟨_, w, run_icmp w _ t k n m z hz, Quiet.refl w, fun w1 => mk_bool (get_new rfl)⟩
      · cases h
  · rename_i k x k' y
    obtain ⟨n, rfl, hx⟩ := rd_flt ha
    obtain ⟨m, rfl, hy⟩ := rd_flt hb
    refine ⟨fun _ _ w1 => by unfold eqGuard; cases op <;> rfl, ?_⟩
    split at h
    · rename_i hk
      subst hk
      split at h
      all_goals first
        | (cases h; done)
        | (simp only [Except.ok.injEq, Prod.mk.injEq] at h
           obtain ⟨rfl, rfl⟩ := h
           obtain ⟨d, hd, rfl⟩ := pushAll_one hp
           simp only [evs, List.map_cons, List.map_nil, Atom.ev_of_get hx, Atom.ev_of_get hy, Prim.ev] at hd
           obtain ⟨z, hz, rfl⟩ := map_some_eq hd
           first
             | (obtain ⟨c, w', e, q, hc⟩ := run_farith (P := P) w _ t k n m z hz
                exact ⟨_, w', e, q, fun w1 => mk_flt (by rw [hc]; exact get_new rfl)⟩)
             | exact ⟨_, w, run_fcmp w _ t k n m z hz, Quiet.refl w, fun w1 => mk_bool (get_new rfl)⟩)
    · cases h
  · rename_i x y
    obtain ⟨n, rfl, hx⟩ := rd_bool ha
    obtain ⟨m, rfl, hy⟩ := rd_bool hb
    split at h
    · rename_i hbt
      have hu : P.underlying t = some .bool := by
        unfold isBoolT at hbt
        split at hbt
        · assumption
        · cases hbt
      refine ⟨fun _ _ w1 => by unfold eqGuard; cases op <;> rfl, ?_⟩
      have he : ∀ w, (Op.equal t (.bool n) (.bool m)).run P w = .ok (n == m) w := fun w => by
        unfold Op.equal Op.maxDepth Op.equalIn
        simp [run_underlying hu]
      split at h
      all_goals first
        | (cases h; done)
        | (simp only [Except.ok.injEq, Prod.mk.injEq] at h
           obtain ⟨rfl, rfl⟩ := h
           obtain ⟨d, hd, rfl⟩ := pushAll_one hp
           simp only [evs, List.map_cons, List.map_nil, Atom.ev_of_get hx, Atom.ev_of_get hy, Prim.ev, Option.some.injEq] at hd
           subst hd
           refine ⟨_, w, ?_, Quiet.refl w, fun w1 => mk_bool (get_new rfl)⟩
           simp [binOp, he])
    · cases h
  · cases h
theorem lopConv_ok {src dst : TypeId} {sa v : SV} {ps : List Push} {va : Value} {ρ' : List D} (h : lopConv P ρ.length src dst sa = .ok (v, ps))
  (ha : SVR w F hl μ ρ sa va) (hp : pushAll ps ρ = some ρ') :
  ∃ u w', (convert src dst va).run P w = .ok u w' ∧ Quiet w w' ∧ ∀ w1, SVR w1 F hl μ ρ' v u := by
 unfold lopConv at h
 split at h
 all_goals first
  | (cases h; done)
  | skip
 ·rename_i s k q x hs hd
  simp only [Except.ok.injEq, Prod.mk.injEq] at h;obtain ⟨rfl, rfl⟩ := h;obtain ⟨n, rfl, hx⟩ := rd_int ha;obtain ⟨d, hd', rfl⟩ := pushAll_one hp;simp only [evs, List.map_cons, List.map_nil, Atom.ev_of_get hx, Prim.ev, Option.some.injEq] at hd';subst hd';refine ⟨_, w, ?_, Quiet.refl w, fun w1 => mk_int (get_new rfl)⟩
  cases s <;> simp [convert, run_underlying hs, run_underlying hd, Conv.intToInt]
 ·rename_i s k q x hs hd
  simp only [Except.ok.injEq, Prod.mk.injEq] at h;obtain ⟨rfl, rfl⟩ := h;obtain ⟨n, rfl, hx⟩ := rd_int ha;obtain ⟨d, hd', rfl⟩ := pushAll_one hp;simp only [evs, List.map_cons, List.map_nil, Atom.ev_of_get hx, Prim.ev, Option.some.injEq] at hd';subst hd';refine ⟨_, w, ?_, Quiet.refl w, fun w1 => mk_flt (b := k.nearest n) (get_new rfl)⟩
  cases s <;> simp [convert, run_underlying hs, run_underlying hd, Conv.intToFloat]
 ·rename_i s k q x hs hd
  simp only [Except.ok.injEq, Prod.mk.injEq] at h;obtain ⟨rfl, rfl⟩ := h;obtain ⟨n, rfl, hx⟩ := rd_flt ha;obtain ⟨d, hd', rfl⟩ := pushAll_one hp;simp only [evs, List.map_cons, List.map_nil, Atom.ev_of_get hx, Prim.ev] at hd';obtain ⟨z, hz, rfl⟩ := map_some_eq hd';have := run_f2i (P := P) w q k n z hz;refine ⟨_, w, ?_, Quiet.refl w, fun w1 => mk_int (get_new rfl)⟩
  cases s <;> simp [convert, run_underlying hs, run_underlying hd, this]
 ·rename_i s k q x hs hd
  simp only [Except.ok.injEq, Prod.mk.injEq] at h;obtain ⟨rfl, rfl⟩ := h;obtain ⟨n, rfl, hx⟩ := rd_flt ha;obtain ⟨d, hd', rfl⟩ := pushAll_one hp;simp only [evs, List.map_cons, List.map_nil, Atom.ev_of_get hx, Prim.ev] at hd';obtain ⟨z, hz, rfl⟩ := map_some_eq hd';obtain ⟨c, w', e, qq, hc⟩ := run_f2f (P := P) w q k n z hz;refine ⟨_, w', ?_, qq, fun w1 => mk_flt (by rw [hc]; exact get_new rfl)⟩
  cases s <;> simp [convert, run_underlying hs, run_underlying hd, e]
end
end Vs

namespace Vs
open Go Go.RowKit
theorem CVRs.length {w : World} {F : Nat → Prop} {hl : Nat} {μ : Mu} {ρ : List D} : ∀ {cs : List CV} {vs : List Value}, CVRs w F hl μ ρ cs vs → cs.length = vs.length
 | [], [], _ => rfl
 | _ :: _, _ :: _, ⟨_, b⟩ => by simp [CVRs.length b]
theorem CVRs.drop {w : World} {F : Nat → Prop} {hl : Nat} {μ : Mu} {ρ : List D} : ∀ {cs : List CV} {vs : List Value} (n : Nat), CVRs w F hl μ ρ cs vs → CVRs w F hl μ ρ (cs.drop n) (vs.drop n)
 | [], [], _, _ => by simp [CVRs]
 | _ :: _, _ :: _, 0, h => h
 | _ :: _, _ :: _, n + 1, ⟨_, b⟩ => CVRs.drop n b
theorem CVRs.take {w : World} {F : Nat → Prop} {hl : Nat} {μ : Mu} {ρ : List D} : ∀ {cs : List CV} {vs : List Value} (n : Nat), CVRs w F hl μ ρ cs vs → CVRs w F hl μ ρ (cs.take n) (vs.take n)
 | [], [], _, _ => by simp [CVRs]
 | _ :: _, _ :: _, 0, _ => trivial
 | _ :: _, _ :: _, n + 1, ⟨a, b⟩ => ⟨a, CVRs.take n b⟩
theorem CVRs.append {w : World} {F : Nat → Prop} {hl : Nat} {μ : Mu} {ρ : List D} : ∀ {cs : List CV} {vs : List Value} {cs' : List CV} {vs' : List Value}, CVRs w F hl μ ρ cs vs → CVRs w F hl μ ρ cs' vs' → CVRs w F hl μ ρ (cs ++ cs') (vs ++ vs')
 | [], [], _, _, _, h => h
 | _ :: _, _ :: _, _, _, ⟨a, b⟩, h => ⟨a, CVRs.append b h⟩
theorem CVRs.get {w : World} {F : Nat → Prop} {hl : Nat} {μ : Mu} {ρ : List D} : ∀ {cs : List CV} {vs : List Value} {j : Nat} {c : CV}, CVRs w F hl μ ρ cs vs → cs[j]? = some c → ∃ v, vs[j]? = some v ∧ CVR w F hl μ ρ c v
 | _ :: _, _ :: _, 0, c, ⟨a, _⟩, h => by simp only [List.getElem?_cons_zero, Option.some.injEq] at h; subst h; exact ⟨_, rfl, a⟩
 | _ :: _, _ :: _, j + 1, c, ⟨_, b⟩, h => by simp only [List.getElem?_cons_succ] at h ⊢; exact CVRs.get b h
theorem RdCs.length {α : Type} {Q : α → Value → D → Prop} : ∀ {ts : List α} {vs : List Value} {ds : List D}, RdCs Q ts vs ds → vs.length = ts.length ∧ ds.length = ts.length
 | [], [], [], _ => ⟨rfl, rfl⟩
 | _ :: _, _ :: _, _ :: _, ⟨_, b⟩ => by have := RdCs.length b; simp [this.1, this.2]
theorem RdCs.get {α : Type} {Q : α → Value → D → Prop} : ∀ {ts : List α} {vs : List Value} {ds : List D} {j : Nat} {t : α}, RdCs Q ts vs ds → ts[j]? = some t → ∃ v d, vs[j]? = some v ∧ ds[j]? = some d ∧ Q t v d
 | _ :: _, _ :: _, _ :: _, 0, t, ⟨a, _⟩, h => by simp only [List.getElem?_cons_zero, Option.some.injEq] at h; subst h; exact ⟨_, _, rfl, rfl, a⟩
 | _ :: _, _ :: _, _ :: _, j + 1, t, ⟨_, b⟩, h => by simp only [List.getElem?_cons_succ] at h ⊢; exact RdCs.get b h
theorem RdCs.mapT {α β : Type} {Q : α → Value → D → Prop} {Q' : β → Value → D → Prop} (f : α → β) (h : ∀ t v d, Q t v d → Q' (f t) v d) : ∀ {ts : List α} {vs : List Value} {ds : List D}, RdCs Q ts vs ds → RdCs Q' (ts.map f) vs ds
 | [], [], [], _ => trivial
 | _ :: _, _ :: _, _ :: _, ⟨a, b⟩ => ⟨h _ _ _ a, RdCs.mapT f h b⟩
theorem RdRow.get {α : Type} {Q : α → Value → D → Prop} {ts : List α} : ∀ {ls : List (List D)} {xs : List Value} {i : Nat} {l : List D}, RdRow Q ts xs ls → ls[i]? = some l →
  ∃ c, RdCs Q ts c l ∧ ∀ (j : Nat) u, c[j]? = some u → xs[i * ts.length + j]? = some u
 | l' :: ls, xs, 0, l, ⟨c, r, e, a, b⟩, h => by
  simp only [List.getElem?_cons_zero, Option.some.injEq] at h;subst h;refine ⟨c, a, fun j u hu => ?_⟩
  subst e;rw [Nat.zero_mul, Nat.zero_add, List.getElem?_append_left]
  ·exact hu
  ·rcases Nat.lt_or_ge j c.length with h | h
   ·exact h
   ·rw [List.getElem?_eq_none h] at hu; cases hu
 | l' :: ls, xs, i + 1, l, ⟨c, r, e, a, b⟩, h => by
  simp only [List.getElem?_cons_succ] at h;obtain ⟨c', a', h'⟩ := RdRow.get b h;refine ⟨c', a', fun j u hu => ?_⟩
  subst e;have hl := a.length.1;have := h' j u hu;rw [List.getElem?_append_right (by rw [hl, Nat.add_mul]; omega)]
  rw [show (i + 1) * ts.length + j - c.length = i * ts.length + j from by rw [hl, Nat.add_mul]; omega]
  exact this
theorem RdRow.length {α : Type} {Q : α → Value → D → Prop} {ts : List α} : ∀ {ls : List (List D)} {xs : List Value}, RdRow Q ts xs ls → xs.length = ls.length * ts.length
 | [], xs, h => by simp only [RdRow] at h; subst h; simp
 | l :: ls, xs, ⟨c, r, e, a, b⟩ => by subst e; rw [List.length_append, a.length.1, RdRow.length b, List.length_cons, Nat.add_mul]; omega
theorem rowRd_get {t : CT} {w : World} {F : Nat → Prop} {xs : List Value} {ls : List (List D)} {i : Nat} {l : List D} (h : rowRd w F t xs ls) (hi : ls[i]? = some l) :
  ∃ c, RdCs (RdC w F) (rowCells t) c l ∧ ∀ (j : Nat) u, c[j]? = some u → xs[i * rowSz t + j]? = some u := by
 cases t with
 | b t => exact h.elim
 | s1 e =>
  obtain ⟨c, hc, hx⟩ := RdRow.get h hi;exact ⟨c, RdCs.mapT CT.b (fun _ _ _ h => h) hc, hx⟩
 | s2 e =>
  obtain ⟨c, hc, hx⟩ := RdRow.get h hi;exact ⟨c, RdCs.mapT (ts := [()]) (fun _ => CT.s1 e) (fun _ _ _ h => h) hc, hx⟩
theorem rowRd_sl {t : CT} {w : World} {F : Nat → Prop} {v : Value} {d : D} (h : RdC w F t v d) (ht : ∀ b, t ≠ .b b) : RdSl w F (rowRd w F t) (rowAgg t) v d := by
 cases t with
 | b t => exact absurd rfl (ht t)
 | s1 e => exact h
 | s2 e => exact h
section
variable {P : Program} {w : World} {F : Nat → Prop} {hl : Nat} {μ : Mu} {ρ : List D}
theorem ptrAdd_ok {s q : SV} {k : Nat} {v : Value} (h : ptrAdd s k = .ok q) (hs : SVR w F hl μ ρ s v) : ∃ b o, v = .pointer (some ⟨b, o, none⟩) ∧ SVR w F hl μ ρ q (.pointer (some ⟨b, o + k, none⟩)) := by
 unfold ptrAdd at h
 split at h <;> simp only [Except.ok.injEq, reduceCtorEq] at h
 ·subst h
  obtain ⟨hb, b, h1, rfl⟩ := hs;exact ⟨b, _, rfl, hb, b, h1, rfl⟩
 ·subst h
  obtain ⟨hb, b, len, cap, n, h1, h2, h3, h4, rfl⟩ := hs;refine ⟨b, _, rfl, hb, b, len, cap, n, h1, h2, h3, h4, ?_⟩;rw [Nat.add_assoc]
 ·subst h
  obtain ⟨b, o, rfl, h2, h3⟩ := hs;refine ⟨b, _, rfl, b, o, ?_, h2, h3⟩;rw [Nat.add_assoc]
 ·subst h
  obtain ⟨hb, l, u, g1, g2, b, len, cap, n, h1, h2, h3, h4, rfl⟩ := hs;refine ⟨b, _, rfl, hb, l, u, g1, g2, b, len, cap, n, h1, h2, h3, h4, ?_⟩;rw [Nat.add_assoc]
theorem addr_add (b o k : Nat) : (⟨b, o, none⟩ : Addr).add k = ⟨b, o + k, none⟩ := by
 unfold Addr.add
 split
 ·rename_i h; subst h; rfl
 ·rfl
theorem isAggB_run {t : TypeId} {ag : Bool} (h : isAggB P t = some ag) (w : World) : (isAgg t).run P w = .ok ag w := by
 unfold isAggB at h
 unfold isAgg
 split at h
 ·rename_i e; simp only [Option.some.injEq] at h; subst h; simp [run_underlying e]
 ·rename_i e; simp only [Option.some.injEq] at h; subst h; simp [run_underlying e]
 ·rename_i d e1 e2 e
  simp only [Option.some.injEq] at h; subst h;simp only [Sem.run_bind, run_underlying e, Result.andThen_ok]
  cases d <;> first | rfl | (rename_i x; exact absurd e (e1 x)) | (rename_i x y; exact absurd e (e2 x y))
 ·cases h
theorem sizeB_run {t : TypeId} {n : Nat} (h : sizeB P t = some n) (w : World) : (Go.sizeOf t).run P w = .ok n w := by
 unfold sizeB at h
 obtain ⟨i, hi, rfl⟩ := map_some_eq h
 simp [Go.sizeOf, typeInfo, hi]
theorem loadVar_ok {t : TypeId} {ag : Bool} {sz b o : Nat} {vs : List Value} (ha : isAggB P t = some ag) (hz : sizeB P t = some sz) (hl : vs.length = sz)
  (hc : ∀ (j : Nat) u, vs[j]? = some u → w.cell? ⟨b, o + j, none⟩ = some u) (h0 : 0 < sz) (w' : World) (hw : w'.heap = w.heap) :
  (loadVar t ⟨b, o, none⟩).run P w' = .ok (if ag then .agg vs.toArray else vs.headD Go.undef) w' := by
 have hc' : ∀ (j : Nat) u, vs[j]? = some u → w'.cell? ⟨b, o + j, none⟩ = some u := fun j u hu => by have := hc j u hu;simpa [World.cell?, hw] using this
 unfold loadVar
 simp only [Sem.run_bind, isAggB_run ha, Result.andThen_ok]
 cases ag with
 | true =>
  have := run_loadCells_list (P := P) w' ⟨b, o, none⟩ vs (fun j v hv => by rw [addr_add]; exact hc' j v hv)
  rw [hl] at this;simp [sizeB_run hz, this]
 | false =>
  cases vs with
  | nil => simp at hl; omega
  | cons v vs =>
   have := hc' 0 v rfl;simp only [Nat.add_zero] at this;simp [this]
theorem mkSV_ok {ag : Bool} {cs : List CV} {s : SV} {vs : List Value} (h : mkSV ag cs = some s) (hc : CVRs w F hl μ ρ cs vs) : SVR w F hl μ ρ s (if ag then .agg vs.toArray else vs.headD Go.undef) := by
 unfold mkSV at h
 split at h
 ·rename_i ha
  simp only [Option.some.injEq] at h; subst h;simp only [ha];exact ⟨_, rfl, by simpa using hc⟩
 ·rename_i ha
  split at h
  ·simp only [Option.some.injEq] at h; subst h
   match vs, hc with
   | [v], ⟨a, _⟩ => simp only [ha]; exact a
  ·cases h
theorem proj_push {l : List D} {x : Atom} : ∀ {ts : List CT} {k : Nat} {ρ ρ' : List D}, x.get ρ = some (.agg l) → pushAll ((ts.zipIdx k).map fun (_, j) => (Prim.proj j, [x])) ρ = some ρ' →
  ∀ (j : Nat), j < ts.length → l[k + j]? ≠ none ∧ ρ'[ρ.length + j]? = l[k + j]? ∧ ∃ σ, ρ' = ρ ++ σ
 | [], k, ρ, ρ', _, _, j, hj => by simp at hj
 | t :: ts, k, ρ, ρ', hx, hp, j, hj => by
  simp only [List.zipIdx_cons, List.map_cons, pushAll, evs, List.map_nil, Atom.ev_of_get hx, Prim.ev] at hp;split at hp
  ·rename_i d hd
   have hx' : x.get (ρ ++ [d]) = some (.agg l) := Atom.get_append hx
   cases j with
   | zero =>
    obtain ⟨σ, e, _⟩ := pushAll_env hp;subst e;refine ⟨by simp [hd], ?_, ⟨[d] ++ σ, by simp⟩⟩
    simp [hd]
   | succ j =>
    have := proj_push (k := k + 1) hx' hp j (by simpa using hj)
    obtain ⟨h1, h2, σ, e⟩ := this;refine ⟨by rw [show k + (j + 1) = k + 1 + j from by omega]; exact h1, ?_, ⟨[d] ++ σ, by simp [e]⟩⟩
    rw [show k + (j + 1) = k + 1 + j from by omega, ← h2]
    congr 1
    simp; omega
  ·cases hp
theorem elemCells_ok {t : CT} {x : Atom} {c : List Value} {l : List D} {ρ' : List D} (hx : x.get ρ = some (unflat (rowAgg t) l)) (hc : RdCs (RdC w F) (rowCells t) c l)
  (hp : pushAll (elemCells ρ.length t x).2 ρ = some ρ') :
  ∀ (j : Nat) ct y, (elemCells ρ.length t x).1[j]? = some (ct, y) → ∃ u d, c[j]? = some u ∧ y.get ρ' = some d ∧ RdC w F ct u d := by
 intro j ct y hj
 cases t with
 | b t => simp [elemCells, rowAgg, rowCells] at hj
 | s2 e =>
  simp only [elemCells, rowAgg, rowCells] at hj hp
  cases j with
  | succ j => simp at hj
  | zero =>
   simp at hj;obtain ⟨rfl, rfl⟩ := hj;simp only [Bool.false_eq_true, if_false, pushAll, Option.some.injEq] at hp;subst hp;obtain ⟨u, d, hu, hd, hr⟩ := RdCs.get hc (t := CT.s1 e) (j := 0) rfl;have hl := hc.length.2
   match l, hl with
   | [d'], _ =>
    simp only [List.getElem?_cons_zero, Option.some.injEq] at hd;subst hd;exact ⟨u, _, hu, by simpa [unflat, rowAgg] using hx, hr⟩
 | s1 e =>
  cases hag : e.agg with
  | true =>
   simp only [elemCells, rowAgg, hag, if_true, rowCells] at hj hp;simp only [rowAgg, hag, unflat, if_true] at hx;rw [List.getElem?_map, List.getElem?_zipIdx] at hj
   cases hb : (List.map CT.b e.cells)[j]? with
   | none => simp [hb] at hj
   | some ct' =>
    simp [hb] at hj;obtain ⟨rfl, rfl⟩ := hj;obtain ⟨u, d, hu, hd, hr⟩ := RdCs.get hc (t := ct') (j := j) hb;have hlt : j < (List.map CT.b e.cells).length := by
     rcases Nat.lt_or_ge j (List.map CT.b e.cells).length with h | h
     ·exact h
     ·rw [List.getElem?_eq_none h] at hb; cases hb
    obtain ⟨_, h2, _⟩ := proj_push (k := 0) hx hp j hlt;refine ⟨u, d, hu, ?_, hr⟩;simp only [Atom.get];rw [h2, Nat.zero_add];exact hd
  | false =>
   simp only [elemCells, rowAgg, hag, Bool.false_eq_true, if_false, pushAll, Option.some.injEq] at hj hp;simp only [rowAgg, hag, unflat, Bool.false_eq_true, if_false] at hx;subst hp;split at hj
   ·rename_i ct' hct
    cases j with
    | succ j => simp at hj
    | zero =>
     simp at hj;obtain ⟨rfl, rfl⟩ := hj;obtain ⟨u, d, hu, hd, hr⟩ := RdCs.get hc (t := ct') (j := 0) (by rw [hct]; rfl)
     have hl := hc.length.2;rw [hct] at hl
     match l, hl with
     | [d'], _ =>
      simp only [List.getElem?_cons_zero, Option.some.injEq] at hd;subst hd;exact ⟨u, _, hu, hx, hr⟩
   ·simp at hj
end
end Vs

namespace Vs
open Go Go.RowKit
theorem pushAll_append : ∀ {p q : List Push} {ρ : List D}, pushAll (p ++ q) ρ = (pushAll p ρ).bind (pushAll q)
 | [], q, ρ => rfl
 | (f, xs) :: p, q, ρ => by
  simp only [List.cons_append, pushAll]
  cases f.ev (evs ρ xs) with
  | none => rfl
  | some d => exact pushAll_append
theorem kEq_iff : ∀ {a b : List Int}, kEq (a.map D.int) (b.map D.int) = true ↔ a = b
 | [], [] => by simp [kEq]
 | [], _ :: _ => by simp [kEq]
 | _ :: _, [] => by simp [kEq]
 | x :: xs, y :: ys => by simp only [List.map_cons, kEq, Bool.and_eq_true, beq_iff_eq, List.cons.injEq];rw [kEq_iff]
theorem kOk_inv : ∀ {ns : List Int}, kOk (ns.map D.int) = true → kR ns
 | [], _ => by simp [kR]
 | n :: ns, h => by
  simp only [List.map_cons, kOk, Bool.and_eq_true, decide_eq_true_eq] at h;intro m hm
  rcases List.mem_cons.1 hm with rfl | hm
  ·exact ⟨h.1, h.2.1⟩
  ·exact kOk_inv h.2.2 m hm
abbrev kvF (kv : List Int × D) : D := .agg [.agg (kv.1.map D.int), kv.2]
theorem mfind_no {ns : List Int} : ∀ {kvs : List (List Int × D)}, (∀ kv ∈ kvs, kv.1 ≠ ns) → mfind (ns.map D.int) (kvs.map kvF) = none
 | [], _ => rfl
 | kv :: r, h => by
  have h1 : ¬ kEq (kv.1.map D.int) (ns.map D.int) = true := fun e => h kv (by simp) (kEq_iff.1 e)
  simp only [List.map_cons, kvF, mfind];rw [if_neg h1];exact mfind_no fun x hx => h x (by simp [hx])
theorem mfind_at {ns : List Int} : ∀ {kvs : List (List Int × D)} {j : Nat} {kv : List Int × D}, (kvs.map (·.1)).Nodup → kvs[j]? = some kv → kv.1 = ns → mfind (ns.map D.int) (kvs.map kvF) = some kv.2
 | [], j, kv, _, h, _ => by simp at h
 | x :: r, j, kv, hn, h, e => by
  simp only [List.map_cons, List.nodup_cons] at hn;simp only [List.map_cons, kvF, mfind]
  cases j with
  | zero =>
   simp only [List.getElem?_cons_zero, Option.some.injEq] at h;subst h;rw [if_pos (kEq_iff.2 e)]
  | succ j =>
   simp only [List.getElem?_cons_succ] at h;have hne : ¬ kEq (x.1.map D.int) (ns.map D.int) = true := fun q => hn.1 (by rw [kEq_iff.1 q, ← e]; exact List.mem_map_of_mem (List.mem_of_getElem? h))
   rw [if_neg hne];exact mfind_at hn.2 h e
theorem mput_no {ns : List Int} {v : D} : ∀ {kvs : List (List Int × D)}, (∀ kv ∈ kvs, kv.1 ≠ ns) → mput (ns.map D.int) v (kvs.map kvF) = (kvs ++ [(ns, v)]).map kvF
 | [], _ => rfl
 | kv :: r, h => by
  have h1 : ¬ kEq (kv.1.map D.int) (ns.map D.int) = true := fun e => h kv (by simp) (kEq_iff.1 e)
  simp only [List.map_cons, kvF, mput, List.cons_append];rw [if_neg h1]
  congr 1
  exact mput_no fun x hx => h x (by simp [hx])
theorem mput_at {ns : List Int} {v : D} : ∀ {kvs : List (List Int × D)} {j : Nat} {kv : List Int × D}, (kvs.map (·.1)).Nodup → kvs[j]? = some kv → kv.1 = ns → mput (ns.map D.int) v (kvs.map kvF) = (kvs.set j (ns, v)).map kvF
 | [], j, kv, _, h, _ => by simp at h
 | x :: r, j, kv, hn, h, e => by
  simp only [List.map_cons, List.nodup_cons] at hn;simp only [List.map_cons, kvF, mput]
  cases j with
  | zero =>
   simp only [List.getElem?_cons_zero, Option.some.injEq] at h;subst h;rw [if_pos (kEq_iff.2 e)];simp [e]
  | succ j =>
   simp only [List.getElem?_cons_succ] at h;have hne : ¬ kEq (x.1.map D.int) (ns.map D.int) = true := fun q => hn.1 (by rw [kEq_iff.1 q, ← e]; exact List.mem_map_of_mem (List.mem_of_getElem? h))
   rw [if_neg hne];simp only [List.set_cons_succ, List.map_cons]
   congr 1
   exact mput_at hn.2 h e
theorem mwhere_at {ns : List Int} : ∀ {kvs : List (List Int × D)} {j : Nat} {kv : List Int × D}, (kvs.map (·.1)).Nodup → kvs[j]? = some kv → kv.1 = ns → mwhere (ns.map D.int) (kvs.map kvF) = some j
 | [], j, kv, _, h, _ => by simp at h
 | x :: r, j, kv, hn, h, e => by
  simp only [List.map_cons, List.nodup_cons] at hn;simp only [List.map_cons, kvF, mwhere]
  cases j with
  | zero =>
   simp only [List.getElem?_cons_zero, Option.some.injEq] at h;subst h;rw [if_pos (kEq_iff.2 e)]
  | succ j =>
   simp only [List.getElem?_cons_succ] at h;have hne : ¬ kEq (x.1.map D.int) (ns.map D.int) = true := fun q => hn.1 (by rw [kEq_iff.1 q, ← e]; exact List.mem_map_of_mem (List.mem_of_getElem? h))
   rw [if_neg hne, mwhere_at hn.2 h e];rfl
theorem kInt_inv : ∀ {l : List D}, kInt l = true → ∃ ns : List Int, l = ns.map D.int
 | [], _ => ⟨[], rfl⟩
 | .int n :: r, h => by obtain ⟨ns, rfl⟩ := kInt_inv (l := r) h;exact ⟨n :: ns, rfl⟩
 | .undef :: _, h | .bool _ :: _, h | .flt _ :: _, h | .str _ :: _, h | .agg _ :: _, h | .lst _ :: _, h => by cases h
theorem kOk_int : ∀ {l : List D}, kOk l = true → kInt l = true
 | [], _ => rfl
 | .int n :: r, h => by simp only [kOk, Bool.and_eq_true] at h;exact kOk_int (l := r) h.2.2
 | .undef :: _, h | .bool _ :: _, h | .flt _ :: _, h | .str _ :: _, h | .agg _ :: _, h | .lst _ :: _, h => by cases h
theorem mOk_inv : ∀ {l : List D}, mOk l = true → ∃ kvs : List (List Int × D), l = kvs.map kvF
 | [], _ => ⟨[], rfl⟩
 | x :: r, h => by
  unfold mOk at h;split at h
  ·rename_i heq; cases heq
  ·rename_i k v r' heq
   cases heq
   simp only [Bool.and_eq_true] at h;obtain ⟨ns, rfl⟩ := kInt_inv h.1;obtain ⟨kvs, rfl⟩ := mOk_inv h.2;exact ⟨(ns, v) :: kvs, rfl⟩
  ·cases h
theorem mfind_ment {ns ms : List Int} {z : D} : ∀ {kvs : List (List Int × D)}, (mfind (ms.map D.int) (mput (ns.map D.int) ((mfind (ns.map D.int) (kvs.map kvF)).getD z) (kvs.map kvF))).getD z = (mfind (ms.map D.int) (kvs.map kvF)).getD z
 | [] => by simp only [List.map_nil, mfind, Option.getD_none, mput];split <;> rfl
 | kv :: r => by
  by_cases h1 : kEq (kv.1.map D.int) (ns.map D.int) = true
  ·have e1 : mfind (ns.map D.int) ((kv :: r).map kvF) = some kv.2 := by simp only [List.map_cons, kvF, mfind]; rw [if_pos h1]
   rw [e1, Option.getD_some];have e2 : mput (ns.map D.int) kv.2 ((kv :: r).map kvF) = .agg [.agg (kv.1.map D.int), kv.2] :: r.map kvF := by simp only [List.map_cons, kvF, mput]; rw [if_pos h1]
   rw [e2];rfl
  ·have e1 : mfind (ns.map D.int) ((kv :: r).map kvF) = mfind (ns.map D.int) (r.map kvF) := by simp only [List.map_cons, kvF, mfind]; rw [if_neg h1]
   have e2 : ∀ v, mput (ns.map D.int) v ((kv :: r).map kvF) = kvF kv :: mput (ns.map D.int) v (r.map kvF) := fun v => by simp only [List.map_cons, kvF, mput]; rw [if_neg h1]
   rw [e1, e2];have ih := mfind_ment (ns := ns) (ms := ms) (z := z) (kvs := r);simp only [List.map_cons, kvF, mfind];split
   ·rfl
   ·exact ih
theorem kvF_inj {a b : List Int × D} (h : kvF a = kvF b) : a = b := by
 simp only [kvF, D.agg.injEq, List.cons.injEq, and_true] at h
 have := kEq_iff.1 (show kEq (a.1.map D.int) (b.1.map D.int) = true by rw [h.1]; exact kEq_iff.2 rfl)
 exact Prod.ext this h.2
theorem mD_inj {a b : List (List Int × D)} (h : mD a = mD b) : a = b := by
 simp only [mD, D.lst.injEq] at h
 have key : ∀ {a b : List (List Int × D)}, a.map kvF = b.map kvF → a = b := by
  intro a
  induction a with
  | nil => intro b h; cases b with | nil => rfl | cons _ _ => cases h
  | cons x r ih =>
   intro b h
   cases b with
   | nil => cases h
   | cons y q =>
    simp only [List.map_cons, List.cons.injEq] at h;rw [kvF_inj h.1, ih h.2]
 exact key h
theorem kVal_inj {a b : List Int} (h : kVal a = kVal b) : a = b := by
 simp only [kVal, Value.agg.injEq] at h
 have key : ∀ {a b : List Int}, a.map (Value.int .i64) = b.map (Value.int .i64) → a = b := by
  intro a
  induction a with
  | nil => intro b h; cases b with | nil => rfl | cons _ _ => cases h
  | cons x r ih =>
   intro b h
   cases b with
   | nil => cases h
   | cons y q =>
    simp only [List.map_cons, List.cons.injEq, Value.int.injEq, true_and] at h;rw [h.1, ih h.2]
 exact key (by simpa using congrArg Array.toList h)
theorem KS.evs {ρ : List D} : ∀ {ks : List Atom} {ns : List Int}, KS ρ ks ns → Vs.evs ρ ks = ns.map D.int
 | [], [], _ => rfl
 | _ :: _, _ :: _, ⟨h1, h2⟩ => by rw [evs_cons h1, KS.evs h2]; rfl
theorem KS.inj {ρ : List D} : ∀ {ks : List Atom} {ns ms : List Int}, KS ρ ks ns → KS ρ ks ms → ns = ms
 | [], [], [], _, _ => rfl
 | _ :: _, _ :: _, _ :: _, ⟨h1, h2⟩, ⟨h3, h4⟩ => by rw [h1] at h3;simp only [Option.some.injEq, D.int.injEq] at h3;rw [h3, KS.inj h2 h4]
theorem KS.app {ρ : List D} (σ : List D) : ∀ {ks : List Atom} {ns : List Int}, KS ρ ks ns → KS (ρ ++ σ) ks ns
 | [], [], _ => trivial
 | _ :: _, _ :: _, ⟨h1, h2⟩ => ⟨Atom.get_append h1, KS.app σ h2⟩
theorem MRef.app {ρ : List D} (σ : List D) {l : List Value} {d : Atom} {ks : List Atom} {y : Atom} {v : Value} (hh : MRef ρ l d ks y v) : MRef (ρ ++ σ) l d ks y v := by
 obtain ⟨kvs, ns, h1, h2, h3, h4, h5, h6⟩ := hh
 refine ⟨kvs, ns, Atom.get_append h1, h2.app σ, h3, h4, ?_, h6⟩
 rcases h5 with ⟨j, kv, a, b, c, d⟩ | ⟨a, b, c⟩
 ·exact .inl ⟨j, kv, a, b, c, Atom.get_append d⟩
 ·exact .inr ⟨a, b, Atom.get_append c⟩
theorem KS.length {ρ : List D} : ∀ {ks : List Atom} {ns : List Int}, KS ρ ks ns → ks.length = ns.length
 | [], [], _ => rfl
 | _ :: _, _ :: _, ⟨_, h⟩ => by simp [KS.length h]
theorem alike_get {ρ : List D} {x y : Atom} (h : Atom.alike x y = true) : x.get ρ = y.get ρ := by
 unfold Atom.alike at h
 split at h
 ·simp only [beq_iff_eq] at h; rw [h]
 ·simp only [beq_iff_eq] at h; rw [h]
 ·rfl
 ·cases h
theorem keyAtoms_ok {w : World} {F : Nat → Prop} {hl : Nat} {μ : Mu} {ρ : List D} : ∀ {cs : List CV} {ks : List Atom} {vs : List Value}, keyAtoms cs = .ok ks → CVRs w F hl μ ρ cs vs → ∃ ns : List Int, vs = ns.map (Value.int .i64) ∧ KS ρ ks ns
 | [], ks, [], h, _ => by simp only [keyAtoms, Except.ok.injEq] at h;subst h;exact ⟨[], rfl, trivial⟩
 | c :: cs, ks, v :: vs, h, ⟨h1, h2⟩ => by
  unfold keyAtoms at h;split at h
  ·rename_i heq; cases heq
  ·rename_i x cs' heq
   cases heq
   obtain ⟨xs, g1, g2⟩ := bind_ok h;simp only [Except.ok.injEq] at g2;subst g2;obtain ⟨ns, rfl, hk⟩ := keyAtoms_ok g1 h2;obtain ⟨d, hd, n, rfl, rfl⟩ := h1;exact ⟨n :: ns, rfl, hd, hk⟩
  ·cases h
structure MpOk (P : Program) (m : MPK) (e : TypeId) : Prop where
 ty : P.underlying m.t = some (.map m.k e)
 law : WideMaps.KeyLaw P m.k
 key : ∀ ns : List Int, ns.length = m.kn → kR ns → ∃ l, keyOf P m.k (kVal ns) = some l
 zb : ∀ b, m.v = .b b → ∃ z d, zeroB b = some d ∧ (∀ w, (zeroValue e).run P w = .ok z w) ∧ RdB b z d
 zs : ∀ et e', m.v = .s et e' → (∀ w, (zeroValue e).run P w = .ok (.slice none 0 0) w) ∧ elemOk P e' et = true
theorem zeroIs_ok {P : Program} {e : TypeId} {b : BT} (h : zeroIs P e b = true) : ∃ z d, zeroB b = some d ∧ (∀ w, (zeroValue e).run P w = .ok z w) ∧ RdB b z d := by
 unfold zeroIs at h
 split at h
 ·rename_i k k' n hz
  simp only [Bool.and_eq_true, decide_eq_true_eq, beq_iff_eq] at h;obtain ⟨rfl, rfl⟩ := h;obtain ⟨i, hi, hz⟩ := Option.bind_eq_some_iff.1 hz;exact ⟨_, _, rfl, fun w => by simp [zeroValue, typeInfo, hi, hz], _, rfl, rfl⟩
 ·rename_i b hz
  obtain ⟨i, hi, hz⟩ := Option.bind_eq_some_iff.1 hz
  cases b
  ·exact ⟨_, _, rfl, fun w => by simp [zeroValue, typeInfo, hi, hz], _, rfl, rfl⟩
  ·cases h
 ·cases h
theorem zeroNil_ok {P : Program} {e : TypeId} (h : zeroNil P e = true) (w : World) : (zeroValue e).run P w = .ok (.slice none 0 0) w := by
 unfold zeroNil at h
 split at h
 ·rename_i hz
  obtain ⟨i, hi, hz⟩ := Option.bind_eq_some_iff.1 hz;simp [zeroValue, typeInfo, hi, hz]
 ·cases h
theorem mapM_ints {f : Nat → Option (List Lit)} : ∀ {ns : List Int} {k : Nat}, (∀ i n, ns[i]? = some n → f (k + i) = some [Lit.int .i64 n]) → (List.range' k ns.length).mapM f = some (ns.map fun n => [Lit.int .i64 n])
 | [], k, _ => rfl
 | n :: ns, k, h => by
  have h0 := h 0 n rfl;rw [Nat.add_zero] at h0
  have ih := mapM_ints (f := f) (ns := ns) (k := k + 1) (fun i m hi => by
   have := h (i + 1) m (by simpa using hi)
   rwa [show k + 1 + i = k + (i + 1) by omega])
  simp only [List.length_cons, List.range'_succ, List.mapM_cons, h0, ih];rfl
theorem mpOf_ok {P : Program} {t : TypeId} {m : MPK} (h : mpOf P t = some m) : m.t = t ∧ ∃ e, MpOk P m e := by
 unfold mpOf at h
 split at h
 case h_2 => cases h
 rename_i k e ht
 split at h
 case h_2 => cases h
 rename_i n ke hk
 split at h
 case isFalse => cases h
 rename_i hc
 obtain ⟨hpos, hke, hc1, hka, hti⟩ := hc
 have hke' : P.underlying ke = some (.int .i64) := by unfold isI64 at hke; split at hke <;> first | assumption | cases hke
 have law : WideMaps.KeyLaw P k := deep_law (m := 2) (by decide) hka hti (by rw [hk])
 have hcells : P.cellsOf k = n := by unfold Program.tiled at hti;rw [hk] at hti;simp only [Bool.and_eq_true, beq_iff_eq, hc1, Nat.mul_one] at hti;exact hti.1
 have hkey : ∀ ns : List Int, ns.length = n → kR ns → ∃ l, keyOf P k (kVal ns) = some l := by
  intro ns hl hr;obtain ⟨s, hs⟩ : ∃ s, P.types.size = s + 1 := ⟨P.types.size - 1, by omega⟩
  have kt : P.keyType k = true := by unfold Program.keyType; rw [hs]; simp [Program.keyTypeAt, hk, hke']
  have hf : (kVal ns).formed P k = true := by simp [kVal, Value.formed, hk, hcells, hl]
  have hmap : (List.range n).mapM (fun i => P.keyLits (s + 1) ke (((ns.map (Value.int .i64)).drop (i * P.cellsOf ke)).take (P.cellsOf ke))) = some (ns.map fun n => [Lit.int .i64 n]) := by
   rw [List.range_eq_range', ← hl];refine mapM_ints fun i x hx => ?_
   have e1 : ((ns.map (Value.int .i64)).drop ((0 + i) * P.cellsOf ke)).take (P.cellsOf ke) = [.int .i64 x] := by
    rw [hc1, Nat.zero_add, Nat.mul_one];have hlt := (List.getElem?_eq_some_iff.1 hx).1;rw [List.drop_eq_getElem_cons (by simpa using hlt)]
    simp only [List.take_succ_cons, List.take_zero, List.getElem_map];rw [(List.getElem?_eq_some_iff.1 hx).2]
   rw [e1];have hwf : (Lit.int .i64 x).wf = true := by
    have := hr x (List.mem_of_getElem? hx);simp only [Lit.wf, Bool.and_eq_true, decide_eq_true_eq, show IntKind.i64.min = -9223372036854775808 by decide, show IntKind.i64.max = 9223372036854775807 by decide]
    omega
   simp [Program.keyLits, hke', hwf]
  unfold keyOf;rw [hk];simp only [kt, hf, Bool.and_self, if_true];rw [hs];have e2 : (kVal ns).cells.toList = ns.map (Value.int .i64) := rfl;have e3 : P.keyLits (s + 1 + 1) k (kVal ns).cells.toList = some (ns.map fun n => [Lit.int .i64 n]).flatten := by
   rw [e2];generalize s + 1 = q at hmap;simp only [Program.keyLits, hk];rw [if_pos (by simp [hl, hcells]), hmap]
   rfl
  rw [e3];exact ⟨_, rfl⟩
 split at h
 ·rename_i e' he
  split at h
  case h_2 => cases h
  rename_i et het;split at h
  case isFalse => cases h
  rename_i hz;simp only [Option.some.injEq] at h;subst h;exact ⟨rfl, e, ht, law, hkey, fun b hb => (by cases hb), fun et2 e2 hb => (by cases hb; exact ⟨zeroNil_ok hz.2, hz.1⟩)⟩
 ·split at h
  case h_2 => cases h
  rename_i b hb;split at h
  case isFalse => cases h
  rename_i hz;simp only [Option.some.injEq] at h;subst h;exact ⟨rfl, e, ht, law, hkey, fun b' hb' => (by cases hb'; exact zeroIs_ok hz), fun et2 e2 hb' => (by cases hb')⟩
section
variable {P : Program} {m : MPK} {e : TypeId} {w : World} {b : Nat} {es : Array MapEntry} {kvs : List (List Int × D)} {us : List Value} {hk : Option Nat}
theorem find_key (hM : MpOk P m e) (hm : MapR w m es.toList kvs us hk) {ns : List Int} (hl : ns.length = m.kn) (hr : kR ns) :
  (∃ lx, keyOf P m.k (kVal ns) = some lx) ∧ (((Instr.findKey m.k (kVal ns) es.toList).run P w = .ok none w ∧ ∀ kv ∈ kvs, kv.1 ≠ ns) ∨
   ∃ (j : Nat) (e0 : MapEntry) (kv : List Int × D), (Instr.findKey m.k (kVal ns) es.toList).run P w = .ok (some (j, e0.val)) w ∧ es.toList[j]? = some e0 ∧ kvs[j]? = some kv ∧ kv.1 = ns ∧ e0.key = kVal ns) := by
 obtain ⟨lx, hlx⟩ := hM.key ns hl hr
 have hkeys : ∀ (j : Nat) e0, es.toList[j]? = some e0 → ∃ kv u, kvs[j]? = some kv ∧ us[j]? = some u ∧ e0.key = kVal kv.1 := by
  intro j e0 hj;have hlt : j < kvs.length := by rw [← hm.len]; exact (List.getElem?_eq_some_iff.1 hj).1
  have h1 := List.getElem?_eq_getElem hlt;have h2 := List.getElem?_eq_getElem (show j < us.length by rw [hm.ulen]; exact hlt)
  exact ⟨_, _, h1, h2, (hm.ent j e0 _ _ hj h1 h2).2.1⟩
 refine ⟨⟨lx, hlx⟩, ?_⟩
 rcases hM.law.find w hlx es.toList (fun e0 he => by
  obtain ⟨j, hj⟩ := List.getElem?_of_mem he;obtain ⟨kv, u, h1, _, h3⟩ := hkeys j e0 hj;obtain ⟨g1, g2⟩ := hm.key j kv h1;rw [h3]
  exact hM.key kv.1 g1 g2) with ⟨h1, h2⟩ | ⟨j, e0, h1, h2, h3⟩
 ·refine .inl ⟨h1, fun kv hkv e1 => ?_⟩
  obtain ⟨j, hj⟩ := List.getElem?_of_mem hkv;have hlt : j < es.toList.length := by rw [hm.len]; exact (List.getElem?_eq_some_iff.1 hj).1
  obtain ⟨kv', u, g1, _, g3⟩ := hkeys j _ (List.getElem?_eq_getElem hlt);rw [hj] at g1
  cases g1
  exact h2 _ (List.getElem_mem hlt) (by rw [g3, e1])
 ·obtain ⟨kv, u, g1, g2, g3⟩ := hkeys j e0 h2
  exact .inr ⟨j, e0, kv, h1, h2, g1, kVal_inj (by rw [← g3, h3]), h3⟩
theorem run_lookup_map (hM : MpOk P m e) (hb : w.heap[b]? = some (.map es es.size)) (hm : MapR w m es.toList kvs us hk) {z : Value} (hz : (zeroValue e).run P w = .ok z w) {ns : List Int} (hl : ns.length = m.kn) (hr : kR ns) :
  ((Instr.lookup m.t (.map (some b)) (kVal ns) false).run P w = .ok z w ∧ ∀ kv ∈ kvs, kv.1 ≠ ns) ∨
  ∃ (j : Nat) (e0 : MapEntry) (kv : List Int × D), (Instr.lookup m.t (.map (some b)) (kVal ns) false).run P w = .ok e0.val w ∧ es.toList[j]? = some e0 ∧ kvs[j]? = some kv ∧ kv.1 = ns := by
 obtain ⟨⟨lx, hlx⟩, h⟩ := find_key hM hm hl hr
 have hc := hM.law.check w es.isEmpty hlx
 rcases h with ⟨h1, h2⟩ | ⟨j, e0, kv, h1, h2, h3, h4, _⟩
 ·exact .inl ⟨by simp [Instr.lookup, run_underlying hM.ty, MapKept.run_getObj_map hb, hc, h1, hz, Result.andThen], h2⟩
 ·exact .inr ⟨j, e0, kv, by simp [Instr.lookup, run_underlying hM.ty, MapKept.run_getObj_map hb, hc, h1, Result.andThen], h2, h3, h4⟩
end
section
variable {P : Program} {X : Nat → Prop} {M : Hand} {w0 w : World} {S : SS} {μ : Mu} {ρ : List D} {a : Act}
theorem rowsNow_ok (hR : R X M w0 S μ ρ a w) {β ver : Nat} {d : Atom} {et : ET} {e : TypeId} (h : rowsNow S β ver d = some (et, e)) {l : List Value} (hl : (μ β).hist[ver]? = some l) {i y : Atom} {u : Value} (hm : RRef ρ l d i y u) :
  (∃ n xs ls, w.ownsRow 0 e et.cells.length u n xs ∧ y.get ρ = some (.lst (ls.map (unflat et.agg))) ∧ ls.length = n ∧ RdRow RdB et.cells xs ls) ∧ u ∈ (μ β).inner ∧ ∃ e' x, S.heap[β]? = some (.rows et e e' ver x) := by
 unfold rowsNow at h
 split at h
 case h_2 => cases h
 rename_i et' f' e0 ver' d' hb
 split at h
 case isFalse => cases h
 rename_i hc
 obtain ⟨rfl, hal⟩ := hc
 simp only [Option.some.injEq, Prod.mk.injEq] at h
 obtain ⟨rfl, rfl⟩ := h
 obtain ⟨hlen, m, ls, _, _, hx, hml, hrd, _⟩ := hR.blocks β _ hb
 rw [MV.hist_last hlen] at hl
 simp only [Option.some.injEq] at hl
 subst hl
 obtain ⟨ls', n, dy, g1, g2, g3, g4, g5, _⟩ := hm
 rw [alike_get hal, hx] at g1
 simp only [rowsDat, Option.some.injEq, D.lst.injEq] at g1
 subst g1
 rw [List.getElem?_map] at g3
 obtain ⟨l', hl', rfl⟩ := map_some_eq g3
 obtain ⟨k, ys, q1, q2, q3⟩ := hrd.2 n u l' g4 hl'
 exact ⟨⟨k, ys, l', q1, g5, q2, q3⟩, List.mem_of_getElem? g4, _, _, hb⟩
theorem RRef.app {ρ : List D} {l : List Value} {d i y : Atom} {v : Value} (h : RRef ρ l d i y v) (σ : List D) : RRef (ρ ++ σ) l d i y v := by
 obtain ⟨ls, n, dy, h1, h2, h3, h4, h5, h6⟩ := h
 exact ⟨ls, n, dy, Atom.get_append h1, Atom.get_append h2, h3, h4, Atom.get_append h5, h6⟩
theorem mapNow_ok (hR : R X M w0 S μ ρ a w) {β ver : Nat} {d : Atom} {et : ET} {e : TypeId} (h : mapNow S β ver d = some (et, e)) {l : List Value} (hl : (μ β).hist[ver]? = some l) {ks : List Atom} {y : Atom} {u : Value} (hm : MRef ρ l d ks y u) :
  ∃ n xs ls, w.ownsRow 0 e et.cells.length u n xs ∧ y.get ρ = some (.lst (ls.map (unflat et.agg))) ∧ ls.length = n ∧ RdRow RdB et.cells xs ls := by
 unfold mapNow at h
 split at h
 case h_2 => cases h
 rename_i m ver' d' hb
 split at h
 case isFalse => cases h
 rename_i hc
 obtain ⟨rfl, hal⟩ := hc
 split at h
 case h_2 => cases h
 rename_i et' e' hv
 simp only [Option.some.injEq, Prod.mk.injEq] at h
 obtain ⟨rfl, rfl⟩ := h
 obtain ⟨hlen, _, d0, hk, hd0, hhole, b, es, kvs, _, _, rfl, hmr, _⟩ := hR.blocks β _ hb
 rw [MV.hist_last hlen] at hl
 simp only [Option.some.injEq] at hl
 subst hl
 have hkn : hk = none := by cases hk with | none => rfl | some _ => exact hhole.elim
 subst hkn
 obtain ⟨kvs', ns, g1, _, _, g4, g5, _⟩ := hm
 rw [alike_get hal, hd0] at g1
 have := mD_inj (Option.some.inj g1)
 subst this
 rcases g5 with ⟨j, kv, q1, q2, q3, q4⟩ | ⟨_, rfl, q3⟩
 ·have hlt : j < es.toList.length := by rw [hmr.len]; exact (List.getElem?_eq_some_iff.1 q1).1
  obtain ⟨_, _, _, q5⟩ := hmr.ent j _ kv u (List.getElem?_eq_getElem hlt) q1 q3;obtain ⟨_, q6⟩ := q5 (by simp)
  rw [hv] at q6;obtain ⟨n, xs, ls, r1, r2, r3, r4⟩ := q6;exact ⟨n, xs, ls, r1, by rw [q4, r2], r3, r4⟩
 ·exact ⟨0, [], [], ⟨by simp, .inl ⟨rfl, rfl⟩⟩, q3, rfl, rfl⟩
theorem mapAt_ok {t : TypeId} {x i : SV} {β : Nat} {m : MPK} {ver : Nat} {d : Atom} {hole : Option Atom} {ks : List Atom} (h : mapAt P S t x i = .ok (β, m, ver, d, hole, ks)) {vx vi : Value}
  (hx : SVR w (Fz X S.heap μ w) S.heap.length μ ρ x vx) (hi : SVR w (Fz X S.heap μ w) S.heap.length μ ρ i vi) :
  x = .c (.s (.omap β)) ∧ S.heap[β]? = some (.map m ver d hole) ∧ m.t = t ∧ (∃ e, MpOk P m e) ∧ vx = (μ β).v ∧ ∃ ns, vi = kVal ns ∧ KS ρ ks ns ∧ ns.length = m.kn := by
 unfold mapAt at h
 split at h
 case h_2 => cases h
 rename_i β' cs
 split at h
 case h_2 => cases h
 rename_i m' ver' d' hole' hb
 split at h
 case isFalse => cases h
 rename_i hmt
 obtain ⟨ks', g1, g2⟩ := bind_ok h
 split at g2
 case isFalse => cases g2
 rename_i hkn
 simp only [Except.ok.injEq, Prod.mk.injEq] at g2
 obtain ⟨rfl, rfl, rfl, rfl, rfl, rfl⟩ := g2
 obtain ⟨hmt1, hme⟩ := mpOf_ok hmt
 obtain ⟨arr, rfl, hcs⟩ := hi
 obtain ⟨ns, hns, hks⟩ := keyAtoms_ok g1 hcs
 refine ⟨rfl, hb, hmt1, hme, hx.2.1, ns, ?_, hks, by rw [← hks.length, hkn]⟩
 unfold kVal
 rw [← hns]
theorem lopLookupM_ok (hR : R X M w0 S μ ρ a w) {t : TypeId} {x i v : SV} {ps : List Push} {vx vi : Value} {ρ' : List D} (h : lopLookupM P S t x i = .ok (v, ps))
  (hx : SVR w (Fz X S.heap μ w) S.heap.length μ ρ x vx) (hi : SVR w (Fz X S.heap μ w) S.heap.length μ ρ i vi) (hp : pushAll ps ρ = some ρ') :
  ∃ u, (Instr.lookup t vx vi false).run P w = .ok u w ∧ SVR w (Fz X S.heap μ w) S.heap.length μ ρ' v u := by
 unfold lopLookupM at h
 obtain ⟨⟨β, m, ver, d, hole, ks⟩, h1, h2⟩ := bind_ok h
 obtain ⟨_, hb, rfl, ⟨e, hM⟩, rfl, ns, rfl, hks, hkl⟩ := mapAt_ok h1 hx hi
 cases hole with
 | some _ => cases h2
 | none =>
 dsimp only at h2
 have hβ : β < S.heap.length := (List.getElem?_eq_some_iff.1 hb).1
 obtain ⟨hlen, _, d0, hk, hd0, hhole, g, es, kvs, hv, hg, rfl, hmr, _⟩ := hR.blocks β _ hb
 have hkn : hk = none := by cases hk with | none => rfl | some _ => exact hhole.elim
 subst hkn
 rw [hv]
 have key : ∀ {z : Atom} {zd : D}, z.get (ρ ++ [D.agg (ns.map D.int)]) = some zd → pushAll [(Prim.mkagg, ks), (.mget, [d, .v S.n, z])] ρ = some ρ' →
   kR ns ∧ ρ' = ρ ++ [D.agg (ns.map D.int)] ++ [(mfind (ns.map D.int) (kvs.map kvF)).getD zd] := by
  intro z zd hz hp;rw [show [(Prim.mkagg, ks), (.mget, [d, .v S.n, z])] = [(Prim.mkagg, ks)] ++ [(Prim.mget, [d, .v S.n, z])] from rfl, pushAll_append] at hp
  obtain ⟨ρ1, q1, q2⟩ := Option.bind_eq_some_iff.1 hp;obtain ⟨d1, e1, rfl⟩ := pushAll_one q1;rw [hks.evs] at e1;simp only [Prim.ev, Option.some.injEq] at e1;subst e1;obtain ⟨d2, e2, rfl⟩ := pushAll_one q2;have g1 : d.get (ρ ++ [D.agg (ns.map D.int)]) = some (mD kvs) := Atom.get_append hd0;have g2 : (Atom.v S.n).get (ρ ++ [D.agg (ns.map D.int)]) = some (D.agg (ns.map D.int)) := get_new hR.len;rw [evs_cons g1, evs_cons g2, evs_cons hz] at e2;simp only [evs, List.map_nil, mD, Prim.ev] at e2;split at e2
  ·rename_i hok
   simp only [Option.some.injEq] at e2;exact ⟨kOk_inv hok, by rw [← e2]⟩
  ·cases e2
 have gn1 : ∀ {d1 d2 : D}, (Atom.v (S.n + 1)).get (ρ ++ [d1] ++ [d2]) = some d2 := fun {d1 d2} => get_new (by simp [hR.len])
 split at h2
 ·rename_i bt hmv
  obtain ⟨zd, hz1, h3⟩ := bind_ok h2;simp only [Except.ok.injEq, Prod.mk.injEq] at h3;obtain ⟨rfl, rfl⟩ := h3;obtain ⟨z, zd', hz2, hz3, hz4⟩ := hM.zb bt hmv;rw [need_ok hz1] at hz2
  cases hz2
  obtain ⟨hr, rfl⟩ := key (z := .c zd) (zd := zd) rfl hp
  rcases run_lookup_map hM hg hmr (hz3 w) hkl hr with ⟨q1, q2⟩ | ⟨j, e0, kv, q1, q2, q3, q4⟩
  ·refine ⟨z, q1, ?_⟩
   rw [mfind_no q2];exact ⟨_, gn1, hz4⟩
  ·have hlt : j < (μ β).inner.length := by rw [hmr.ulen]; exact (List.getElem?_eq_some_iff.1 q3).1
   obtain ⟨_, _, _, q5⟩ := hmr.ent j e0 kv _ q2 q3 (List.getElem?_eq_getElem hlt);obtain ⟨q6, q7⟩ := q5 (by simp)
   rw [hmv, q6] at q7;refine ⟨e0.val, q1, ?_⟩;rw [mfind_at hmr.nodup q3 q4];exact ⟨_, gn1, q7⟩
 ·rename_i et e' hmv
  simp only [Except.ok.injEq, Prod.mk.injEq] at h2;obtain ⟨rfl, rfl⟩ := h2;obtain ⟨hz, _⟩ := hM.zs et e' hmv;obtain ⟨hr, rfl⟩ := key (z := .c (.lst [])) (zd := .lst []) rfl hp;have hh := MV.hist_last hlen
  rcases run_lookup_map hM hg hmr (hz w) hkl hr with ⟨q1, q2⟩ | ⟨j, e0, kv, q1, q2, q3, q4⟩
  ·refine ⟨_, q1, hβ, _, hh, kvs, ns, Atom.get_append (Atom.get_append hd0), (hks.app _).app _, hr, hmr.ulen, .inr ⟨q2, rfl, ?_⟩, none, 0, 0, rfl⟩
   rw [mfind_no q2];exact gn1
  ·have hlt : j < (μ β).inner.length := by rw [hmr.ulen]; exact (List.getElem?_eq_some_iff.1 q3).1
   obtain ⟨_, _, _, q5⟩ := hmr.ent j e0 kv _ q2 q3 (List.getElem?_eq_getElem hlt);obtain ⟨q6, q7⟩ := q5 (by simp)
   rw [hmv] at q7;obtain ⟨n, xs, ls, r1, _⟩ := q7;obtain ⟨ad, cap, r2⟩ := ownsRow_slice r1;rw [q6] at r2;refine ⟨e0.val, q1, hβ, _, hh, kvs, ns, Atom.get_append (Atom.get_append hd0), (hks.app _).app _, hr, hmr.ulen, .inl ⟨j, kv, q3, q4, ?_, ?_⟩, ad, n, cap, r2⟩
   ·rw [List.getElem?_eq_getElem hlt, q6]
   ·rw [mfind_at hmr.nodup q3 q4]
    exact gn1
theorem lopLookupZ_ok (hR : R X M w0 S μ ρ a w) {t : TypeId} {x i v : SV} {ps : List Push} {vx vi : Value} {ρ' : List D} (h : lopLookupZ P S t x i = .ok (v, ps))
  (hx : SVR w (Fz X S.heap μ w) S.heap.length μ ρ x vx) (hi : SVR w (Fz X S.heap μ w) S.heap.length μ ρ i vi) (hp : pushAll ps ρ = some ρ') :
  ∃ u, (Instr.lookup t vx vi false).run P w = .ok u w ∧ SVR w (Fz X S.heap μ w) S.heap.length μ ρ' v u := by
 unfold lopLookupZ at h
 split at h
 case h_2 => cases h
 rename_i β cs
 split at h
 case h_2 => cases h
 rename_i m d hb
 split at h
 case isFalse => cases h
 rename_i hmt
 obtain ⟨ks, g1, g2⟩ := bind_ok h
 split at g2
 case isFalse => cases g2
 rename_i hkn
 split at g2
 case h_2 => cases g2
 rename_i bt hmv
 obtain ⟨z, hz1, h3⟩ := bind_ok g2
 simp only [Except.ok.injEq, Prod.mk.injEq] at h3
 obtain ⟨rfl, rfl⟩ := h3
 obtain ⟨rfl, e, hM⟩ := mpOf_ok hmt
 obtain ⟨arr, rfl, hcs⟩ := hi
 obtain ⟨ns, hns, hks⟩ := keyAtoms_ok g1 hcs
 have hiv : Value.agg arr = kVal ns := by unfold kVal; rw [← hns]
 have hkl : ns.length = m.kn := by rw [← hks.length, hkn]
 obtain ⟨_, b, es, l, bt', z', q1, q2, q3, q4, q5, q6, q7⟩ := hR.blocks β _ hb
 rw [hmv] at q1
 cases q1
 rw [need_ok hz1] at q2
 cases q2
 obtain ⟨_, hxv, _⟩ := hx
 rw [hxv, q3, hiv]
 rw [show [(Prim.mkagg, ks), (.mget, [d, .v S.n, .c z])] = [(Prim.mkagg, ks)] ++ [(Prim.mget, [d, .v S.n, .c z])] from rfl, pushAll_append] at hp
 obtain ⟨ρ1, p1, p2⟩ := Option.bind_eq_some_iff.1 hp
 obtain ⟨d1, e1, rfl⟩ := pushAll_one p1
 rw [hks.evs] at e1
 simp only [Prim.ev, Option.some.injEq] at e1
 subst e1
 obtain ⟨d2, e2, rfl⟩ := pushAll_one p2
 have k1 : d.get (ρ ++ [D.agg (ns.map D.int)]) = some (.lst l) := Atom.get_append q5
 have k2 : (Atom.v S.n).get (ρ ++ [D.agg (ns.map D.int)]) = some (D.agg (ns.map D.int)) := get_new hR.len
 have k3 : (Atom.c z).get (ρ ++ [D.agg (ns.map D.int)]) = some z := rfl
 rw [evs_cons k1, evs_cons k2, evs_cons k3] at e2
 simp only [evs, List.map_nil, Prim.ev] at e2
 split at e2
 case isFalse => cases e2
 rename_i hok
 have hr := kOk_inv hok
 simp only [Option.some.injEq] at e2
 have gn : (Atom.v (S.n + 1)).get (ρ ++ [D.agg (ns.map D.int)] ++ [d2]) = some d2 := get_new (by simp [hR.len])
 obtain ⟨lx, hlx⟩ := hM.key ns hkl hr
 have hc := hM.law.check w es.isEmpty hlx
 obtain ⟨z0, zd, z1, z2, z3⟩ := hM.zb bt hmv
 rw [need_ok hz1] at z1
 cases z1
 obtain ⟨m1, m2⟩ := q7 ns hkl hr
 rcases hM.law.find w hlx es.toList (fun e0 he => by
  obtain ⟨ks', f1, f2, f3⟩ := q6 e0 he;rw [f1]
  exact hM.key ks' f2 f3) with ⟨h1, h2⟩ | ⟨j, e0, h1, h2, h3⟩
 ·refine ⟨z0, by simp [Instr.lookup, run_underlying hM.ty, MapKept.run_getObj_map q4, hc, h1, z2, Result.andThen], d2, gn, ?_⟩
  rw [← e2, m1 h2];exact z3
 ·refine ⟨e0.val, by simp [Instr.lookup, run_underlying hM.ty, MapKept.run_getObj_map q4, hc, h1, Result.andThen], d2, gn, ?_⟩
  rw [← e2];exact m2 e0 (List.mem_of_getElem? h2) h3
theorem lopLookup_ok (hR : R X M w0 S μ ρ a w) {t : TypeId} {x i v : SV} {ps : List Push} {vx vi : Value} {ρ' : List D} (h : lopLookup P S t x i = .ok (v, ps))
  (hx : SVR w (Fz X S.heap μ w) S.heap.length μ ρ x vx) (hi : SVR w (Fz X S.heap μ w) S.heap.length μ ρ i vi) (hp : pushAll ps ρ = some ρ') :
  ∃ u, (Instr.lookup t vx vi false).run P w = .ok u w ∧ SVR w (Fz X S.heap μ w) S.heap.length μ ρ' v u := by
 unfold lopLookup at h
 split at h
 ·rename_i r hz
  simp only [Except.ok.injEq] at h;subst h;exact lopLookupZ_ok hR hz hx hi hp
 ·exact lopLookupM_ok hR h hx hi hp
end
end Vs

namespace Vs
open Go Go.RowKit
section
variable {P : Program} {w : World} {F : Nat → Prop} {hl : Nat} {μ : Mu} {ρ : List D}
theorem vals_of {Pos : Nat → Value → Prop} : ∀ {cs : List (CT × Atom)}, (∀ (j : Nat) t x, cs[j]? = some (t, x) → ∃ u d, Pos j u ∧ x.get ρ = some d ∧ RdC w F t u d) →
  ∃ vs : List Value, vs.length = cs.length ∧ (∀ (j : Nat) u, vs[j]? = some u → Pos j u) ∧ CVRs w F hl μ ρ (cs.map fun (c, x) => .s (.dat c x)) vs
 | [], _ => ⟨[], rfl, by simp, trivial⟩
 | (t, x) :: cs, h => by
  obtain ⟨u, d, h1, h2, h3⟩ := h 0 t x rfl;obtain ⟨vs, hl', hv, hr⟩ := vals_of (Pos := fun j u => Pos (j + 1) u) (cs := cs) (fun j t x hj => h (j + 1) t x (by simpa using hj))
  refine ⟨u :: vs, by simp [hl'], ?_, ⟨⟨d, h2, h3⟩, hr⟩⟩
  intro j v hj
  cases j with
  | zero => simp only [List.getElem?_cons_zero, Option.some.injEq] at hj; subst hj; exact h1
  | succ j => simp only [List.getElem?_cons_succ] at hj; exact hv j v hj
theorem getElem?_part {α : Type} {cs : List α} {off sz j : Nat} {x : α} (h : ((cs.drop off).take sz)[j]? = some x) : cs[off + j]? = some x := by
 rw [List.getElem?_take] at h
 split at h
 ·rw [List.getElem?_drop] at h; exact h
 ·cases h
theorem cell_of_cells {b o : Nat} {arr : Array Value} {T : TypeId} {fr : Nat × Nat} (h : w.heap[b]? = some (.cells arr T fr)) : w.cell? ⟨b, o, none⟩ = arr[o]? := by simp [World.cell?, h]
theorem list_of_arr {arr : Array Value} {off sz j : Nat} {u : Value} (h : ((arr.toList.drop off).take sz)[j]? = some u) : arr[off + j]? = some u := by
 have := getElem?_part h
 simpa using this
end
theorem fvals_of {w : World} {F : Nat → Prop} {hl : Nat} {μ : Mu} {ρ : List D} {Pos : Nat → Value → Prop} : ∀ {cs : List FC}, (∀ (j : Nat) c, cs[j]? = some c → ∃ u, Pos j u ∧ FCR w F hl μ ρ c u) →
  ∃ vs : List Value, vs.length = cs.length ∧ (∀ (j : Nat) u, vs[j]? = some u → Pos j u) ∧ CVRs w F hl μ ρ (cs.map FC.cv) vs := by
 intro cs
 induction cs generalizing Pos with
 | nil => intro _; exact ⟨[], rfl, by simp, trivial⟩
 | cons c cs ih =>
  intro h;obtain ⟨u, h1, h2⟩ := h 0 c rfl;obtain ⟨vs, hl', hv, hr⟩ := ih (Pos := fun j => Pos (j + 1)) (fun j c hj => h (j + 1) c (by simpa using hj))
  refine ⟨u :: vs, by simp [hl'], fun j v hj => ?_, FCR_cv.1 h2, hr⟩
  cases j with
  | zero => simp only [List.getElem?_cons_zero, Option.some.injEq] at hj; subst hj; exact h1
  | succ j => simp only [List.getElem?_cons_succ] at hj; exact hv j v hj
section
variable {P : Program} {X : Nat → Prop} {M : Hand} {w0 w : World} {S : SS} {μ : Mu} {ρ : List D} {a : Act}
theorem lopLoad_ok {t : TypeId} {p v : SV} {ps : List Push} {va : Value} {ρ' : List D} (h : lopLoad P S t p = .ok (v, ps)) (hR : R X M w0 S μ ρ a w)
  (hv : SVR w (Fz X S.heap μ w) S.heap.length μ ρ p va) (hp : pushAll ps ρ = some ρ') :
  ∃ u, (Instr.loadAt t va).run P w = .ok u w ∧ SVR w (Fz X S.heap μ w) S.heap.length μ ρ' v u := by
 unfold lopLoad at h
 obtain ⟨ag, ha0, h1⟩ := bind_ok h
 obtain ⟨sz, hz0, h2⟩ := bind_ok h1
 have ha := need_ok ha0
 have hz := need_ok hz0
 clear h h1 ha0 hz0
 rename _ = Except.ok _ => h
 split at h
 ·
  rename_i β off;obtain ⟨_, b, hb, rfl⟩ := hv;split at h
  ·rename_i cs hcs
   obtain ⟨_, b', arr, T, hb', _, hheap, hC⟩ := hR.blocks β _ hcs;rw [hb] at hb';simp only [Value.pointer.injEq, Option.some.injEq, Addr.mk.injEq, and_true] at hb';subst hb'
   dsimp only at h
   split at h
   ·rename_i hlen
    obtain ⟨s, hs, h⟩ := bind_ok h;simp only [Except.ok.injEq, Prod.mk.injEq] at h;obtain ⟨rfl, rfl⟩ := h;simp only [pushAll, Option.some.injEq] at hp;subst hp;have hC' := (hC.drop off).take sz;have hvl : ((arr.toList.drop off).take sz).length = sz := by rw [← hC'.length]; exact hlen.1
    refine ⟨_, ?_, mkSV_ok (need_ok hs) hC'⟩;simp only [Instr.loadAt, Instr.sureAddr, Sem.run_bind, Sem.run_pure, Result.andThen_ok];exact loadVar_ok ha hz hvl (fun j u hu => by rw [cell_of_cells hheap]; exact list_of_arr hu) hlen.2 w rfl
   ·cases h
  ·
   rename_i ts x hcs;obtain ⟨_, b', arr, T, ds, hb', _, hheap, hx, hC⟩ := hR.blocks β _ hcs;rw [hb] at hb';simp only [Value.pointer.injEq, Option.some.injEq, Addr.mk.injEq, and_true] at hb';subst hb'
   dsimp only at h
   split at h
   ·rename_i hlen
    obtain ⟨s, hs, h⟩ := bind_ok h;simp only [Except.ok.injEq, Prod.mk.injEq] at h;obtain ⟨rfl, rfl⟩ := h;have hpr := proj_push (ts := (ts.drop off).take sz) hx hp;obtain ⟨vs, hvl, hvc, hC'⟩ := vals_of (w := w) (F := Fz X S.heap μ w) (Pos := fun j u => w.cell? ⟨b, off + j, none⟩ = some u) (hl := S.heap.length) (μ := μ) (ρ := ρ')
      (cs := ((ts.drop off).take sz).zipIdx.map fun (c, j) => (c, Atom.v (S.n + j))) (fun j t y hj => by
     rw [List.getElem?_map, List.getElem?_zipIdx] at hj
     cases hb : ((ts.drop off).take sz)[j]? with
     | none => rw [hb] at hj; cases hj
     | some t' =>
      rw [hb] at hj;simp only [Option.map_some, Option.some.injEq, Prod.mk.injEq, Nat.zero_add] at hj;obtain ⟨rfl, rfl⟩ := hj;obtain ⟨u, d, h1, h2, h3⟩ := RdCs.get hC (getElem?_part hb);obtain ⟨_, h5, _⟩ := hpr j (List.getElem?_eq_some_iff.1 hb).1;refine ⟨u, d, ?_, ?_, h3⟩
      ·rw [cell_of_cells hheap]; simpa using h1
      ·show ρ'[S.n + j]? = some d
       rw [← hR.len, h5, h2])
    refine ⟨_, ?_, mkSV_ok (need_ok hs) hC'⟩;simp only [Instr.loadAt, Instr.sureAddr, Sem.run_bind, Sem.run_pure, Result.andThen_ok];exact loadVar_ok ha hz (hvl.trans (by simpa using hlen.1)) hvc hlen.2 w rfl
   ·cases h
  ·cases h
 ·
  rename_i cs off;obtain ⟨b, o, rfl, _, hc⟩ := hv
  dsimp only at h
  split at h
  ·rename_i hlen
   obtain ⟨s, hs, h⟩ := bind_ok h;simp only [Except.ok.injEq, Prod.mk.injEq] at h;obtain ⟨rfl, rfl⟩ := h;simp only [pushAll, Option.some.injEq] at hp;subst hp
   obtain ⟨vs, hvl, hvc, hC⟩ := fvals_of (w := w) (F := Fz X S.heap μ w) (ρ := ρ) (cs := (cs.drop off).take sz) (Pos := fun j u => w.cell? ⟨b, o + off + j, none⟩ = some u) (hl := S.heap.length) (μ := μ) (fun j c hj => by
    have := hc (off + j) c (getElem?_part hj);rw [Nat.add_assoc]
    exact this)
   refine ⟨_, ?_, mkSV_ok (need_ok hs) hC⟩;simp only [Instr.loadAt, Instr.sureAddr, Sem.run_bind, Sem.run_pure, Result.andThen_ok];exact loadVar_ok ha hz (hvl.trans hlen.1) hvc hlen.2 w rfl
  ·cases h
 ·
  rename_i β i sz' off;obtain ⟨hv1, b, len, cap, n, hb, hi, h0, hn, rfl⟩ := hv;split at h
  ·rename_i rt e x hrow
   obtain ⟨_, m, xs, ls, hown, _, hx, hm, hrd⟩ := hR.blocks β _ hrow
   dsimp only at h
   split at h
   ·rename_i hlen
    obtain ⟨s, hs, h⟩ := bind_ok h;simp only [Except.ok.injEq, Prod.mk.injEq] at h;obtain ⟨rfl, rfl⟩ := h;simp only [pushAll, evs, List.map_cons, List.map_nil, Atom.ev_of_get hx, Atom.ev_of_get hi, Prim.ev, List.length_map] at hp
    rcases hown.2 with ⟨hnil, _⟩ | ⟨g, cap', cur, hsl, _, hheap, _, _, _, htake⟩
    ·rw [hb] at hnil; cases hnil
    rw [hb] at hsl;simp only [Value.slice.injEq, Option.some.injEq, Addr.mk.injEq, and_true] at hsl;obtain ⟨rfl, rfl, rfl⟩ := hsl;have hlt : n.toNat < ls.length := by omega
    obtain ⟨l, hl⟩ : ∃ l, ls[n.toNat]? = some l := ⟨_, List.getElem?_eq_getElem hlt⟩;rw [if_pos (by omega)] at hp
    simp only [List.getElem?_map, hl, Option.map_some] at hp;obtain ⟨c, hc, hcx⟩ := rowRd_get hrd hl;have hn1 : (ρ ++ [unflat (rowAgg rt) l]).length = S.n + 1 := by simp [hR.len]
    rw [← hn1] at hp hs hlen;have hgo := elemCells_ok (w := w) (F := Fz X S.heap μ w) (t := rt) (x := .v S.n) (ρ := ρ ++ [unflat (rowAgg rt) l]) (get_new hR.len) hc hp;obtain ⟨vs, hvl, hvc, hC⟩ := vals_of (w := w) (F := Fz X S.heap μ w) (Pos := fun j u => w.cell? ⟨b, n.toNat * sz' + off + j, none⟩ = some u) (hl := S.heap.length) (μ := μ) (ρ := ρ')
      (cs := ((elemCells (ρ ++ [unflat (rowAgg rt) l]).length rt (.v S.n)).1.drop off).take sz) (fun j t x hj => by
     obtain ⟨u, d, hu, hd, hr⟩ := hgo (off + j) t x (getElem?_part hj);refine ⟨u, d, ?_, hd, hr⟩;have := hcx _ _ hu;rw [cell_of_cells hheap];rw [← htake] at this;rw [List.getElem?_take] at this;split at this
     ·rw [hlen.1, Nat.add_assoc]
      simpa using this
     ·cases this)
    refine ⟨_, ?_, mkSV_ok (need_ok hs) hC⟩;simp only [Instr.loadAt, Instr.sureAddr, Sem.run_bind, Sem.run_pure, Result.andThen_ok];exact loadVar_ok ha hz (hvl.trans hlen.2.1) hvc hlen.2.2 w rfl
   ·cases h
  ·
   rename_i et e' e ver x hrow;obtain ⟨hh, m, ls, hown, _, hx, hm, ⟨hrl, hrd⟩, _⟩ := hR.blocks β _ hrow;split at h
   ·rename_i hc
    obtain ⟨rfl, rfl, rfl, rfl⟩ := hc;simp only [Except.ok.injEq, Prod.mk.injEq] at h;obtain ⟨rfl, rfl⟩ := h;obtain ⟨dd, hd, rfl⟩ := pushAll_one hp;simp only [evs, List.map_cons, List.map_nil, Atom.ev_of_get hx, Atom.ev_of_get hi, rowsDat, Prim.ev, List.length_map] at hd
    rcases hown.2 with ⟨hnil, _⟩ | ⟨g, cap', cur, hsl, _, hheap, _, _, _, htake⟩
    ·rw [hb] at hnil; cases hnil
    rw [hb] at hsl;simp only [Value.slice.injEq, Option.some.injEq, Addr.mk.injEq, and_true] at hsl;obtain ⟨rfl, rfl, rfl⟩ := hsl;rw [if_pos ⟨h0, by omega⟩] at hd
    have hil : (μ β).inner.length = len := by have := hown.1; omega
    have hlt : n.toNat < (μ β).inner.length := by omega
    obtain ⟨uu, hu⟩ : ∃ u, (μ β).inner[n.toNat]? = some u := ⟨_, List.getElem?_eq_getElem hlt⟩;have hll : n.toNat < ls.length := by omega
    obtain ⟨k, ys, hk, _⟩ := hrd n.toNat _ _ hu (List.getElem?_eq_getElem hll);obtain ⟨a', cap'', hsl'⟩ := ownsRow_slice hk;have hcell : w.cell? ⟨b, n.toNat, none⟩ = some uu := by
     rw [cell_of_cells hheap];have h2 := hu;rw [← htake, List.getElem?_take] at h2;split at h2
     ·simpa using h2
     ·cases h2
    refine ⟨uu, ?_, hv1, (μ β).inner, MV.hist_last hh, _, n.toNat, dd, Atom.get_append hx, by rw [Int.toNat_of_nonneg h0]; exact Atom.get_append hi, hd, hu, get_new hR.len, a', k, cap'', hsl'⟩
    simp only [Instr.loadAt, Instr.sureAddr, Sem.run_bind, Sem.run_pure, Result.andThen_ok]
    have := loadVar_ok (P := P) (w := w) (b := b) (o := n.toNat * 1 + 0) (vs := [uu]) ha hz rfl (fun j u hu' => by
     cases j with
     | zero => simp only [List.getElem?_cons_zero, Option.some.injEq] at hu'; subst hu'; simpa using hcell
     | succ j => simp at hu') (by decide) w rfl
    simpa using this
   ·cases h
  ·cases h
 ·
  rename_i β ver d ks y i;split at h
  ·rename_i et e hnow
   split at h
   ·rename_i hc
    obtain ⟨rfl, rfl, hag⟩ := hc;split at h
    ·rename_i ct hcells
     simp only [Except.ok.injEq, Prod.mk.injEq] at h;obtain ⟨rfl, rfl⟩ := h;obtain ⟨_, l, u, hl, hm, b, len, cap, n, hu, hi, h0, hn, rfl⟩ := hv;obtain ⟨k, xs, ls, hown, hy, hk, hrd⟩ := mapNow_ok hR hnow hl hm
     rcases hown.2 with ⟨hnil, _⟩ | ⟨g, cap', cur, hsl, _, hheap, _, _, _, htake⟩
     ·rw [hu] at hnil; cases hnil
     rw [hu] at hsl;simp only [Value.slice.injEq, Option.some.injEq, Addr.mk.injEq, and_true] at hsl;obtain ⟨rfl, rfl, rfl⟩ := hsl;obtain ⟨dd, hd, rfl⟩ := pushAll_one hp;simp only [evs, List.map_cons, List.map_nil, Atom.ev_of_get hy, Atom.ev_of_get hi, Prim.ev, List.length_map] at hd;have hlt : n.toNat < ls.length := by omega
     obtain ⟨l0, hl0⟩ : ∃ l0, ls[n.toNat]? = some l0 := ⟨_, List.getElem?_eq_getElem hlt⟩;rw [if_pos ⟨h0, by omega⟩, List.getElem?_map, hl0, hag] at hd
     simp only [Option.map_some, Option.some.injEq] at hd;subst hd;obtain ⟨c, hcc, hcx⟩ := RdRow.get hrd hl0;rw [hcells] at hcc hcx;obtain ⟨e1, e2⟩ := hcc.length;obtain ⟨uu, rfl⟩ := List.length_eq_one_iff.1 e1;obtain ⟨dd, rfl⟩ := List.length_eq_one_iff.1 e2;have hq := hcc.1;have hx0 := hcx 0 uu rfl;have hcell : w.cell? ⟨b, n.toNat, none⟩ = some uu := by
      rw [cell_of_cells hheap];rw [← htake, List.getElem?_take] at hx0;split at hx0
      ·simpa using hx0
      ·cases hx0
     refine ⟨uu, ?_, dd, get_new hR.len, hq⟩;simp only [Instr.loadAt, Instr.sureAddr, Sem.run_bind, Sem.run_pure, Result.andThen_ok]
     exact loadVar_ok (P := P) (w := w) (b := b) (o := n.toNat) (vs := [uu]) ha hz rfl (fun j v hv => by
      cases j with
      | zero => simp only [List.getElem?_cons_zero, Option.some.injEq] at hv; subst hv; simpa using hcell
      | succ j => simp at hv) (by decide) w rfl
    ·cases h
   ·cases h
  ·cases h
 ·
  rename_i β ver d j y ix sz' off;split at h
  ·rename_i et e hnow
   dsimp only at h
   split at h
   ·rename_i hlen
    obtain ⟨s, hs, h⟩ := bind_ok h;simp only [Except.ok.injEq, Prod.mk.injEq] at h;obtain ⟨rfl, rfl⟩ := h;obtain ⟨_, l, u, hl, hm, b, len, cap, n, hu, hi, h0, hn, rfl⟩ := hv;obtain ⟨⟨k, xs, ls, hown, hy, hk, hrd⟩, _⟩ := rowsNow_ok hR hnow hl hm;simp only [pushAll, evs, List.map_cons, List.map_nil, Atom.ev_of_get hy, Atom.ev_of_get hi, Prim.ev, List.length_map] at hp
    rcases hown.2 with ⟨hnil, _⟩ | ⟨g, cap', cur, hsl, _, hheap, _, _, _, htake⟩
    ·rw [hu] at hnil; cases hnil
    rw [hu] at hsl;simp only [Value.slice.injEq, Option.some.injEq, Addr.mk.injEq, and_true] at hsl;obtain ⟨rfl, rfl, rfl⟩ := hsl;have hlt : n.toNat < ls.length := by omega
    obtain ⟨l0, hl0⟩ : ∃ l0, ls[n.toNat]? = some l0 := ⟨_, List.getElem?_eq_getElem hlt⟩;rw [if_pos ⟨h0, by omega⟩] at hp
    simp only [List.getElem?_map, hl0, Option.map_some] at hp;obtain ⟨c, hc, hcx⟩ := rowRd_get (w := w) (F := Fz X S.heap μ w) (t := .s1 et) hrd hl0;have hn1 : (ρ ++ [unflat et.agg l0]).length = S.n + 1 := by simp [hR.len]
    rw [← hn1] at hp hs hlen;have hgo := elemCells_ok (w := w) (F := Fz X S.heap μ w) (t := .s1 et) (x := .v S.n) (ρ := ρ ++ [unflat et.agg l0]) (get_new hR.len) hc hp;obtain ⟨vs, hvl, hvc, hC⟩ := vals_of (w := w) (F := Fz X S.heap μ w) (Pos := fun j u => w.cell? ⟨b, n.toNat * sz' + off + j, none⟩ = some u) (hl := S.heap.length) (μ := μ) (ρ := ρ')
      (cs := ((elemCells (ρ ++ [unflat et.agg l0]).length (.s1 et) (.v S.n)).1.drop off).take sz) (fun j t x hj => by
     obtain ⟨u, d, hu, hd, hr⟩ := hgo (off + j) t x (getElem?_part hj);refine ⟨u, d, ?_, hd, hr⟩;have := hcx _ _ hu;rw [cell_of_cells hheap];rw [← htake] at this;rw [List.getElem?_take] at this;split at this
     ·rw [hlen.1, Nat.add_assoc]
      simpa [rowSz] using this
     ·cases this)
    refine ⟨_, ?_, mkSV_ok (need_ok hs) hC⟩;simp only [Instr.loadAt, Instr.sureAddr, Sem.run_bind, Sem.run_pure, Result.andThen_ok];exact loadVar_ok ha hz (hvl.trans hlen.2.1) hvc hlen.2.2 w rfl
   ·cases h
  ·cases h
 ·cases h
end
section
variable {P : Program} {w : World} {F : Nat → Prop} {hl : Nat} {μ : Mu} {ρ : List D}
theorem lopFieldAddr_ok {s : TypeId} {p v : SV} {f : Nat} {ps : List Push} {va : Value} (h : lopFieldAddr P s p f = .ok (v, ps)) (hv : SVR w F hl μ ρ p va) :
  ps = [] ∧ ∃ u, (Instr.fieldAt s va f).run P w = .ok u w ∧ SVR w F hl μ ρ v u := by
 unfold lopFieldAddr at h
 split at h
 ·rename_i fs hs
  split at h
  ·rename_i fd hf
   split at h
   ·rename_i hz
    obtain ⟨q, hq, h⟩ := bind_ok h;simp only [Except.ok.injEq, Prod.mk.injEq] at h;obtain ⟨rfl, rfl⟩ := h;obtain ⟨b, o, rfl, hq'⟩ := ptrAdd_ok hq hv;refine ⟨rfl, _, ?_, hq'⟩
    cases hsz : sizeB P fd.type with
    | none => simp [hsz] at hz
    | some k =>
     have hk : k ≠ 0 := by simp [hsz] at hz; omega
     simp only [Instr.fieldAt, Sem.run_bind, run_underlying hs, Result.andThen_ok, hf, Instr.sureAddr, Sem.run_pure, fieldPlace, sizeB_run hsz, hk, if_false, addr_add]
   ·cases h
  ·cases h
 ·cases h
theorem atomNat_ok {x : Atom} {k : Nat} (h : atomNat x = some k) : x.get ρ = some (.int k) := by
 unfold atomNat at h
 split at h
 ·rename_i i
  split at h
  ·rename_i hi
   simp only [Option.some.injEq] at h;subst h;simp only [Atom.get];rw [Int.toNat_of_nonneg hi]
  ·cases h
 ·cases h
theorem rd_nat {x : Atom} {k : IntKind} {v : Value} {j : Nat} (h : SVR w F hl μ ρ (.c (.s (.dat (.b (.int k)) x))) v) (hj : atomNat x = some j) : v = .int k j := by
 obtain ⟨n, rfl, hx⟩ := rd_int h
 rw [atomNat_ok hj] at hx
 simp only [Option.some.injEq, D.int.injEq] at hx
 rw [hx]
theorem lopPart_ok {t : TypeId} {cs : List CV} {off : Nat} {v : SV} {ps : List Push} {arr : Array Value} (h : lopPart P t cs off = .ok (v, ps)) (hc : CVRs w F hl μ ρ cs arr.toList) :
  ps = [] ∧ ∃ u, (part t arr off).run P w = .ok u w ∧ SVR w F hl μ ρ v u := by
 unfold lopPart at h
 obtain ⟨ag, ha0, h1⟩ := bind_ok h
 obtain ⟨sz, hz0, h2⟩ := bind_ok h1
 have ha := need_ok ha0
 have hz := need_ok hz0
 clear h h1 ha0 hz0
 rename _ = Except.ok _ => h
 dsimp only at h
 split at h
 ·rename_i hlen
  obtain ⟨s, hs, h⟩ := bind_ok h;simp only [Except.ok.injEq, Prod.mk.injEq] at h;obtain ⟨rfl, rfl⟩ := h;have hC := (hc.drop off).take sz;have hvl : ((arr.toList.drop off).take sz).length = sz := by rw [← hC.length]; exact hlen.1
  refine ⟨rfl, _, ?_, mkSV_ok (need_ok hs) hC⟩;unfold part;simp only [Sem.run_bind, isAggB_run ha, Result.andThen_ok]
  cases ag with
  | true =>
   have e : (arr.extract off (off + sz)) = ((arr.toList.drop off).take sz).toArray := by apply Array.ext';simp [List.take_drop]
   simp [sizeB_run hz, e]
  | false =>
   have h1 : sz ≠ 0 := by omega
   have h2 : off < arr.size := by simp at hvl; omega
   simp only [Bool.false_eq_true, if_false];have e1 : arr[off]? = some arr[off] := Array.getElem?_eq_getElem h2;rw [e1];simp only [Sem.run_pure]
   congr 1
   have e2 : ((arr.toList.drop off).take sz).head? = some arr[off] := by rw [List.head?_take, if_neg h1, List.head?_drop];simp [e1]
   cases hq : (arr.toList.drop off).take sz with
   | nil => simp [hq] at e2
   | cons y ys => simp only [hq, List.head?_cons, Option.some.injEq] at e2; simp [e2]
 ·cases h
theorem lopField_ok {t : TypeId} {x v : SV} {f : Nat} {ps : List Push} {va : Value} (h : lopField P t x f = .ok (v, ps)) (hv : SVR w F hl μ ρ x va) :
  ps = [] ∧ ∃ u, (Instr.field t va f).run P w = .ok u w ∧ SVR w F hl μ ρ v u := by
 unfold lopField at h
 split at h
 ·rename_i fs cs hs
  obtain ⟨arr, rfl, hc⟩ := hv;split at h
  ·rename_i fd hf
   obtain ⟨e, u, hu, hr⟩ := lopPart_ok h hc;refine ⟨e, u, ?_, hr⟩;simp only [Instr.field, Sem.run_bind, run_underlying hs, Result.andThen_ok, hf, asAgg, Sem.run_pure];exact hu
  ·cases h
 ·cases h
theorem lopIndex_ok {t : TypeId} {x i v : SV} {ps : List Push} {va vi : Value} (h : lopIndex P t x i = .ok (v, ps)) (hv : SVR w F hl μ ρ x va) (hi : SVR w F hl μ ρ i vi) :
  ps = [] ∧ ∃ u, (Instr.index t va vi).run P w = .ok u w ∧ SVR w F hl μ ρ v u := by
 unfold lopIndex at h
 split at h
 ·rename_i len e cs k ix hs
  obtain ⟨arr, rfl, hc⟩ := hv;split at h
  ·rename_i j sz hj hz
   have := rd_nat hi hj;subst this;split at h
   ·rename_i hlt
    obtain ⟨e', u, hu, hr⟩ := lopPart_ok h hc;refine ⟨e', u, ?_, hr⟩;simp only [Instr.index, asIntOf, Sem.run_bind, Sem.run_pure, Result.andThen_ok, run_underlying hs];rw [if_pos (by omega)]
    simp only [Sem.run_bind, sizeB_run hz, Result.andThen_ok, Int.toNat_natCast];exact hu
   ·cases h
  ·cases h
 ·cases h
end
end Vs

