/-
  The symbolic executor: from the model's code to the language of Vs1. Everything here is a computable function; nothing is claimed yet.
-/
import Derived.Test.YthgocnlbnghbbaaVs1
namespace Vs
open Go

/-! ### Types of cells -/
inductive BT where
  | int (k : IntKind) | bool | flt (k : FloatKind) | str
  deriving DecidableEq
/-- What a slice holds: elements of these cells; 'agg': a struct or an array. -/
structure ET where
  agg : Bool
  cells : List BT
  deriving DecidableEq
/-- The type of one cell: a plain one, a slice of plain elements, a slice of slices of plain elements. -/
inductive CT where
  | b (t : BT) | s1 (e : ET) | s2 (e : ET)
  deriving DecidableEq

def rowAgg : CT → Bool | .s1 e => e.agg | _ => false
def rowSz : CT → Nat | .s1 e => e.cells.length | _ => 1
/-- The cell types of an element of a slice of this type. -/
def rowCells : CT → List CT | .s1 e => e.cells.map .b | .s2 e => [.s1 e] | .b _ => []

/-! ### Symbolic values -/
inductive CV0 where
  | undef
  | nils
  | dat (t : CT) (x : Atom)
  | own (β : Nat)
  | vptr (β off : Nat)
  | eptr (β : Nat) (i : Atom) (sz off : Nat)
  | fcel (cs : List (CT × Atom)) (off : Nat)
inductive CV where
  | s (c : CV0)
  | fn (f : FuncId) (caps : List CV0)
inductive SV where
  | c (x : CV)
  | agg (cs : List CV)
  | tup (vs : List (Bool × List CV))
  | gd (g : Atom) (w : Bool) (s : SV)
inductive SB where
  | dead
  | hid
  | var (cs : List CV)
  | row (t : CT) (e : TypeId) (x : Atom)
structure SS where
  n : Nat
  slots : List SV
  heap : List SB

abbrev Res := Except String
def need {α : Type} (o : Option α) (why : String) : Res α := match o with | some a => .ok a | none => .error why

def SV.undef : SV := .c (.s .undef)
def dat (t : CT) (x : Atom) : SV := .c (.s (.dat t x))
def bdat (t : BT) (x : Atom) : SV := .c (.s (.dat (.b t) x))

/-! ### Types of the program -/
def ctOf (P : Program) (t : TypeId) : Option BT :=
  match P.underlying t with
  | some .bool => some .bool | some (.int k) => some (.int k) | some (.float k) => some (.flt k) | some .string => some .str | _ => none
/-- The plain cells of a type: 'true' for a struct or an array. -/
def plainCells (P : Program) : Nat → TypeId → Option (Bool × List BT)
  | 0, _ => none
  | d + 1, t =>
    match P.underlying t with
    | some (.struct fs) => (fs.toList.foldr (fun f acc => match acc, plainCells P d f.type with | some l, some (_, cs) => some (cs ++ l) | _, _ => none) (some [])).map fun l => (true, l)
    | some (.array n e) => (plainCells P d e).map fun (_, cs) => (true, (List.replicate n cs).flatten)
    | _ => (ctOf P t).map fun b => (false, [b])
def etOf (P : Program) (t : TypeId) : Option ET := (plainCells P 8 t).map fun (a, cs) => ⟨a, cs⟩
def cellTy (P : Program) (t : TypeId) : Option CT :=
  match P.underlying t with
  | some (.slice e) =>
    match P.underlying e with
    | some (.slice e') => (etOf P e').map .s2
    | _ => (etOf P e).map .s1
  | _ => (ctOf P t).map .b
/-- The cells of a type that may hold slices. -/
def allCells (P : Program) : Nat → TypeId → Option (Bool × List CT)
  | 0, _ => none
  | d + 1, t =>
    match P.underlying t with
    | some (.struct fs) => (fs.toList.foldr (fun f acc => match acc, allCells P d f.type with | some l, some (_, cs) => some (cs ++ l) | _, _ => none) (some [])).map fun l => (true, l)
    | some (.array n e) => (allCells P d e).map fun (_, cs) => (true, (List.replicate n cs).flatten)
    | _ => (cellTy P t).map fun b => (false, [b])

def isAggB (P : Program) (t : TypeId) : Option Bool :=
  match P.underlying t with
  | some (.struct _) | some (.array _ _) => some true
  | some _ => some false
  | none => none
def sizeB (P : Program) (t : TypeId) : Option Nat := (P.info? t).map (·.size)

/-! ### Literals -/
def litCell : Value → Option CV0
  | .int k n => some (.dat (.b (.int k)) (.c (.int n)))
  | .bool b => some (.dat (.b .bool) (.c (.bool b)))
  | .float k x => some (.dat (.b (.flt k)) (.c (.flt (canon k x))))
  | .string s => some (.dat (.b .str) (.c (.str s)))
  | .slice none 0 0 => some .nils
  | _ => none
def litCells : List Value → Option (List CV)
  | [] => some []
  | v :: vs => match litCell v, litCells vs with | some c, some cs => some (.s c :: cs) | _, _ => none
def litSV (v : Value) : Option SV :=
  match v with
  | .agg cs => (litCells cs.toList).map .agg
  | v => (litCell v).map fun c => .c (.s c)

/-! ### Effects -/
abbrev Push := Prim × List Atom
/-- What a local operation leaves: its value, and what is pushed on the environment. -/
abbrev Loc := SV × List Push

def getSV (S : SS) : Operand → Res SV
  | .tmp t => need S.slots[t]? "slot"
  | .const v => need (litSV v) "const"
  | .func f => .ok (.c (.fn f []))
  | .global _ => .error "global"

/-- An operand of an operation under a guard: what holds under the same guard holds here. -/
def strip (g : Guard) (s : SV) : SV :=
  match g, s with
  | some (.v i, w), .gd (.v j) w' s' => if i = j ∧ w = w' then s' else s
  | _, s => s

def svCells : SV → Option (Bool × List CV)
  | .c x => some (false, [x])
  | .agg cs => some (true, cs)
  | _ => none
def mkSV (agg : Bool) (cs : List CV) : Option SV :=
  if agg then some (.agg cs) else match cs with | [x] => some (.c x) | _ => none

def isBoolT (P : Program) (t : TypeId) : Bool := match P.underlying t with | some .bool => true | _ => false
def lopBin (n : Nat) (op : BinOp) (bt : Bool) (a b : SV) : Res Loc :=
  match a, b with
  | .c (.s (.dat (.b (.int k)) x)), .c (.s (.dat (.b (.int k')) y)) =>
    match op with
    | .shl | .shr => .ok (bdat (.int k) (.v n), [(.shf op k, [x, y])])
    | .add | .sub | .mul => if k = k' then .ok (bdat (.int k) (.v n), [(.iar op k, [x, y])]) else .error "kinds"
    | .quo | .rem => if k = k' then .ok (bdat (.int k) (.v n), [(.idv op k, [x, y])]) else .error "kinds"
    | .and | .or | .xor | .andNot => if k = k' then .ok (bdat (.int k) (.v n), [(.ibt op k, [x, y])]) else .error "kinds"
    | .eql | .neq | .lss | .leq | .gtr | .geq => if k = k' then .ok (bdat .bool (.v n), [(.icm op, [x, y])]) else .error "kinds"
  | .c (.s (.dat (.b (.flt k)) x)), .c (.s (.dat (.b (.flt k')) y)) =>
    if k = k' then
      match op with
      | .add | .sub | .mul | .quo => .ok (bdat (.flt k) (.v n), [(.far op k, [x, y])])
      | .eql | .neq | .lss | .leq | .gtr | .geq => .ok (bdat .bool (.v n), [(.fcm op k, [x, y])])
      | _ => .error "float op"
    else .error "kinds"
  | .c (.s (.dat (.b .bool) x)), .c (.s (.dat (.b .bool) y)) =>
    if bt = true then
      match op with
      | .eql => .ok (bdat .bool (.v n), [(.beq, [x, y])])
      | .neq => .ok (bdat .bool (.v n), [(.bne, [x, y])])
      | _ => .error "bool op"
    else .error "bool type"
  | _, _ => .error "binop"

def lopConv (P : Program) (n : Nat) (src dst : TypeId) (a : SV) : Res Loc :=
  match P.underlying src, P.underlying dst, a with
  | some _, some (.int k), .c (.s (.dat (.b (.int _)) x)) => .ok (bdat (.int k) (.v n), [(.i2i k, [x])])
  | some _, some (.float k), .c (.s (.dat (.b (.int _)) x)) => .ok (bdat (.flt k) (.v n), [(.i2f k, [x])])
  | some _, some (.int k), .c (.s (.dat (.b (.flt s)) x)) => .ok (bdat (.int k) (.v n), [(.f2i s k, [x])])
  | some _, some (.float k), .c (.s (.dat (.b (.flt s)) x)) => .ok (bdat (.flt k) (.v n), [(.f2f s k, [x])])
  | _, _, _ => .error "convert"

/-- The cells of element data 'x' of a slice of type t, from environment place n on. -/
def elemCells (n : Nat) (t : CT) (x : Atom) : List (CT × Atom) × List Push :=
  if rowAgg t then
    ((rowCells t).zipIdx.map fun (c, j) => (c, .v (n + j)), (rowCells t).zipIdx.map fun (_, j) => (.proj j, [x]))
  else (match rowCells t with | [c] => [(c, x)] | _ => [], [])

def ptrAdd (s : SV) (k : Nat) : Res SV :=
  match s with
  | .c (.s (.vptr β off)) => .ok (.c (.s (.vptr β (off + k))))
  | .c (.s (.eptr β i sz off)) => .ok (.c (.s (.eptr β i sz (off + k))))
  | .c (.s (.fcel cs off)) => .ok (.c (.s (.fcel cs (off + k))))
  | _ => .error "pointer"

def lopLoad (P : Program) (S : SS) (t : TypeId) (p : SV) : Res Loc := do
  let agg ← need (isAggB P t) "load type"
  let sz ← need (sizeB P t) "load size"
  match p with
  | .c (.s (.vptr β off)) =>
    match S.heap[β]? with
    | some (.var cs) =>
      let part := (cs.drop off).take sz
      if part.length = sz ∧ 0 < sz then do let s ← need (mkSV agg part) "load shape"; .ok (s, []) else .error "load part"
    | _ => .error "load block"
  | .c (.s (.fcel cs off)) =>
    let part := (cs.drop off).take sz
    if part.length = sz ∧ 0 < sz then do let s ← need (mkSV agg (part.map fun (c, x) => .s (.dat c x))) "load shape"; .ok (s, []) else .error "load part"
  | .c (.s (.eptr β i sz' off)) =>
    match S.heap[β]? with
    | some (.row rt _ x) =>
      let (cells, ps) := elemCells (S.n + 1) rt (.v S.n)
      let part := (cells.drop off).take sz
      if sz' = rowSz rt ∧ part.length = sz ∧ 0 < sz then do
        let s ← need (mkSV agg (part.map fun (c, x) => .s (.dat c x))) "load shape"; .ok (s, (.idx, [x, i]) :: ps)
      else .error "load part"
    | _ => .error "load row"
  | _ => .error "load"

def lopFieldAddr (P : Program) (s : TypeId) (p : SV) (f : Nat) : Res Loc :=
  match P.underlying s with
  | some (.struct fs) =>
    match fs[f]? with
    | some fd => if (sizeB P fd.type).any (0 < ·) then do let q ← ptrAdd p fd.offset; .ok (q, []) else .error "field size"
    | none => .error "field"
  | _ => .error "fieldAddr"

def atomNat : Atom → Option Nat
  | .c (.int i) => if 0 ≤ i then some i.toNat else none
  | _ => none

def lopIndexAddr (P : Program) (S : SS) (t : TypeId) (x i : SV) : Res Loc :=
  match P.underlying t, i with
  | some (.slice e), .c (.s (.dat (.b (.int _)) ix)) =>
    match x with
    | .c (.s (.dat (.s1 et) l)) =>
      if sizeB P e = some et.cells.length then
        let (cells, ps) := elemCells (S.n + 1) (.s1 et) (.v S.n)
        .ok (.c (.s (.fcel cells 0)), (.idx, [l, ix]) :: ps)
      else .error "index size"
    | .c (.s (.dat (.s2 et) l)) =>
      if sizeB P e = some 1 then .ok (.c (.s (.fcel [(.s1 et, .v S.n)] 0)), [(.idx, [l, ix])]) else .error "index size"
    | .c (.s (.own β)) =>
      match S.heap[β]? with
      | some (.row rt _ l) => if sizeB P e = some (rowSz rt) then .ok (.c (.s (.eptr β ix (rowSz rt) 0)), [(.idx, [l, ix])]) else .error "index size"
      | _ => .error "index own"
    | _ => .error "index slice"
  | some (.array len e), .c (.s (.dat (.b (.int _)) ix)) =>
    match atomNat ix, sizeB P e with
    | some k, some sz => if k < len then do let q ← ptrAdd x (k * sz); .ok (q, []) else .error "array index"
    | _, _ => .error "array index"
  | _, _ => .error "indexAddr"

def lopPart (P : Program) (t : TypeId) (cs : List CV) (off : Nat) : Res Loc := do
  let agg ← need (isAggB P t) "part type"
  let sz ← need (sizeB P t) "part size"
  let part := (cs.drop off).take sz
  if part.length = sz ∧ 0 < sz then do let s ← need (mkSV agg part) "part shape"; .ok (s, []) else .error "part"

def lopField (P : Program) (t : TypeId) (x : SV) (f : Nat) : Res Loc :=
  match P.underlying t, x with
  | some (.struct fs), .agg cs => match fs[f]? with | some fd => lopPart P fd.type cs fd.offset | none => .error "field"
  | _, _ => .error "field"

def lopIndex (P : Program) (t : TypeId) (x i : SV) : Res Loc :=
  match P.underlying t, x, i with
  | some (.array len e), .agg cs, .c (.s (.dat (.b (.int _)) ix)) =>
    match atomNat ix, sizeB P e with
    | some k, some sz => if k < len then lopPart P e cs (k * sz) else .error "index"
    | _, _ => .error "index"
  | _, _, _ => .error "index"

/-- A cell that is known to hold one value. -/
def plainCV : CV → Bool | .s .undef => false | _ => true

/-- Parts laid into cells, as 'Instr.fill' does it. -/
def fillS (place : Nat → Option (Nat × Nat)) : List CV → List (Nat × SV) → Res (List CV)
  | cs, [] => .ok cs
  | cs, (i, v) :: rest =>
    match place i, svCells v with
    | some (off, sz), some (_, vs) =>
      if vs.length = sz ∧ off + vs.length ≤ cs.length ∧ vs.all plainCV = true then fillS place (cs.take off ++ vs ++ cs.drop (off + vs.length)) rest else .error "fill size"
    | _, _ => .error "fill"
def lopBuild (P : Program) (t : TypeId) (parts : List (Nat × SV)) : Res Loc := do
  let i ← need (P.info? t) "build type"
  let z ← need i.zero "build zero"
  let zs ← need (litCells z.cells.toList) "build zero cells"
  match P.underlying t with
  | some (.struct fs) => do
    let places ← need (fs.toList.mapM (fun f => (P.info? f.type).map fun i => (f.offset, i.size))) "build field size"
    let cs ← fillS (places.toArray[·]?) zs parts
    .ok (.agg cs, [])
  | some (.array _ e) => do
    let ie ← need (P.info? e) "build size"
    let cs ← fillS (fun j => some (j * ie.size, ie.size)) zs parts
    .ok (.agg cs, [])
  | _ => .error "build"

def lopLen (P : Program) (S : SS) (t : TypeId) (x : SV) : Res Loc :=
  match P.underlying t, x with
  | some (.slice _), .c (.s (.dat (.s1 _) l)) | some (.slice _), .c (.s (.dat (.s2 _) l)) => .ok (bdat (.int .i64) (.v S.n), [(.len, [l])])
  | some (.slice _), .c (.s (.own β)) => match S.heap[β]? with | some (.row _ _ l) => .ok (bdat (.int .i64) (.v S.n), [(.len, [l])]) | _ => .error "len own"
  | _, _ => .error "len"

def lopPick (n : Nat) (c a b : SV) : Res Loc :=
  let a := match c, a with | .c (.s (.dat _ (.v i))), .gd (.v j) w s => if w = true then (if i = j then s else a) else a | _, _ => a
  let b := match c, b with | .c (.s (.dat _ (.v i))), .gd (.v j) w s => if w = false then (if i = j then s else b) else b | _, _ => b
  match c, a, b with
  | .c (.s (.dat (.b .bool) x)), .c (.s (.dat (.b t) y)), .c (.s (.dat (.b t') z)) => if t = t' then .ok (bdat t (.v n), [(.pick, [x, y, z])]) else .error "pick types"
  | _, _, _ => .error "pick"

def getSVs (S : SS) (g : Guard) : List Operand → Res (List SV)
  | [] => .ok []
  | o :: os => do let a ← getSV S o; let l ← getSVs S g os; .ok (strip g a :: l)

def svParts (S : SS) (g : Guard) : List (Nat × Operand) → Res (List (Nat × SV))
  | [] => .ok []
  | (i, o) :: os => do let a ← getSV S o; let l ← svParts S g os; .ok ((i, strip g a) :: l)

/-- Functions of the library without a body that the executor knows. -/
inductive Ext where
  | sqrt | f64bits | f64frombits | f32bits | f32frombits
  deriving DecidableEq
def lopExt (n : Nat) (e : Ext) (xs : List SV) : Res Loc :=
  match e, xs with
  | .sqrt, [.c (.s (.dat (.b (.flt .f64)) x))] => .ok (bdat (.flt .f64) (.v n), [(.sqrt .f64, [x])])
  | .f64bits, [.c (.s (.dat (.b (.flt .f64)) x))] => .ok (bdat (.int .u64) (.v n), [(.f2b .f64, [x])])
  | .f32bits, [.c (.s (.dat (.b (.flt .f32)) x))] => .ok (bdat (.int .u32) (.v n), [(.f2b .f32, [x])])
  | .f64frombits, [.c (.s (.dat (.b (.int .u64)) x))] => .ok (bdat (.flt .f64) (.v n), [(.b2f .f64, [x])])
  | .f32frombits, [.c (.s (.dat (.b (.int .u32)) x))] => .ok (bdat (.flt .f32) (.v n), [(.b2f .f32, [x])])
  | _, _ => .error "ext"

/-- An operation that changes nothing but its slot and the environment. -/
def lop (P : Program) (X : FuncId → Option Ext) (S : SS) (g : Guard) (o : Oper) : Res Loc :=
  let get (x : Operand) : Res SV := do let a ← getSV S x; .ok (strip g a)
  match o.op with
  | .move x | .assign x => do let a ← get x; .ok (a, [])
  | .pick c a b => do lopPick S.n (← get c) (← get a) (← get b)
  | .nilCheck x => do let a ← get x; let q ← ptrAdd a 0; .ok (q, [])
  | .binOp op t x y _ => do lopBin S.n op (isBoolT P t) (← get x) (← get y)
  | .unOp op _ x => do
    match op, ← get x with
    | .not, .c (.s (.dat (.b .bool) y)) => .ok (bdat .bool (.v S.n), [(.bnot, [y])])
    | .neg, .c (.s (.dat (.b (.flt k)) y)) => .ok (bdat (.flt k) (.v S.n), [(.fneg k, [y])])
    | .neg, .c (.s (.dat (.b (.int k)) y)) => .ok (bdat (.int k) (.v S.n), [(.iar .sub k, [.c (.int 0), y])])
    | _, _ => .error "unop"
  | .convert src dst x => do lopConv P S.n src dst (← get x)
  | .load t a => do lopLoad P S t (← get a)
  | .fieldAddr s x f => do lopFieldAddr P s (← get x) f
  | .field s x f => do lopField P s (← get x) f
  | .indexAddr t x i => do lopIndexAddr P S t (← get x) (← get i)
  | .index t x i => do lopIndex P t (← get x) (← get i)
  | .extract t j => do
    match ← get t with
    | .tup vs => match vs[j]? with | some (ag, cs) => do let s ← need (mkSV ag cs) "extract shape"; .ok (s, []) | none => .error "extract"
    | _ => .error "extract"
  | .build t parts => do lopBuild P t (← svParts S g parts.toList)
  | .call { callee := .builtin .len, args, argTypes } => do
    match ← getSVs S g args.toList, argTypes[0]? with
    | [x], some t => lopLen P S t x
    | _, _ => .error "len args"
  | .call { callee := .value (.func f), args, .. } => do
    match X f with
    | some e => lopExt S.n e (← getSVs S g args.toList)
    | none => .error "call"
  | _ => .error "not local"

/-! ### Operations that change the heap -/
/-- The signature of a function: its parameters (a value's cells; a pointer to cells that are only read) and its results; 'own': the result's slice is new memory that nobody else holds, with this element type. -/
inductive PK where
  | val (agg : Bool) (ts : List CT)
  | ptr (ts : List CT)
inductive RK where
  | cell (t : BT)
  | own (t : CT) (e : TypeId)
structure Sig where
  params : List PK
  results : List (Bool × List RK)

/-- The atom of a cell that is handed on to be read. -/
def cellAtom (S : SS) (t : CT) : CV → Res Atom
  | .s (.dat t' x) => if t = t' then .ok x else .error "cell type"
  | .s .nils => match t with | .b _ => .error "nil cell" | _ => .ok (.c (.lst []))
  | .s (.own β) => match S.heap[β]? with | some (.row t' _ x) => if t = t' then .ok x else .error "row type" | _ => .error "row"
  | _ => .error "cell"
def cellAtoms (S : SS) : List CT → List CV → Res (List Atom)
  | [], [] => .ok []
  | t :: ts, c :: cs => do let x ← cellAtom S t c; let xs ← cellAtoms S ts cs; .ok (x :: xs)
  | _, _ => .error "cells"
def paramAtoms (S : SS) : List PK → List SV → Res (List Atom)
  | [], [] => .ok []
  | .val agg ts :: ps, v :: vs => do
    match svCells v with
    | some (agg', cs) => if agg = agg' then do let xs ← cellAtoms S ts cs; let ys ← paramAtoms S ps vs; .ok (xs ++ ys) else .error "param agg"
    | none => .error "param"
  | .ptr ts :: ps, v :: vs => do
    match v with
    | .c (.s (.vptr β 0)) => match S.heap[β]? with | some (.var cs) => do let xs ← cellAtoms S ts cs; let ys ← paramAtoms S ps vs; .ok (xs ++ ys) | _ => .error "param ptr"
    | .c (.s (.fcel cs 0)) => do let xs ← cellAtoms S ts (cs.map fun (c, x) => .s (.dat c x)); let ys ← paramAtoms S ps vs; .ok (xs ++ ys)
    | _ => .error "param ptr"
  | _, _ => .error "params"

/-- The cells of a result: environment places from n on, new blocks from h on. -/
def resCells : List RK → Nat → Nat → List CV × List SB
  | [], _, _ => ([], [])
  | .cell t :: rs, n, h => let (cs, bs) := resCells rs (n + 1) h; (.s (.dat (.b t) (.v n)) :: cs, bs)
  | .own t e :: rs, n, h => let (cs, bs) := resCells rs (n + 1) (h + 1); (.s (.own h) :: cs, .row t e (.v n) :: bs)
def resAll : List (Bool × List RK) → Nat → Nat → List (Bool × List CV) × List SB
  | [], _, _ => ([], [])
  | (ag, rs) :: r, n, h =>
    let (cs, bs) := resCells rs n h
    let (cs', bs') := resAll r (n + rs.length) (h + bs.length)
    ((ag, cs) :: cs', bs ++ bs')
def resCount (r : List (Bool × List RK)) : Nat := (r.map fun x => x.2.length).foldr (· + ·) 0
def resSV (r : List (Bool × List CV)) : Option SV :=
  match r with
  | [(ag, cs)] => mkSV ag cs
  | _ => some (.tup r)

/-- One operation, run in the order of the text. What is pushed: primitive operations, or one call. -/
inductive Eff where
  | prims (ps : List Push)
  | call (f : Nat) (xs : List Atom) (m : Nat)

def put (S : SS) (dst : Option Nat) (v : SV) : Res (List SV) :=
  match dst with
  | none => .ok S.slots
  | some d => if d < S.slots.length then .ok (S.slots.set d v) else .error "dst"

structure Env where
  P : Program
  ext : FuncId → Option Ext
  sig : FuncId → Option (Nat × Sig)

def guardOf (S : SS) (ops : List Oper) (o : Oper) : Res Guard :=
  match o.guard with
  | none => .ok none
  | some (j, w) =>
    match (ops[j]?).bind (·.dst) with
    | some d => match S.slots[d]? with
      | some (.c (.s (.dat (.b .bool) (.v i)))) => if i < S.n then .ok (some (.v i, w)) else .error "guard place"
      | some (.gd _ _ (.c (.s (.dat (.b .bool) (.v i))))) => if i < S.n then .ok (some (.v i, w)) else .error "guard place"
      | _ => .error "guard slot"
    | none => .error "guard dst"

def wrapG (g : Guard) (s : SV) : SV := match g with | none => s | some (x, w) => .gd x w s

/-- Under a guard every plain result has a place of its own in the environment. -/
def ownPlace (n : Nat) (g : Guard) (r : Loc) : Loc :=
  match g, r with
  | some _, (.c (.s (.dat t x)), []) => (.c (.s (.dat t (.v n))), [(.id, [x])])
  | _, r => r
def freshSV (n m : Nat) : SV → Bool
  | .c (.s (.dat _ x)) => match x with | .v i => n ≤ i && i < n + m | .c _ => false
  | .gd _ _ _ => false
  | _ => true

def sop (E : Env) (ops : List Oper) (S : SS) (o : Oper) : Res (SS × Guard × Eff) := do
  let g ← guardOf S ops o
  match lop E.P E.ext S g o with
  | .ok r => do
    let (v, ps) := ownPlace S.n g r
    if g.isSome ∧ freshSV S.n ps.length v = false then .error "guarded value" else do
    let slots ← put S o.dst (wrapG g v)
    .ok ({ S with n := S.n + ps.length, slots }, g, .prims ps)
  | .error why =>
    match o.op with
    | .call { callee := .value (.func f), args, .. } =>
      match E.sig f with
      | some (key, sg) => do
        let xs ← paramAtoms S sg.params (← getSVs S g args.toList)
        let m := resCount sg.results
        let (rs, bs) := resAll sg.results S.n S.heap.length
        let v ← need (resSV rs) "result shape"
        if g.isSome ∧ (bs.isEmpty = false ∨ freshSV S.n m v = false) then .error "own results under a guard" else do
        let slots ← put S o.dst (wrapG g v)
        .ok ({ n := S.n + m, slots, heap := S.heap ++ bs }, g, .call key xs m)
      | none => .error "no signature"
    | .box _ x =>
      if g.isSome then .error "box under a guard" else do
      let a ← getSV S x
      match svCells a with
      | some (_, cs) =>
        if cs.all plainCV then do
          let slots ← put S o.dst (.c (.s (.vptr S.heap.length 0)))
          .ok ({ S with slots, heap := S.heap ++ [.var cs] }, g, .prims [])
        else .error "box cells"
      | none => .error "box"
    | .alloc t =>
      if g.isSome then .error "alloc under a guard" else do
      let i ← need (E.P.info? t) "alloc type"
      let z ← need i.zero "alloc zero"
      let cs ← need (litCells z.cells.toList) "alloc cells"
      let slots ← put S o.dst (.c (.s (.vptr S.heap.length 0)))
      .ok ({ S with slots, heap := S.heap ++ [.var cs] }, g, .prims [])
    | .store t p x =>
      if g.isSome then .error "store under a guard" else do
      let pa ← getSV S p
      let a ← getSV S x
      let sz ← need (sizeB E.P t) "store size"
      match svCells a, pa with
      | some (_, vs), .c (.s (.vptr β off)) =>
        match S.heap[β]? with
        | some (.var cs) =>
          if vs.length = sz ∧ off + sz ≤ cs.length ∧ vs.all plainCV then do
            let slots ← put S o.dst SV.undef
            .ok ({ S with slots, heap := S.heap.set β (.var (cs.take off ++ vs ++ cs.drop (off + sz))) }, g, .prims [])
          else .error "store shape"
        | _ => .error "store block"
      | _, _ => .error "store"
    | _ => .error why

end Vs
