/-
  The symbolic executor: from the model's code to the language of Vs1. Everything here is a computable function; nothing is claimed yet.
-/
import Derived.Test.YtfpmhmngebnphaaNs1
namespace Vs
open Go

/-! ### Types of cells -/
inductive BT where
  | int (k : IntKind) | bool | flt (k : FloatKind) | str
  deriving DecidableEq
/-- What a slice holds: elements of these cells; 'agg': a struct or an array. -/
structure ET where
  agg : Bool
  cells : List BT
  deriving DecidableEq
/-- The type of one cell: a plain one, a slice of plain elements, a slice of slices of plain elements. -/
inductive CT where
  | b (t : BT) | s1 (e : ET) | s2 (e : ET)
  deriving DecidableEq

def rowAgg : CT → Bool | .s1 e => e.agg | _ => false
def rowSz : CT → Nat | .s1 e => e.cells.length | _ => 1
/-- The cell types of an element of a slice of this type. -/
def rowCells : CT → List CT | .s1 e => e.cells.map .b | .s2 e => [.s1 e] | .b _ => []

/-! ### Symbolic values -/
/-- A cell that is only read: its data, or an own slice that was handed over. -/
inductive FC where
  | d (t : CT) (x : Atom) | o (β : Nat)
inductive CV0 where
  | undef
  | nils
  | dat (t : CT) (x : Atom)
  | own (β : Nat)
  | vptr (β off : Nat)
  | eptr (β : Nat) (i : Atom) (sz off : Nat)
  | rref (β ver : Nat) (i : Atom)
  | fcel (cs : List FC) (off : Nat)
inductive CV where
  | s (c : CV0)
  | fn (f : FuncId) (caps : List CV0)
def FC.cv : FC → CV
  | .d t x => .s (.dat t x)
  | .o β => .s (.own β)
def fcOf (p : CT × Atom) : FC := .d p.1 p.2
inductive SV where
  | c (x : CV)
  | agg (cs : List CV)
  | tup (vs : List (Bool × List CV))
  | gd (g : Atom) (w : Bool) (s : SV)
inductive SB where
  | dead
  | hid
  | var (cs : List CV)
  | row (t : CT) (e : TypeId) (x : Atom)
  | rows (et : ET) (e' e : TypeId) (ver : Nat) (x : Atom)
structure SS where
  n : Nat
  slots : List SV
  heap : List SB

abbrev Res := Except String
def need {α : Type} (o : Option α) (why : String) : Res α := match o with | some a => .ok a | none => .error why

def SV.undef : SV := .c (.s .undef)
def dat (t : CT) (x : Atom) : SV := .c (.s (.dat t x))
def bdat (t : BT) (x : Atom) : SV := .c (.s (.dat (.b t) x))

/-! ### Types of the program -/
def ctOf (P : Program) (t : TypeId) : Option BT :=
  match P.underlying t with
  | some .bool => some .bool | some (.int k) => some (.int k) | some (.float k) => some (.flt k) | some .string => some .str | _ => none
/-- The plain cells of a type: 'true' for a struct or an array. -/
def plainCells (P : Program) : Nat → TypeId → Option (Bool × List BT)
  | 0, _ => none
  | d + 1, t =>
    match P.underlying t with
    | some (.struct fs) => (fs.toList.foldr (fun f acc => match acc, plainCells P d f.type with | some l, some (_, cs) => some (cs ++ l) | _, _ => none) (some [])).map fun l => (true, l)
    | some (.array n e) => (plainCells P d e).map fun (_, cs) => (true, (List.replicate n cs).flatten)
    | _ => (ctOf P t).map fun b => (false, [b])
def etOf (P : Program) (t : TypeId) : Option ET := (plainCells P 8 t).map fun (a, cs) => ⟨a, cs⟩
def cellTy (P : Program) (t : TypeId) : Option CT :=
  match P.underlying t with
  | some (.slice e) =>
    match P.underlying e with
    | some (.slice e') => (etOf P e').map .s2
    | _ => (etOf P e).map .s1
  | _ => (ctOf P t).map .b
/-- The cells of a type that may hold slices. -/
def allCells (P : Program) : Nat → TypeId → Option (Bool × List CT)
  | 0, _ => none
  | d + 1, t =>
    match P.underlying t with
    | some (.struct fs) => (fs.toList.foldr (fun f acc => match acc, allCells P d f.type with | some l, some (_, cs) => some (cs ++ l) | _, _ => none) (some [])).map fun l => (true, l)
    | some (.array n e) => (allCells P d e).map fun (_, cs) => (true, (List.replicate n cs).flatten)
    | _ => (cellTy P t).map fun b => (false, [b])

def isAggB (P : Program) (t : TypeId) : Option Bool :=
  match P.underlying t with
  | some (.struct _) | some (.array _ _) => some true
  | some _ => some false
  | none => none
def sizeB (P : Program) (t : TypeId) : Option Nat := (P.info? t).map (·.size)

/-! ### Literals -/
def litCell : Value → Option CV0
  | .int k n => some (.dat (.b (.int k)) (.c (.int n)))
  | .bool b => some (.dat (.b .bool) (.c (.bool b)))
  | .float k x => some (.dat (.b (.flt k)) (.c (.flt (canon k x))))
  | .string s => some (.dat (.b .str) (.c (.str s)))
  | .slice none 0 0 => some .nils
  | _ => none
def litCells : List Value → Option (List CV)
  | [] => some []
  | v :: vs => match litCell v, litCells vs with | some c, some cs => some (.s c :: cs) | _, _ => none
def litSV (v : Value) : Option SV :=
  match v with
  | .agg cs => (litCells cs.toList).map .agg
  | v => (litCell v).map fun c => .c (.s c)

/-! ### Effects -/
abbrev Push := Prim × List Atom
/-- What a local operation leaves: its value, and what is pushed on the environment. -/
abbrev Loc := SV × List Push

def getSV (S : SS) : Operand → Res SV
  | .tmp t => need S.slots[t]? "slot"
  | .const v => need (litSV v) "const"
  | .func f => .ok (.c (.fn f []))
  | .global _ => .error "global"

/-- An operand of an operation under a guard: what holds under the same guard holds here. -/
def strip (g : Guard) (s : SV) : SV :=
  match g, s with
  | some (.v i, w), .gd (.v j) w' s' => if i = j ∧ w = w' then s' else s
  | _, s => s

def svCells : SV → Option (Bool × List CV)
  | .c x => some (false, [x])
  | .agg cs => some (true, cs)
  | _ => none
def mkSV (agg : Bool) (cs : List CV) : Option SV :=
  if agg then some (.agg cs) else match cs with | [x] => some (.c x) | _ => none

def isBoolT (P : Program) (t : TypeId) : Bool := match P.underlying t with | some .bool => true | _ => false
def lopBin (n : Nat) (op : BinOp) (bt : Bool) (a b : SV) : Res Loc :=
  match a, b with
  | .c (.s (.dat (.b (.int k)) x)), .c (.s (.dat (.b (.int k')) y)) =>
    match op with
    | .shl | .shr => .ok (bdat (.int k) (.v n), [(.shf op k, [x, y])])
    | .add | .sub | .mul => if k = k' then .ok (bdat (.int k) (.v n), [(.iar op k, [x, y])]) else .error "kinds"
    | .quo | .rem => if k = k' then .ok (bdat (.int k) (.v n), [(.idv op k, [x, y])]) else .error "kinds"
    | .and | .or | .xor | .andNot => if k = k' then .ok (bdat (.int k) (.v n), [(.ibt op k, [x, y])]) else .error "kinds"
    | .eql | .neq | .lss | .leq | .gtr | .geq => if k = k' then .ok (bdat .bool (.v n), [(.icm op, [x, y])]) else .error "kinds"
  | .c (.s (.dat (.b (.flt k)) x)), .c (.s (.dat (.b (.flt k')) y)) =>
    if k = k' then
      match op with
      | .add | .sub | .mul | .quo => .ok (bdat (.flt k) (.v n), [(.far op k, [x, y])])
      | .eql | .neq | .lss | .leq | .gtr | .geq => .ok (bdat .bool (.v n), [(.fcm op k, [x, y])])
      | _ => .error "float op"
    else .error "kinds"
  | .c (.s (.dat (.b .bool) x)), .c (.s (.dat (.b .bool) y)) =>
    if bt = true then
      match op with
      | .eql => .ok (bdat .bool (.v n), [(.beq, [x, y])])
      | .neq => .ok (bdat .bool (.v n), [(.bne, [x, y])])
      | _ => .error "bool op"
    else .error "bool type"
  | _, _ => .error "binop"

def lopConv (P : Program) (n : Nat) (src dst : TypeId) (a : SV) : Res Loc :=
  match P.underlying src, P.underlying dst, a with
  | some _, some (.int k), .c (.s (.dat (.b (.int _)) x)) => .ok (bdat (.int k) (.v n), [(.i2i k, [x])])
  | some _, some (.float k), .c (.s (.dat (.b (.int _)) x)) => .ok (bdat (.flt k) (.v n), [(.i2f k, [x])])
  | some _, some (.int k), .c (.s (.dat (.b (.flt s)) x)) => .ok (bdat (.int k) (.v n), [(.f2i s k, [x])])
  | some _, some (.float k), .c (.s (.dat (.b (.flt s)) x)) => .ok (bdat (.flt k) (.v n), [(.f2f s k, [x])])
  | _, _, _ => .error "convert"

/-- The cells of element data 'x' of a slice of type t, from environment place n on. -/
def elemCells (n : Nat) (t : CT) (x : Atom) : List (CT × Atom) × List Push :=
  if rowAgg t then
    ((rowCells t).zipIdx.map fun (c, j) => (c, .v (n + j)), (rowCells t).zipIdx.map fun (_, j) => (.proj j, [x]))
  else (match rowCells t with | [c] => [(c, x)] | _ => [], [])

def ptrAdd (s : SV) (k : Nat) : Res SV :=
  match s with
  | .c (.s (.vptr β off)) => .ok (.c (.s (.vptr β (off + k))))
  | .c (.s (.eptr β i sz off)) => .ok (.c (.s (.eptr β i sz (off + k))))
  | .c (.s (.fcel cs off)) => .ok (.c (.s (.fcel cs (off + k))))
  | _ => .error "pointer"

def lopLoad (P : Program) (S : SS) (t : TypeId) (p : SV) : Res Loc := do
  let agg ← need (isAggB P t) "load type"
  let sz ← need (sizeB P t) "load size"
  match p with
  | .c (.s (.vptr β off)) =>
    match S.heap[β]? with
    | some (.var cs) =>
      let part := (cs.drop off).take sz
      if part.length = sz ∧ 0 < sz then do let s ← need (mkSV agg part) "load shape"; .ok (s, []) else .error "load part"
    | _ => .error "load block"
  | .c (.s (.fcel cs off)) =>
    let part := (cs.drop off).take sz
    if part.length = sz ∧ 0 < sz then do let s ← need (mkSV agg (part.map FC.cv)) "load shape"; .ok (s, []) else .error "load part"
  | .c (.s (.eptr β i sz' off)) =>
    match S.heap[β]? with
    | some (.row rt _ x) =>
      let (cells, ps) := elemCells (S.n + 1) rt (.v S.n)
      let part := (cells.drop off).take sz
      if sz' = rowSz rt ∧ part.length = sz ∧ 0 < sz then do
        let s ← need (mkSV agg (part.map fun (c, x) => .s (.dat c x))) "load shape"; .ok (s, (.idx, [x, i]) :: ps)
      else .error "load part"
    | some (.rows _ _ _ ver _) => if sz' = 1 ∧ off = 0 ∧ agg = false ∧ sz = 1 then .ok (.c (.s (.rref β ver i)), []) else .error "load row of rows"
    | _ => .error "load row"
  | _ => .error "load"

def lopFieldAddr (P : Program) (s : TypeId) (p : SV) (f : Nat) : Res Loc :=
  match P.underlying s with
  | some (.struct fs) =>
    match fs[f]? with
    | some fd => if (sizeB P fd.type).any (0 < ·) then do let q ← ptrAdd p fd.offset; .ok (q, []) else .error "field size"
    | none => .error "field"
  | _ => .error "fieldAddr"

def atomNat : Atom → Option Nat
  | .c (.int i) => if 0 ≤ i then some i.toNat else none
  | _ => none

def lopIndexAddr (P : Program) (S : SS) (t : TypeId) (x i : SV) : Res Loc :=
  match P.underlying t, i with
  | some (.slice e), .c (.s (.dat (.b (.int _)) ix)) =>
    match x with
    | .c (.s (.dat (.s1 et) l)) =>
      if sizeB P e = some et.cells.length then
        let (cells, ps) := elemCells (S.n + 1) (.s1 et) (.v S.n)
        .ok (.c (.s (.fcel (cells.map fcOf) 0)), (.idx, [l, ix]) :: ps)
      else .error "index size"
    | .c (.s (.dat (.s2 et) l)) =>
      if sizeB P e = some 1 then .ok (.c (.s (.fcel [.d (.s1 et) (.v S.n)] 0)), [(.idx, [l, ix])]) else .error "index size"
    | .c (.s (.own β)) =>
      match S.heap[β]? with
      | some (.row rt _ l) => if sizeB P e = some (rowSz rt) then .ok (.c (.s (.eptr β ix (rowSz rt) 0)), [(.idx, [l, ix])]) else .error "index size"
      | some (.rows _ _ _ _ l) => if sizeB P e = some 1 then .ok (.c (.s (.eptr β ix 1 0)), [(.idx, [l, ix])]) else .error "index size"
      | _ => .error "index own"
    | _ => .error "index slice"
  | some (.array len e), .c (.s (.dat (.b (.int _)) ix)) =>
    match atomNat ix, sizeB P e with
    | some k, some sz => if k < len then do let q ← ptrAdd x (k * sz); .ok (q, []) else .error "array index"
    | _, _ => .error "array index"
  | _, _ => .error "indexAddr"

def lopPart (P : Program) (t : TypeId) (cs : List CV) (off : Nat) : Res Loc := do
  let agg ← need (isAggB P t) "part type"
  let sz ← need (sizeB P t) "part size"
  let part := (cs.drop off).take sz
  if part.length = sz ∧ 0 < sz then do let s ← need (mkSV agg part) "part shape"; .ok (s, []) else .error "part"

def lopField (P : Program) (t : TypeId) (x : SV) (f : Nat) : Res Loc :=
  match P.underlying t, x with
  | some (.struct fs), .agg cs => match fs[f]? with | some fd => lopPart P fd.type cs fd.offset | none => .error "field"
  | _, _ => .error "field"

def lopIndex (P : Program) (t : TypeId) (x i : SV) : Res Loc :=
  match P.underlying t, x, i with
  | some (.array len e), .agg cs, .c (.s (.dat (.b (.int _)) ix)) =>
    match atomNat ix, sizeB P e with
    | some k, some sz => if k < len then lopPart P e cs (k * sz) else .error "index"
    | _, _ => .error "index"
  | _, _, _ => .error "index"

/-- A cell that is known to hold one value. -/
def plainCV : CV → Bool | .s .undef => false | _ => true

/-- Parts laid into cells, as 'Instr.fill' does it. -/
def fillS (place : Nat → Option (Nat × Nat)) : List CV → List (Nat × SV) → Res (List CV)
  | cs, [] => .ok cs
  | cs, (i, v) :: rest =>
    match place i, svCells v with
    | some (off, sz), some (_, vs) =>
      if vs.length = sz ∧ off + vs.length ≤ cs.length ∧ vs.all plainCV = true then fillS place (cs.take off ++ vs ++ cs.drop (off + vs.length)) rest else .error "fill size"
    | _, _ => .error "fill"
def lopBuild (P : Program) (t : TypeId) (parts : List (Nat × SV)) : Res Loc := do
  let i ← need (P.info? t) "build type"
  let z ← need i.zero "build zero"
  let zs ← need (litCells z.cells.toList) "build zero cells"
  match P.underlying t with
  | some (.struct fs) => do
    let places ← need (fs.toList.mapM (fun f => (P.info? f.type).map fun i => (f.offset, i.size))) "build field size"
    let cs ← fillS (places.toArray[·]?) zs parts
    .ok (.agg cs, [])
  | some (.array _ e) => do
    let ie ← need (P.info? e) "build size"
    let cs ← fillS (fun j => some (j * ie.size, ie.size)) zs parts
    .ok (.agg cs, [])
  | _ => .error "build"

def lopLen (P : Program) (S : SS) (t : TypeId) (x : SV) : Res Loc :=
  match P.underlying t, x with
  | some (.slice _), .c (.s (.dat (.s1 _) l)) | some (.slice _), .c (.s (.dat (.s2 _) l)) => .ok (bdat (.int .i64) (.v S.n), [(.len, [l])])
  | some (.slice _), .c (.s (.own β)) => match S.heap[β]? with | some (.row _ _ l) | some (.rows _ _ _ _ l) => .ok (bdat (.int .i64) (.v S.n), [(.len, [l])]) | _ => .error "len own"
  | _, _ => .error "len"

def lopPick (n : Nat) (c a b : SV) : Res Loc :=
  let a := match c, a with | .c (.s (.dat _ (.v i))), .gd (.v j) w s => if w = true then (if i = j then s else a) else a | _, _ => a
  let b := match c, b with | .c (.s (.dat _ (.v i))), .gd (.v j) w s => if w = false then (if i = j then s else b) else b | _, _ => b
  match c, a, b with
  | .c (.s (.dat (.b .bool) x)), .c (.s (.dat (.b t) y)), .c (.s (.dat (.b t') z)) => if t = t' then .ok (bdat t (.v n), [(.pick, [x, y, z])]) else .error "pick types"
  | _, _, _ => .error "pick"

def getSVs (S : SS) (g : Guard) : List Operand → Res (List SV)
  | [] => .ok []
  | o :: os => do let a ← getSV S o; let l ← getSVs S g os; .ok (strip g a :: l)

def svParts (S : SS) (g : Guard) : List (Nat × Operand) → Res (List (Nat × SV))
  | [] => .ok []
  | (i, o) :: os => do let a ← getSV S o; let l ← svParts S g os; .ok ((i, strip g a) :: l)

/-- Functions of the library without a body that the executor knows. -/
inductive Ext where
  | sqrt | f64bits | f64frombits | f32bits | f32frombits
  deriving DecidableEq
def lopExt (n : Nat) (e : Ext) (xs : List SV) : Res Loc :=
  match e, xs with
  | .sqrt, [.c (.s (.dat (.b (.flt .f64)) x))] => .ok (bdat (.flt .f64) (.v n), [(.sqrt .f64, [x])])
  | .f64bits, [.c (.s (.dat (.b (.flt .f64)) x))] => .ok (bdat (.int .u64) (.v n), [(.f2b .f64, [x])])
  | .f32bits, [.c (.s (.dat (.b (.flt .f32)) x))] => .ok (bdat (.int .u32) (.v n), [(.f2b .f32, [x])])
  | .f64frombits, [.c (.s (.dat (.b (.int .u64)) x))] => .ok (bdat (.flt .f64) (.v n), [(.b2f .f64, [x])])
  | .f32frombits, [.c (.s (.dat (.b (.int .u32)) x))] => .ok (bdat (.flt .f32) (.v n), [(.b2f .f32, [x])])
  | _, _ => .error "ext"

def isSl : CT → Bool | .b _ => false | _ => true
/-- The part of a slice: of one that is only read from now on. -/
def lopSlice (P : Program) (n : Nat) (t : TypeId) (l : Atom) (ct : CT) (lo hi : Option SV) : Res Loc :=
  match P.underlying t with
  | some (.slice e) =>
    match sizeB P e with
    | some sz =>
      if sz = rowSz ct ∧ isSl ct = true then do
        let (h, ps) ← (match hi with
          | none => .ok (.v n, [(.len, [l])])
          | some (.c (.s (.dat (.b (.int .i64)) x))) => .ok (x, [])
          | _ => .error "slice bound" : Res (Atom × List Push))
        let a ← (match lo with
          | none => .ok (.c (.int 0))
          | some (.c (.s (.dat (.b (.int .i64)) x))) => .ok x
          | _ => .error "slice bound" : Res Atom)
        .ok (.c (.s (.dat ct (.v (n + ps.length)))), ps ++ [(.sub, [l, a, h])])
      else .error "slice size"
    | none => .error "slice element"
  | _ => .error "slice type"

def capsOf : List SV → Res (List CV0)
  | [] => .ok []
  | .c (.s c) :: r => do let l ← capsOf r; .ok (c :: l)
  | _ :: _ => .error "capture"
/-- An operation that changes nothing but its slot and the environment. -/
def lop (P : Program) (X : FuncId → Option Ext) (S : SS) (g : Guard) (o : Oper) : Res Loc :=
  let get (x : Operand) : Res SV := do let a ← getSV S x; .ok (strip g a)
  match o.op with
  | .move x | .assign x => do let a ← get x; .ok (a, [])
  | .pick c a b => do lopPick S.n (← get c) (← get a) (← get b)
  | .nilCheck x => do let a ← get x; let q ← ptrAdd a 0; .ok (q, [])
  | .binOp op t x y _ => do lopBin S.n op (isBoolT P t) (← get x) (← get y)
  | .unOp op _ x => do
    match op, ← get x with
    | .not, .c (.s (.dat (.b .bool) y)) => .ok (bdat .bool (.v S.n), [(.bnot, [y])])
    | .neg, .c (.s (.dat (.b (.flt k)) y)) => .ok (bdat (.flt k) (.v S.n), [(.fneg k, [y])])
    | .neg, .c (.s (.dat (.b (.int k)) y)) => .ok (bdat (.int k) (.v S.n), [(.iar .sub k, [.c (.int 0), y])])
    | _, _ => .error "unop"
  | .convert src dst x => do lopConv P S.n src dst (← get x)
  | .load t a => do lopLoad P S t (← get a)
  | .fieldAddr s x f => do lopFieldAddr P s (← get x) f
  | .field s x f => do lopField P s (← get x) f
  | .indexAddr t x i => do lopIndexAddr P S t (← get x) (← get i)
  | .index t x i => do lopIndex P t (← get x) (← get i)
  | .extract t j => do
    match ← get t with
    | .tup vs => match vs[j]? with | some (ag, cs) => do let s ← need (mkSV ag cs) "extract shape"; .ok (s, []) | none => .error "extract"
    | _ => .error "extract"
  | .build t parts => do lopBuild P t (← svParts S g parts.toList)
  | .call { callee := .builtin .len, args, argTypes } => do
    match ← getSVs S g args.toList, argTypes[0]? with
    | [x], some t => lopLen P S t x
    | _, _ => .error "len args"
  | .makeFunc (.func f) first captured => do
    if first.size = 0 then
      let cs ← getSVs S g captured.toList
      let l ← capsOf cs
      .ok (.c (.fn f l), [])
    else .error "bound"
  | .slice t x lo hi none => do
    match ← get x with
    | .c (.s (.dat ct l)) => do
      let a ← (match lo with | none => .ok none | some y => do let v ← get y; .ok (some v))
      let b ← (match hi with | none => .ok none | some y => do let v ← get y; .ok (some v))
      lopSlice P S.n t l ct a b
    | _ => .error "slice of what is not data"
  | .call { callee := .builtin .min, args, .. } => do
    match ← getSVs S g args.toList with
    | [.c (.s (.dat (.b (.int k)) x)), .c (.s (.dat (.b (.int k')) y))] => if k = k' then .ok (bdat (.int k) (.v S.n), [(.imin, [x, y])]) else .error "min"
    | _ => .error "min"
  | .call { callee := .builtin .max, args, .. } => do
    match ← getSVs S g args.toList with
    | [.c (.s (.dat (.b (.int k)) x)), .c (.s (.dat (.b (.int k')) y))] => if k = k' then .ok (bdat (.int k) (.v S.n), [(.imax, [x, y])]) else .error "max"
    | _ => .error "max"
  | .call { callee := .value (.func f), args, .. } => do
    match X f with
    | some e => lopExt S.n e (← getSVs S g args.toList)
    | none => .error "call"
  | _ => .error "not local"

/-! ### Operations that change the heap -/
/-- What is handed over, or made: an own slice of plain elements or of frozen slices; an own slice of own slices. -/
inductive MK where
  | row (t : CT) (e : TypeId)
  | rows (et : ET) (e' e : TypeId)
  deriving DecidableEq
def MK.sb (k : MK) (ver : Nat) (x : Atom) : SB := match k with | .row t e => .row t e x | .rows et e' e => .rows et e' e ver x
/-- A cell of a parameter: read, or handed over ('keep': handed back). -/
inductive PC where
  | rd (t : CT) | mt (k : MK) (keep : Bool)
/-- The signature of a function: its parameters (a value's cells; a pointer to cells; a known function with captured variables) and its results; 'own': the result's slice is memory that nobody else holds. What was handed over and is kept comes behind the results. -/
inductive PK where
  | val (agg : Bool) (ts : List PC)
  | ptr (ts : List PC)
  | fn (f : FuncId) (caps : List (List PC))
inductive RK where
  | cell (t : BT)
  | own (k : MK)
structure Sig where
  params : List PK
  results : List (Bool × List RK)
def keepsC : List PC → List MK
  | [] => []
  | .rd _ :: r => keepsC r
  | .mt k keep :: r => if keep then k :: keepsC r else keepsC r
def keepsP : List PK → List MK
  | [] => []
  | .val _ ts :: r => keepsC ts ++ keepsP r
  | .ptr ts :: r => keepsC ts ++ keepsP r
  | .fn _ caps :: r => (caps.flatMap keepsC) ++ keepsP r
def Sig.keeps (s : Sig) : List MK := keepsP s.params

/-- An own argument: its block; 'at': only this row of the rows. -/
structure MA where
  β : Nat
  k : MK
  keep : Bool
  at? : Option Atom

/-- The atom of a cell that is handed on to be read. -/
def cellAtom (S : SS) (t : CT) : CV → Res Atom
  | .s (.dat t' x) => if t = t' then .ok x else .error "cell type"
  | .s .nils => match t with | .b _ => .error "nil cell" | _ => .ok (.c (.lst []))
  | .s (.own β) => match S.heap[β]? with
    | some (.row t' _ x) => if t = t' then .ok x else .error "row type"
    | some (.rows et _ _ _ x) => if t = .s2 et then .ok x else .error "rows type"
    | _ => .error "row"
  | _ => .error "cell"
/-- Arguments: their atoms, what is reckoned ahead, what is handed over, which own blocks are read. -/
structure AR where
  xs : List Atom
  pre : List Push
  mas : List MA
  rds : List Nat
def AR.nil : AR := ⟨[], [], [], []⟩
def AR.app (a b : AR) : AR := ⟨a.xs ++ b.xs, a.pre ++ b.pre, a.mas ++ b.mas, a.rds ++ b.rds⟩
def rdsOf : CV → List Nat
  | .s (.own β) => [β]
  | _ => []
/-- A cell of a parameter. -/
def argCell (S : SS) (n : Nat) : PC → CV → Res AR
  | .rd t, c => do let x ← cellAtom S t c; .ok ⟨[x], [], [], rdsOf c⟩
  | .mt k keep, .s (.own β) =>
    match S.heap[β]?, k with
    | some (.row t e x), .row t' e' => if t = t' ∧ e = e' then .ok ⟨[x], [], [⟨β, k, keep, none⟩], []⟩ else .error "own arg type"
    | some (.rows et f e _ x), .rows et' f' e' => if et = et' ∧ f = f' ∧ e = e' then .ok ⟨[x], [], [⟨β, k, keep, none⟩], []⟩ else .error "own arg type"
    | _, _ => .error "own arg"
  | .mt k keep, .s (.rref β ver i) =>
    match S.heap[β]?, k with
    | some (.rows et f _ v x), .row (.s1 et') f' => if et = et' ∧ f = f' ∧ v = ver ∧ keep = true then .ok ⟨[.v n], [(.idx, [x, i])], [⟨β, k, true, some i⟩], []⟩ else .error "row arg type"
    | _, _ => .error "row arg"
  | _, _ => .error "own arg cell"
def argCells (S : SS) : Nat → List PC → List CV → Res AR
  | _, [], [] => .ok .nil
  | n, t :: ts, c :: cs => do
    let p ← argCell S n t c
    let q ← argCells S (n + p.pre.length) ts cs
    .ok (p.app q)
  | _, _, _ => .error "cells"
/-- What a pointer to cells that are read leads to. -/
def ptrCells (S : SS) : CV0 → Res (List CV)
  | .vptr β 0 => match S.heap[β]? with | some (.var cs) => .ok cs | _ => .error "param ptr"
  | .fcel cs 0 => .ok (cs.map FC.cv)
  | _ => .error "param ptr"
def argCaps (S : SS) : Nat → List (List PC) → List CV0 → Res AR
  | _, [], [] => .ok .nil
  | n, ts :: tss, c :: cs => do
    let l ← ptrCells S c
    let p ← argCells S n ts l
    let q ← argCaps S (n + p.pre.length) tss cs
    .ok (p.app q)
  | _, _, _ => .error "captures"
def argOne (S : SS) (n : Nat) : PK → SV → Res AR
  | .val agg ts, v => match svCells v with | some (agg', cs) => if agg = agg' then argCells S n ts cs else .error "param agg" | none => .error "param"
  | .ptr ts, .c (.s c) => do let l ← ptrCells S c; argCells S n ts l
  | .fn f caps, .c (.fn f' cs) => if f = f' then argCaps S n caps cs else .error "another function"
  | _, _ => .error "param kind"
def argAll (S : SS) : Nat → List PK → List SV → Res AR
  | _, [], [] => .ok .nil
  | n, k :: ks, v :: vs => do
    let p ← argOne S n k v
    let q ← argAll S (n + p.pre.length) ks vs
    .ok (p.app q)
  | _, _, _ => .error "params"

/-- The cells of a result: environment places from n on, new blocks from h on. -/
def resCells : List RK → Nat → Nat → List CV × List SB
  | [], _, _ => ([], [])
  | .cell t :: rs, n, h => let (cs, bs) := resCells rs (n + 1) h; (.s (.dat (.b t) (.v n)) :: cs, bs)
  | .own k :: rs, n, h => let (cs, bs) := resCells rs (n + 1) (h + 1); (.s (.own h) :: cs, k.sb 0 (.v n) :: bs)
def resAll : List (Bool × List RK) → Nat → Nat → List (Bool × List CV) × List SB
  | [], _, _ => ([], [])
  | (ag, rs) :: r, n, h =>
    let (cs, bs) := resCells rs n h
    let (cs', bs') := resAll r (n + rs.length) (h + bs.length)
    ((ag, cs) :: cs', bs ++ bs')
def resCount (r : List (Bool × List RK)) : Nat := (r.map fun x => x.2.length).foldr (· + ·) 0
def resSV (r : List (Bool × List CV)) : Option SV :=
  match r with
  | [(ag, cs)] => mkSV ag cs
  | _ => some (.tup r)

/-- One operation, run in the order of the text. What is pushed: primitive operations; or a call, with what is reckoned ahead of it and behind it. -/
inductive Eff where
  | prims (ps : List Push)
  | call (pre : List Push) (f : Nat) (xs : List Atom) (m : Nat) (post : List Push)

def put (S : SS) (dst : Option Nat) (v : SV) : Res (List SV) :=
  match dst with
  | none => .ok S.slots
  | some d => if d < S.slots.length then .ok (S.slots.set d v) else .error "dst"

/-- The own blocks behind a call: place n on holds what was handed back; 'q': the place of the next thing that is reckoned. -/
def afterMA : List MA → Nat → Nat → List SB → List SB × List Push
  | [], _, _, h => (h, [])
  | a :: r, n, q, h =>
    if a.keep = false then afterMA r n q (h.set a.β .dead) else
    match a.at? with
    | none =>
      match h[a.β]? with
      | some (.rows et f e ver _) => afterMA r (n + 1) q (h.set a.β (.rows et f e (ver + 1) (.v n)))
      | _ => afterMA r (n + 1) q (h.set a.β (a.k.sb 0 (.v n)))
    | some i =>
      match h[a.β]? with
      | some (.rows et f e ver x) =>
        let (h', ps) := afterMA r (n + 1) (q + 1) (h.set a.β (.rows et f e ver (.v q)))
        (h', (.set, [x, i, .v n]) :: ps)
      | _ => afterMA r (n + 1) q h

structure Env where
  P : Program
  ext : FuncId → Option Ext
  sig : FuncId → Option (Nat × Sig)

def guardOf (S : SS) (ops : List Oper) (o : Oper) : Res Guard :=
  match o.guard with
  | none => .ok none
  | some (j, w) =>
    match (ops[j]?).bind (·.dst) with
    | some d => match S.slots[d]? with
      | some (.c (.s (.dat (.b .bool) (.v i)))) => if i < S.n then .ok (some (.v i, w)) else .error "guard place"
      | some (.gd _ _ (.c (.s (.dat (.b .bool) (.v i))))) => if i < S.n then .ok (some (.v i, w)) else .error "guard place"
      | _ => .error "guard slot"
    | none => .error "guard dst"

def wrapG (g : Guard) (s : SV) : SV := match g with | none => s | some (x, w) => .gd x w s

/-- Under a guard every plain result has a place of its own in the environment. -/
def ownPlace (n : Nat) (g : Guard) (r : Loc) : Loc :=
  match g, r with
  | some _, (.c (.s (.dat t x)), []) => (.c (.s (.dat t (.v n))), [(.id, [x])])
  | _, r => r
def freshSV (n m : Nat) : SV → Bool
  | .c (.s (.dat _ x)) => match x with | .v i => n ≤ i && i < n + m | .c _ => false
  | .gd _ _ _ => false
  | _ => true

/-- Static facts of an element type: its plain cells, where the program's table agrees with them. -/
def elemOk (P : Program) (e : TypeId) (et : ET) : Bool :=
  match P.info? e with
  | some i => decide (etOf P e = some et) && decide (i.size = et.cells.length) && decide (0 < i.size ∧ i.size ≤ 64) && decide (i.bytes ≤ 64) && (match i.zero with | some z => decide (z.cells.size = i.size) | none => false)
  | none => false
/-- An element type that is a slice of such. -/
def elemSl (P : Program) (e : TypeId) (et : ET) (e' : TypeId) : Bool :=
  match P.info? e with
  | some i => (match P.underlying e with | some (.slice x) => x == e' | _ => false) && decide (i.size = 1) && decide (i.bytes ≤ 64) && (match i.zero with | some (.slice none 0 0) => true | _ => false) && elemOk P e' et
  | none => false
/-- What an own slice of this type is made as. -/
def mkOf (P : Program) (t : TypeId) : Option MK :=
  match P.underlying t with
  | some (.slice e) =>
    match P.underlying e with
    | some (.slice e') => match etOf P e' with | some et => if elemSl P e et e' then some (.rows et e' e) else none | none => none
    | _ => match etOf P e with | some et => if elemOk P e et then some (.row (.s1 et) e) else none | none => none
  | _ => none

/-- An element's data out of its cells. -/
def elemPush (n : Nat) (et : ET) (cs : List CV) : Res (Atom × List Push) := do
  let xs ← cellAtoms0 et.cells cs
  if et.agg then .ok (.v n, [(.mkagg, xs)]) else match xs with | [x] => .ok (x, []) | _ => .error "element"
where cellAtoms0 : List BT → List CV → Res (List Atom)
  | [], [] => .ok []
  | t :: ts, .s (.dat (.b t') x) :: cs => if t = t' then do let xs ← cellAtoms0 ts cs; .ok (x :: xs) else .error "element cell"
  | _, _ => .error "element cells"
/-- The elements of a slice that is written out. -/
def elemsPush (et : ET) : Nat → List SV → Res (List Atom × List Push)
  | _, [] => .ok ([], [])
  | n, v :: vs => do
    match svCells v with
    | some (ag, cs) =>
      if ag = et.agg then do
        let (x, p) ← elemPush n et cs
        let (xs, ps) ← elemsPush et (n + p.length) vs
        .ok (x :: xs, p ++ ps)
      else .error "element kind"
    | none => .error "element value"
/-- Own rows that become the rows of rows. -/
def ownRows (S : SS) (et : ET) (e' : TypeId) : List SV → Res (List Nat × List Atom)
  | [] => .ok ([], [])
  | .c (.s (.own β)) :: vs => do
    match S.heap[β]? with
    | some (.row t e x) =>
      if t = .s1 et ∧ e = e' then do let (bs, xs) ← ownRows S et e' vs; .ok (β :: bs, x :: xs) else .error "row type"
    | _ => .error "own row"
  | _ => .error "rows of what is not own"
def killAll (h : List SB) (bs : List Nat) : List SB := bs.foldl (fun h β => h.set β .dead) h

/-- What a heap operation does to the heap: the value, what is pushed, the new heap, which old own blocks it touches. -/
abbrev Hop := SV × List Push × List SB × List Nat

/-- A slice that is written out. -/
def hopBuildSlice (P : Program) (S : SS) (t : TypeId) (len : Nat) (parts : List (Nat × SV)) : Res Hop := do
  let k ← need (mkOf P t) "slice type"
  if parts.map (·.1) = List.range len ∧ len ≤ 4096 then
    match k with
    | .row (.s1 et) e => do
      let (xs, ps) ← elemsPush et S.n (parts.map (·.2))
      .ok (.c (.s (.own S.heap.length)), ps ++ [(.mklst, xs)], S.heap ++ [.row (.s1 et) e (.v (S.n + ps.length))], [])
    | .rows et e' e => do
      let (bs, xs) ← ownRows S et e' (parts.map (·.2))
      if bs.Nodup then .ok (.c (.s (.own S.heap.length)), [(.mklst, xs)], killAll S.heap bs ++ [.rows et e' e 0 (.v S.n)], bs) else .error "one row twice"
    | _ => .error "slice kind"
  else .error "parts"

/-- Zero data of an element. -/
def zeroD (P : Program) (e : TypeId) (et : ET) : Option D :=
  match P.info? e with
  | some i => match i.zero with
    | some z => match litCells z.cells.toList with
      | some cs => (zs et.cells cs).map (unflatD et.agg)
      | none => none
    | none => none
  | none => none
where
  unflatD (agg : Bool) (ds : List D) : D := if agg then .agg ds else ds.headD .undef
  zs : List BT → List CV → Option (List D)
  | [], [] => some []
  | t :: ts, .s (.dat (.b t') (.c d)) :: cs => if t = t' then (zs ts cs).map (d :: ·) else none
  | _, _ => none
def Atom.same : Atom → Atom → Bool
  | .v i, .v j => i == j
  | .c (.int a), .c (.int b) => a == b
  | _, _ => false
def hopMakeSlice (P : Program) (S : SS) (t : TypeId) (a b : SV) : Res Hop := do
  let k ← need (mkOf P t) "slice type"
  match a, b with
  | .c (.s (.dat (.b (.int .i64)) x)), .c (.s (.dat (.b (.int .i64)) y)) =>
    if Atom.same x y then
      match k with
      | .row (.s1 et) e => do
        let z ← need (zeroD P e et) "zero"
        .ok (.c (.s (.own S.heap.length)), [(.rep, [x, .c z])], S.heap ++ [.row (.s1 et) e (.v S.n)], [])
      | .rows et e' e => .ok (.c (.s (.own S.heap.length)), [(.rep, [x, .c (.lst [])])], S.heap ++ [.rows et e' e 0 (.v S.n)], [])
      | _ => .error "slice kind"
    else .error "room beyond the length"
  | _, _ => .error "make"

/-- Appending: to an own slice, which is another one then. -/
def hopAppend (P : Program) (S : SS) (t : TypeId) (a b : SV) : Res Hop := do
  let k ← need (mkOf P t) "append type"
  let (x, ha, tch) ← (match a with
    | .c (.s .nils) => .ok (.c (.lst []), S.heap, [])
    | .c (.s (.own β)) =>
      match S.heap[β]?, k with
      | some (.row u e x), .row u' e' => if u = u' ∧ e = e' then .ok (x, S.heap.set β .dead, [β]) else .error "append row"
      | some (.rows et f e _ x), .rows et' f' e' => if et = et' ∧ f = f' ∧ e = e' then .ok (x, S.heap.set β .dead, [β]) else .error "append rows"
      | _, _ => .error "append to"
    | _ => .error "append to what is not own" : Res (Atom × List SB × List Nat))
  match k, b with
  | .row (.s1 et) e, .c (.s (.dat (.s1 et') y)) =>
    if et = et' then .ok (.c (.s (.own S.heap.length)), [(.app, [x, y])], ha ++ [.row (.s1 et) e (.v S.n)], tch) else .error "append type"
  | .row (.s1 et) e, .c (.s .nils) => .ok (.c (.s (.own S.heap.length)), [(.app, [x, .c (.lst [])])], ha ++ [.row (.s1 et) e (.v S.n)], tch)
  | .row (.s1 et) e, .c (.s (.own γ)) =>
    match ha[γ]? with
    | some (.row (.s1 et') _ y) => if et = et' then .ok (.c (.s (.own S.heap.length)), [(.app, [x, y])], ha ++ [.row (.s1 et) e (.v S.n)], tch) else .error "append type"
    | _ => .error "append what"
  | .rows et e' e, .c (.s (.own γ)) =>
    match ha[γ]? with
    | some (.rows et' f' e'' _ y) =>
      if et = et' ∧ f' = e' ∧ e'' = e then .ok (.c (.s (.own S.heap.length)), [(.app, [x, y])], ha.set γ .dead ++ [.rows et e' e 0 (.v S.n)], γ :: tch) else .error "append rows type"
    | _ => .error "append what rows"
  | _, _ => .error "append kind"

/-- A store through the address of an element of an own slice. -/
def hopStore (P : Program) (S : SS) (t : TypeId) (β : Nat) (i : Atom) (sz' off : Nat) (v : SV) : Res Hop := do
  let sz ← need (sizeB P t) "store size"
  match S.heap[β]? with
  | some (.row (.s1 et) e x) =>
    match svCells v with
    | some (_, vs) =>
      if sz' = et.cells.length ∧ vs.length = sz ∧ off + sz ≤ et.cells.length ∧ 0 < sz then do
        let ys ← elemPush.cellAtoms0 ((et.cells.drop off).take sz) vs
        if et.agg then
          if sz = et.cells.length then .ok (SV.undef, [(.mkagg, ys), (.set, [x, i, .v S.n])], S.heap.set β (.row (.s1 et) e (.v (S.n + 1))), [β])
          else
            let m := et.cells.length
            let pre : List Push := (.idx, [x, i]) :: (List.range m).map fun j => (.proj j, [.v S.n])
            let cells : List Atom := ((List.range m).map fun j => Atom.v (S.n + 1 + j)).take off ++ ys ++ ((List.range m).map fun j => Atom.v (S.n + 1 + j)).drop (off + sz)
            .ok (SV.undef, pre ++ [(.mkagg, cells), (.set, [x, i, .v (S.n + 1 + m)])], S.heap.set β (.row (.s1 et) e (.v (S.n + 2 + m))), [β])
        else match ys with
          | [y] => if et.cells.length = 1 then .ok (SV.undef, [(.set, [x, i, y])], S.heap.set β (.row (.s1 et) e (.v S.n)), [β]) else .error "store element"
          | _ => .error "store element"
      else .error "store shape"
    | none => .error "store value"
  | some (.rows et e' e ver x) =>
    match v with
    | .c (.s (.own γ)) =>
      match S.heap[γ]? with
      | some (.row (.s1 et') e'' y) =>
        if γ ≠ β ∧ et = et' ∧ e'' = e' ∧ sz' = 1 ∧ off = 0 ∧ sz = 1 then .ok (SV.undef, [(.set, [x, i, y])], (S.heap.set γ .dead).set β (.rows et e' e (ver + 1) (.v S.n)), [β, γ]) else .error "store row type"
      | _ => .error "store row"
    | _ => .error "store in rows"
  | _ => .error "store block"


/-- The value of a new variable's or a part's store. -/
def hop (P : Program) (S : SS) (o : Oper) : Res Hop :=
  match o.op with
  | .box _ x => do
    let a ← getSV S x
    match svCells a with
    | some (_, cs) => if cs.all plainCV then .ok (.c (.s (.vptr S.heap.length 0)), [], S.heap ++ [.var cs], []) else .error "box cells"
    | none => .error "box"
  | .alloc t => do
    let i ← need (P.info? t) "alloc type"
    let z ← need i.zero "alloc zero"
    let cs ← need (litCells z.cells.toList) "alloc cells"
    .ok (.c (.s (.vptr S.heap.length 0)), [], S.heap ++ [.var cs], [])
  | .store t p x => do
    let pa ← getSV S p
    let a ← getSV S x
    match pa with
    | .c (.s (.vptr β off)) => do
      let sz ← need (sizeB P t) "store size"
      match svCells a with
      | some (_, vs) =>
        match S.heap[β]? with
        | some (.var cs) =>
          if vs.length = sz ∧ off + sz ≤ cs.length ∧ vs.all plainCV then .ok (SV.undef, [], S.heap.set β (.var (cs.take off ++ vs ++ cs.drop (off + sz))), [β]) else .error "store shape"
        | _ => .error "store block"
      | none => .error "store"
    | .c (.s (.eptr β i sz off)) => hopStore P S t β i sz off a
    | _ => .error "store"
  | .buildSlice t len parts => do
    let l ← svParts S none parts.toList
    hopBuildSlice P S t len l
  | .makeSlice t l c => do hopMakeSlice P S t (← getSV S l) (← getSV S c)
  | .call { callee := .builtin .append, args, argTypes } => do
    match ← getSVs S none args.toList, argTypes.toList with
    | [a, b], [t, t'] => if t = t' then hopAppend P S t a b else .error "append types"
    | _, _ => .error "append"
  | .slice t x lo hi none => do
    match ← getSV S x with
    | .c (.s (.own β)) => do
      let a ← (match lo with | none => .ok none | some y => do let v ← getSV S y; .ok (some v))
      let b ← (match hi with | none => .ok none | some y => do let v ← getSV S y; .ok (some v))
      match S.heap[β]? with
      | some (.row (.s1 et) _ l) => do let (v, ps) ← lopSlice P S.n t l (.s1 et) a b; .ok (v, ps, S.heap.set β .dead, [β])
      | some (.rows et _ _ _ l) => do let (v, ps) ← lopSlice P S.n t l (.s2 et) a b; .ok (v, ps, S.heap.set β .dead, [β])
      | _ => .error "slice block"
    | _ => .error "slice"
  | _ => .error "no operation"

/-- Which function is called: by its name, or as a value with what it captured. -/
def calleeOf (S : SS) : Operand → Res (FuncId × List SV)
  | .func f => .ok (f, [])
  | .tmp t => do
    match ← getSV S (.tmp t) with
    | .c (.fn f cs) => .ok (f, cs.map fun c => .c (.s c))
    | _ => .error "callee"
  | _ => .error "callee"

def sop (E : Env) (ops : List Oper) (S : SS) (o : Oper) : Res (SS × Guard × Eff × List Nat) := do
  let g ← guardOf S ops o
  match lop E.P E.ext S g o with
  | .ok r => do
    let (v, ps) := ownPlace S.n g r
    if g.isSome ∧ freshSV S.n ps.length v = false then .error "guarded value" else do
    let slots ← put S o.dst (wrapG g v)
    .ok ({ S with n := S.n + ps.length, slots }, g, .prims ps, [])
  | .error why =>
    match o.op with
    | .call { callee := .value fo, args, .. } => do
      let (f, caps) ← calleeOf S fo
      match E.sig f with
      | some (key, sg) => do
        let as ← getSVs S g args.toList
        let ar ← argAll S S.n sg.params (as ++ caps)
        let n1 := S.n + ar.pre.length
        let m := resCount sg.results + sg.keeps.length
        let (heap', post) := afterMA ar.mas (n1 + resCount sg.results) (n1 + m) S.heap
        let (rs, bs) := resAll sg.results n1 S.heap.length
        let v ← need (resSV rs) "result shape"
        if ¬ (ar.mas.map MA.β).Nodup ∨ ar.rds.any (fun β => (ar.mas.map MA.β).contains β) = true then .error "one own block twice" else
        if g.isSome ∧ (bs.isEmpty = false ∨ ar.mas.isEmpty = false ∨ ar.pre.isEmpty = false ∨ freshSV n1 m v = false) then .error "own results under a guard" else do
        let slots ← put S o.dst (wrapG g v)
        .ok ({ n := n1 + m + post.length, slots, heap := heap' ++ bs }, g, .call ar.pre key ar.xs m post, ar.mas.map MA.β)
      | none => .error "no signature"
    | _ =>
      if g.isSome then .error why else do
      let (v, ps, heap, tch) ← hop E.P S o
      let slots ← put S o.dst v
      .ok ({ n := S.n + ps.length, slots, heap }, g, .prims ps, tch)

end Vs
