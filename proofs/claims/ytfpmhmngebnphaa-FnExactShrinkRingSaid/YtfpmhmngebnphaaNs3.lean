/-
  How plain data lie in the machine's memory, and what a symbolic state says of a frame and a world.
-/
import Derived.Test.YtfpmhmngebnphaaNs2
import Derived.WalkKit
namespace Vs
open Go Go.RowKit

/-! ### Reading -/
def unflat (agg : Bool) (ds : List D) : D := if agg then .agg ds else ds.headD .undef

def RdB : BT → Value → D → Prop
  | .int k, v, d => ∃ n, v = .int k n ∧ d = .int n
  | .bool, v, d => ∃ b, v = .bool b ∧ d = .bool b
  | .flt k, v, d => ∃ b, v = .float k b ∧ d = .flt (canon k b)
  | .str, v, d => ∃ s, v = .string s ∧ d = .str s

/-- Cells beside their data. -/
def RdCs {α : Type} (R : α → Value → D → Prop) : List α → List Value → List D → Prop
  | [], [], [] => True
  | t :: ts, v :: vs, d :: ds => R t v d ∧ RdCs R ts vs ds
  | _, _, _ => False

/-- A row of cells, element by element. -/
def RdRow {α : Type} (R : α → Value → D → Prop) (ts : List α) : List Value → List (List D) → Prop
  | xs, [] => xs = []
  | xs, l :: ls => ∃ c r, xs = c ++ r ∧ RdCs R ts c l ∧ RdRow R ts r ls

/-- A slice's value that reads, over blocks that F lets. -/
def RdSl (w : World) (F : Nat → Prop) (rr : List Value → List (List D) → Prop) (agg : Bool) (v : Value) (d : D) : Prop :=
  ∃ ls : List (List D), d = .lst (ls.map (unflat agg)) ∧ (((∃ a cap, v = .slice a 0 cap ∧ (a = none → cap = 0)) ∧ ls = []) ∨
    ∃ b off cap xs, v = .slice (some ⟨b, off, none⟩) ls.length cap ∧ ls.length ≤ cap ∧ F b ∧ (∀ (j : Nat) u, xs[j]? = some u → w.cell? ⟨b, off + j, none⟩ = some u) ∧ rr xs ls)

def rr1 (e : ET) : List Value → List (List D) → Prop := RdRow RdB e.cells
def rr2 (w : World) (F : Nat → Prop) (e : ET) : List Value → List (List D) → Prop := RdRow (fun (_ : Unit) v d => RdSl w F (rr1 e) e.agg v d) [()]

def RdC (w : World) (F : Nat → Prop) : CT → Value → D → Prop
  | .b t => RdB t
  | .s1 e => RdSl w F (rr1 e) e.agg
  | .s2 e => RdSl w F (rr2 w F e) false

def rowRd (w : World) (F : Nat → Prop) : CT → List Value → List (List D) → Prop
  | .s1 e => rr1 e
  | .s2 e => rr2 w F e
  | .b _ => fun _ _ => False

theorem RdCs.mono {α : Type} {R R' : α → Value → D → Prop} (h : ∀ t v d, R t v d → R' t v d) : ∀ {ts : List α} {vs : List Value} {ds : List D}, RdCs R ts vs ds → RdCs R' ts vs ds
  | [], [], [], _ => trivial
  | _ :: _, _ :: _, _ :: _, ⟨a, b⟩ => ⟨h _ _ _ a, RdCs.mono h b⟩

theorem RdRow.mono {α : Type} {R R' : α → Value → D → Prop} (h : ∀ t v d, R t v d → R' t v d) {ts : List α} : ∀ {ls : List (List D)} {xs : List Value}, RdRow R ts xs ls → RdRow R' ts xs ls
  | [], _, e => e
  | _ :: _, _, ⟨c, r, e, a, b⟩ => ⟨c, r, e, a.mono h, RdRow.mono h b⟩

/-- What F lets has not turned, and F' lets it. -/
structure Stays (F F' : Nat → Prop) (w w' : World) : Prop where
  le : ∀ b, F b → F' b
  same : ∀ b, F b → w'.heap[b]? = w.heap[b]?

theorem Stays.cell {F F' : Nat → Prop} {w w' : World} (h : Stays F F' w w') {b : Nat} (hb : F b) (o : Nat) : w'.cell? ⟨b, o, none⟩ = w.cell? ⟨b, o, none⟩ :=
  World.cell?_of_block (a := ⟨b, o, none⟩) (h.same b hb)

theorem RdSl.mono {F F' : Nat → Prop} {w w' : World} (h : Stays F F' w w') {rr rr' : List Value → List (List D) → Prop} (hr : ∀ xs ls, rr xs ls → rr' xs ls) {agg : Bool} {v : Value} {d : D}
    (hh : RdSl w F rr agg v d) : RdSl w' F' rr' agg v d := by
  obtain ⟨ls, hd, hn | ⟨b, off, cap, xs, hv, hcap, hb, hc, hx⟩⟩ := hh
  · exact ⟨ls, hd, .inl hn⟩
  · exact ⟨ls, hd, .inr ⟨b, off, cap, xs, hv, hcap, h.le b hb, fun j u hu => by rw [h.cell hb]; exact hc j u hu, hr _ _ hx⟩⟩

theorem rr2.mono {F F' : Nat → Prop} {w w' : World} (h : Stays F F' w w') {e : ET} : ∀ xs ls, rr2 w F e xs ls → rr2 w' F' e xs ls :=
  fun _ _ => RdRow.mono fun _ _ _ => RdSl.mono h fun _ _ h => h

theorem RdC.mono {F F' : Nat → Prop} {w w' : World} (h : Stays F F' w w') {t : CT} {v : Value} {d : D} (hh : RdC w F t v d) : RdC w' F' t v d := by
  cases t with
  | b t => exact hh
  | s1 e => exact RdSl.mono h (fun _ _ h => h) hh
  | s2 e => exact RdSl.mono h (rr2.mono h) hh

theorem rowRd.mono {F F' : Nat → Prop} {w w' : World} (h : Stays F F' w w') {t : CT} {xs : List Value} {ls : List (List D)} (hh : rowRd w F t xs ls) : rowRd w' F' t xs ls := by
  cases t with
  | b t => exact hh
  | s1 e => exact hh
  | s2 e => exact rr2.mono h _ _ hh

/-! ### Symbolic values and what they stand for -/
def Atom.get (ρ : List D) : Atom → Option D
  | .v i => ρ[i]?
  | .c d => some d

theorem Atom.ev_of_get {ρ : List D} {x : Atom} {d : D} (h : x.get ρ = some d) : x.ev ρ = d := by
  cases x with
  | v i => simp only [Atom.get] at h; simp [Atom.ev, List.getD_eq_getElem?_getD, h]
  | c d' => simp only [Atom.get, Option.some.injEq] at h; exact h

theorem Atom.get_append {ρ σ : List D} {x : Atom} {d : D} (h : x.get ρ = some d) : x.get (ρ ++ σ) = some d := by
  cases x with
  | v i =>
    simp only [Atom.get] at *
    rw [List.getElem?_append_left]
    · exact h
    · rcases Nat.lt_or_ge i ρ.length with h' | h'
      · exact h'
      · rw [List.getElem?_eq_none h'] at h; cases h
  | c d' => exact h

/-- What an own block stands for: its value, and the versions of its cells, if these are own slices too. -/
structure MV where
  v : Value
  hist : List (List Value)
abbrev Mu := Nat → MV
/-- The block that an own thing's value leads to. -/
def blkOf : Value → Option Nat
  | .pointer (some a) => some a.block
  | .slice (some a) _ _ => some a.block
  | _ => none
/-- The own slices in its cells. -/
def MV.inner (m : MV) : List Value := (m.hist.getLast?).getD []
def MV.own (m : MV) (b : Nat) : Prop := blkOf m.v = some b ∨ ∃ u ∈ m.inner, blkOf u = some b
def MV.one (v : Value) : MV := ⟨v, []⟩
theorem MV.inner_nil {m : MV} (h : m.hist = []) : m.inner = [] := by simp [MV.inner, h]
theorem MV.own_flat {m : MV} (h : m.hist = []) {b : Nat} : m.own b ↔ blkOf m.v = some b := by simp [MV.own, MV.inner_nil h]

def live (h : List SB) (β : Nat) : Prop := ∃ sb, h[β]? = some sb ∧ sb ≠ .dead

/-- Blocks that stay: whatever there is, but for the own blocks. -/
def Fz (X : Nat → Prop) (h : List SB) (μ : Mu) (w : World) (b : Nat) : Prop := (b < w.heap.size ∧ ¬ X b) ∧ ∀ β, live h β → ¬ (μ β).own b

def FCR (w : World) (F : Nat → Prop) (hl : Nat) (μ : Mu) (ρ : List D) : FC → Value → Prop
  | .d t x, v => ∃ d, x.get ρ = some d ∧ RdC w F t v d
  | .o β, v => β < hl ∧ v = (μ β).v ∧ ∃ a len cap, (μ β).v = .slice a len cap

def CVR0 (w : World) (F : Nat → Prop) (hl : Nat) (μ : Mu) (ρ : List D) : CV0 → Value → Prop
  | .undef, _ => True
  | .nils, v => v = .slice none 0 0
  | .dat t x, v => ∃ d, x.get ρ = some d ∧ RdC w F t v d
  | .own β, v => β < hl ∧ v = (μ β).v ∧ ∃ a len cap, (μ β).v = .slice a len cap
  | .vptr β off, v => β < hl ∧ ∃ b, (μ β).v = .pointer (some ⟨b, 0, none⟩) ∧ v = .pointer (some ⟨b, off, none⟩)
  | .eptr β i sz off, v => β < hl ∧ ∃ b len cap n, (μ β).v = .slice (some ⟨b, 0, none⟩) len cap ∧ i.get ρ = some (.int n) ∧ 0 ≤ n ∧ n < (len : Int) ∧ v = .pointer (some ⟨b, n.toNat * sz + off, none⟩)
  | .rref β ver i, v => β < hl ∧ ∃ l n, (μ β).hist[ver]? = some l ∧ i.get ρ = some (.int n) ∧ 0 ≤ n ∧ l[n.toNat]? = some v ∧ ∃ a len cap, v = .slice a len cap
  | .fcel cs off, v => ∃ b o, v = .pointer (some ⟨b, o + off, none⟩) ∧ F b ∧ ∀ (j : Nat) c, cs[j]? = some c → ∃ u, w.cell? ⟨b, o + j, none⟩ = some u ∧ FCR w F hl μ ρ c u

def CVR (w : World) (F : Nat → Prop) (hl : Nat) (μ : Mu) (ρ : List D) : CV → Value → Prop
  | .s c, v => CVR0 w F hl μ ρ c v
  | .fn f caps, v => ∃ cs, v = .func (.func f) #[] cs ∧ cs.size = caps.length ∧ ∀ (j : Nat) c u, caps[j]? = some c → cs[j]? = some u → CVR0 w F hl μ ρ c u

/-- Cells side by side. -/
def CVRs (w : World) (F : Nat → Prop) (hl : Nat) (μ : Mu) (ρ : List D) : List CV → List Value → Prop
  | [], [] => True
  | c :: cs, v :: vs => CVR w F hl μ ρ c v ∧ CVRs w F hl μ ρ cs vs
  | _, _ => False

def PVR (w : World) (F : Nat → Prop) (hl : Nat) (μ : Mu) (ρ : List D) (agg : Bool) (cs : List CV) (v : Value) : Prop :=
  match agg with
  | true => ∃ arr : Array Value, v = .agg arr ∧ CVRs w F hl μ ρ cs arr.toList
  | false => ∃ c, cs = [c] ∧ CVR w F hl μ ρ c v

def TVR (w : World) (F : Nat → Prop) (hl : Nat) (μ : Mu) (ρ : List D) : List (Bool × List CV) → List Value → Prop
  | [], [] => True
  | (ag, cs) :: r, v :: vs => PVR w F hl μ ρ ag cs v ∧ TVR w F hl μ ρ r vs
  | _, _ => False

/-- What was passed over has no truth value in its place. -/
def unset (ρ : List D) : SV → Prop
  | .c (.s (.dat _ (.v i))) => ∃ d, ρ[i]? = some d ∧ ∀ b, d ≠ .bool b
  | _ => True

def SVR (w : World) (F : Nat → Prop) (hl : Nat) (μ : Mu) (ρ : List D) : SV → Value → Prop
  | .c x, v => CVR w F hl μ ρ x v
  | .agg cs, v => ∃ arr : Array Value, v = .agg arr ∧ CVRs w F hl μ ρ cs arr.toList
  | .tup vs, v => ∃ arr : Array Value, v = .tuple arr ∧ TVR w F hl μ ρ vs arr.toList
  | .gd g want s, v => g.get ρ ≠ none ∧ (g.get ρ = some (.bool want) → SVR w F hl μ ρ s v) ∧ (g.get ρ ≠ some (.bool want) → v = Go.undef ∧ unset ρ s)

/-- What the new environment and world leave as it was. -/
structure Grows (F F' : Nat → Prop) (hl hl' : Nat) (μ μ' : Mu) (ρ ρ' : List D) (w w' : World) : Prop where
  stays : Stays F F' w w'
  env : ∃ σ, ρ' = ρ ++ σ
  len : hl ≤ hl'
  mu : ∀ β, β < hl → (μ' β).v = (μ β).v ∧ ∃ ext, (μ' β).hist = (μ β).hist ++ ext

section
variable {F F' : Nat → Prop} {μ μ' : Mu} {hl hl' : Nat} {ρ ρ' : List D} {w w' : World}

theorem Grows.get (h : Grows F F' hl hl' μ μ' ρ ρ' w w') {x : Atom} {d : D} (hx : x.get ρ = some d) : x.get ρ' = some d := by
  obtain ⟨σ, rfl⟩ := h.env
  exact Atom.get_append hx

theorem Grows.v (h : Grows F F' hl hl' μ μ' ρ ρ' w w') {β : Nat} (hb : β < hl) : (μ' β).v = (μ β).v := (h.mu β hb).1

theorem FCR.mono (h : Grows F F' hl hl' μ μ' ρ ρ' w w') {c : FC} {v : Value} (hh : FCR w F hl μ ρ c v) : FCR w' F' hl' μ' ρ' c v := by
  cases c with
  | d t x => obtain ⟨d, hx, hd⟩ := hh; exact ⟨d, h.get hx, hd.mono h.stays⟩
  | o β => obtain ⟨hb, hh⟩ := hh; refine ⟨Nat.lt_of_lt_of_le hb h.len, ?_⟩; rw [h.v hb]; exact hh

theorem CVR0.mono (h : Grows F F' hl hl' μ μ' ρ ρ' w w') {c : CV0} {v : Value} (hh : CVR0 w F hl μ ρ c v) : CVR0 w' F' hl' μ' ρ' c v := by
  cases c with
  | undef => trivial
  | nils => exact hh
  | dat t x => obtain ⟨d, hx, hd⟩ := hh; exact ⟨d, h.get hx, hd.mono h.stays⟩
  | own β => obtain ⟨hb, hh⟩ := hh; refine ⟨Nat.lt_of_lt_of_le hb h.len, ?_⟩; rw [h.v hb]; exact hh
  | vptr β off => obtain ⟨hb, hh⟩ := hh; refine ⟨Nat.lt_of_lt_of_le hb h.len, ?_⟩; rw [h.v hb]; exact hh
  | eptr β i sz off =>
    obtain ⟨hb, b, len, cap, n, h1, h2, h3⟩ := hh
    refine ⟨Nat.lt_of_lt_of_le hb h.len, b, len, cap, n, ?_, h.get h2, h3⟩
    rw [h.v hb]; exact h1
  | rref β ver i =>
    obtain ⟨hb, l, n, h1, h2, h3⟩ := hh
    obtain ⟨_, ext, he⟩ := h.mu β hb
    refine ⟨Nat.lt_of_lt_of_le hb h.len, l, n, ?_, h.get h2, h3⟩
    rw [he, List.getElem?_append_left (List.getElem?_eq_some_iff.1 h1).1]; exact h1
  | fcel cs off =>
    obtain ⟨b, o, h1, h2, h3⟩ := hh
    refine ⟨b, o, h1, h.stays.le b h2, fun j c hj => ?_⟩
    obtain ⟨u, a1, a2⟩ := h3 j c hj
    exact ⟨u, by rw [h.stays.cell h2]; exact a1, a2.mono h⟩

theorem CVR.mono (h : Grows F F' hl hl' μ μ' ρ ρ' w w') {c : CV} {v : Value} (hh : CVR w F hl μ ρ c v) : CVR w' F' hl' μ' ρ' c v := by
  cases c with
  | s c => exact CVR0.mono h hh
  | fn f caps => obtain ⟨cs, h1, h2, h3⟩ := hh; exact ⟨cs, h1, h2, fun j c u a b => (h3 j c u a b).mono h⟩

theorem CVRs.mono (h : Grows F F' hl hl' μ μ' ρ ρ' w w') : ∀ {cs : List CV} {vs : List Value}, CVRs w F hl μ ρ cs vs → CVRs w' F' hl' μ' ρ' cs vs
  | [], [], _ => trivial
  | _ :: _, _ :: _, ⟨a, b⟩ => ⟨a.mono h, CVRs.mono h b⟩

theorem PVR.mono (h : Grows F F' hl hl' μ μ' ρ ρ' w w') {ag : Bool} {cs : List CV} {v : Value} (hh : PVR w F hl μ ρ ag cs v) : PVR w' F' hl' μ' ρ' ag cs v := by
  cases ag with
  | true => obtain ⟨arr, e, hc⟩ := hh; exact ⟨arr, e, hc.mono h⟩
  | false => obtain ⟨c, e, hc⟩ := hh; exact ⟨c, e, hc.mono h⟩

theorem TVR.mono (h : Grows F F' hl hl' μ μ' ρ ρ' w w') : ∀ {cs : List (Bool × List CV)} {vs : List Value}, TVR w F hl μ ρ cs vs → TVR w' F' hl' μ' ρ' cs vs
  | [], [], _ => trivial
  | (_, _) :: _, _ :: _, ⟨a, b⟩ => ⟨a.mono h, TVR.mono h b⟩

theorem SVR.mono (h : Grows F F' hl hl' μ μ' ρ ρ' w w') : ∀ {s : SV} {v : Value}, SVR w F hl μ ρ s v → SVR w' F' hl' μ' ρ' s v
  | .c _, _, hh => CVR.mono h hh
  | .agg _, _, ⟨arr, e, hc⟩ => ⟨arr, e, hc.mono h⟩
  | .tup _, _, ⟨arr, e, hc⟩ => ⟨arr, e, hc.mono h⟩
  | .gd g want s, v, ⟨h0, hh, hu⟩ => by
    cases hg : g.get ρ with
    | none => exact absurd hg h0
    | some d =>
      have := h.get hg
      refine ⟨by rw [this]; simp, fun hw => SVR.mono h (hh ?_), fun hw => ?_⟩
      · rw [this] at hw
        rw [hg]; exact hw
      · rw [this] at hw
        obtain ⟨h1, h2⟩ := hu (by rw [hg]; exact hw)
        refine ⟨h1, ?_⟩
        unfold unset at h2 ⊢
        split
        · rename_i i
          obtain ⟨d', hd, hb⟩ := h2
          have hx : (Atom.v i).get ρ = some d' := hd
          exact ⟨d', h.get hx, hb⟩
        · trivial
end

/-- Own slices side by side: no block is met twice. -/
def Apart (us : List Value) : Prop := ∀ (i j : Nat) u u', us[i]? = some u → us[j]? = some u' → i ≠ j → ∀ b, blkOf u = some b → blkOf u' ≠ some b

/-- An own slice of own slices: its rows. -/
def RowsD (w : World) (et : ET) (e' : TypeId) (us : List Value) (ls : List (List (List D))) : Prop :=
  us.length = ls.length ∧ ∀ (i : Nat) u l, us[i]? = some u → ls[i]? = some l → ∃ n xs, w.ownsRow 0 e' et.cells.length u n xs ∧ l.length = n ∧ RdRow RdB et.cells xs l
def rowsDat (agg : Bool) (ls : List (List (List D))) : D := .lst (ls.map fun l => .lst (l.map (unflat agg)))

/-- An own block. 'Mine': which blocks may be own (new ones, or such as were handed over). -/
def BlkR (Mine : Nat → Prop) (w : World) (F : Nat → Prop) (hl : Nat) (μ : Mu) (ρ : List D) : SB → MV → Prop
  | .dead, _ => True
  | .hid, m => ∀ b, m.own b → b < w.heap.size
  | .var cs, m => m.hist = [] ∧ ∃ b arr T, m.v = .pointer (some ⟨b, 0, none⟩) ∧ Mine b ∧ w.heap[b]? = some (.cells arr T (0, 0)) ∧ CVRs w F hl μ ρ cs arr.toList
  | .row t e x, m => m.hist = [] ∧ ∃ n xs ls, w.ownsRow 0 e (rowSz t) m.v n xs ∧ (∀ b, m.own b → Mine b) ∧ x.get ρ = some (.lst (ls.map (unflat (rowAgg t)))) ∧ ls.length = n ∧ rowRd w F t xs ls
  | .rows et e' e ver x, m => m.hist.length = ver + 1 ∧ ∃ n ls, w.ownsRow 0 e 1 m.v n m.inner ∧ (∀ b, m.own b → Mine b) ∧ x.get ρ = some (rowsDat et.agg ls) ∧ ls.length = n ∧ RowsD w et e' m.inner ls ∧
      Apart m.inner ∧ ∀ u ∈ m.inner, ∀ b, blkOf u = some b → blkOf m.v ≠ some b

/-- What was there when the call began, but for what was handed over ('M'), is as it was. -/
structure Keeps (M : Nat → Prop) (w w' : World) : Prop where
  os : w'.os = w.os
  tape : w'.tape = w.tape
  output : w'.output = w.output
  size : w.heap.size ≤ w'.heap.size
  block : ∀ k, k < w.heap.size → ¬ M k → w'.heap[k]? = w.heap[k]?

theorem Keeps.refl (M : Nat → Prop) (w : World) : Keeps M w w := ⟨rfl, rfl, rfl, Nat.le_refl _, fun _ _ _ => rfl⟩
theorem Keeps.trans {M : Nat → Prop} {a b c : World} (h : Keeps M a b) (k : Keeps M b c) : Keeps M a c :=
  ⟨k.os.trans h.os, k.tape.trans h.tape, k.output.trans h.output, Nat.le_trans h.size k.size,
    fun i hi hm => (k.block i (Nat.lt_of_lt_of_le hi h.size) hm).trans (h.block i hi hm)⟩

/-- What was handed over when the call began: the blocks, and the values that lead to them. -/
structure Hand where
  M : Nat → Prop
  anc : List Value
instance : CoeFun Hand (fun _ => Nat → Prop) := ⟨Hand.M⟩
instance : Coe Hand (Nat → Prop) := ⟨Hand.M⟩

/-- A symbolic state holds of a frame's temporaries and a world. -/
structure R (X : Nat → Prop) (M : Hand) (w0 : World) (S : SS) (μ : Mu) (ρ : List D) (a : Act) (w : World) : Prop where
  keeps : Keeps M w0 w
  len : ρ.length = S.n
  size : a.tmps.size = S.slots.length
  defers : a.defers = []
  slots : ∀ (i : Nat) s, S.slots[i]? = some s → SVR w (Fz X S.heap μ w) S.heap.length μ ρ s (a.tmps.getD i Go.undef)
  blocks : ∀ (β : Nat) sb, S.heap[β]? = some sb → BlkR (fun b => w0.heap.size ≤ b ∨ M b) w (Fz X S.heap μ w) S.heap.length μ ρ sb (μ β)
  ex : ∀ b, X b → b < w.heap.size
  inj : ∀ β γ, live S.heap β → live S.heap γ → β ≠ γ → ∀ b, (μ β).own b → ¬ (μ γ).own b
  exo : ∀ β, live S.heap β → ∀ b, (μ β).own b → ¬ X b
  anc : ∀ (β : Nat) v, M.anc[β]? = some v → β < S.heap.length ∧ (μ β).v = v

theorem MV.hist_last {m : MV} {ver : Nat} (h : m.hist.length = ver + 1) : m.hist[ver]? = some m.inner := by
  unfold MV.inner
  rw [List.getLast?_eq_getElem?, h, Nat.add_sub_cancel]
  rw [List.getElem?_eq_getElem (by omega)]
  rfl

theorem ownsRow_slice {w : World} {e : TypeId} {sz n : Nat} {v : Value} {xs : List Value} (h : w.ownsRow 0 e sz v n xs) : ∃ a cap, v = .slice a n cap := by
  rcases h.2 with ⟨e1, e2⟩ | ⟨g, cap, cur, e1, _⟩
  · exact ⟨none, 0, by rw [e1, e2]⟩
  · exact ⟨_, _, e1⟩

theorem FCR_cv {w : World} {F : Nat → Prop} {hl : Nat} {μ : Mu} {ρ : List D} {c : FC} {v : Value} : FCR w F hl μ ρ c v ↔ CVR w F hl μ ρ c.cv v := by
  cases c <;> exact Iff.rfl

end Vs
