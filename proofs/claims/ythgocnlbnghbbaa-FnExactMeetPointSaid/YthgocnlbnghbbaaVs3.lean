/-
  How plain data lie in the machine's memory, and what a symbolic state says of a frame and a world.
-/
import Derived.Test.YthgocnlbnghbbaaVs2
import Derived.WalkKit
namespace Vs
open Go Go.RowKit

/-! ### Reading -/
def unflat (agg : Bool) (ds : List D) : D := if agg then .agg ds else ds.headD .undef

def RdB : BT → Value → D → Prop
  | .int k, v, d => ∃ n, v = .int k n ∧ d = .int n
  | .bool, v, d => ∃ b, v = .bool b ∧ d = .bool b
  | .flt k, v, d => ∃ b, v = .float k b ∧ d = .flt (canon k b)
  | .str, v, d => ∃ s, v = .string s ∧ d = .str s

/-- Cells beside their data. -/
def RdCs {α : Type} (R : α → Value → D → Prop) : List α → List Value → List D → Prop
  | [], [], [] => True
  | t :: ts, v :: vs, d :: ds => R t v d ∧ RdCs R ts vs ds
  | _, _, _ => False

/-- A row of cells, element by element. -/
def RdRow {α : Type} (R : α → Value → D → Prop) (ts : List α) : List Value → List (List D) → Prop
  | xs, [] => xs = []
  | xs, l :: ls => ∃ c r, xs = c ++ r ∧ RdCs R ts c l ∧ RdRow R ts r ls

/-- A slice's value that reads, over blocks that F lets. -/
def RdSl (w : World) (F : Nat → Prop) (rr : List Value → List (List D) → Prop) (agg : Bool) (v : Value) (d : D) : Prop :=
  ∃ ls : List (List D), d = .lst (ls.map (unflat agg)) ∧ ((v = .slice none 0 0 ∧ ls = []) ∨
    ∃ b off cap xs, v = .slice (some ⟨b, off, none⟩) ls.length cap ∧ F b ∧ (∀ (j : Nat) u, xs[j]? = some u → w.cell? ⟨b, off + j, none⟩ = some u) ∧ rr xs ls)

def rr1 (e : ET) : List Value → List (List D) → Prop := RdRow RdB e.cells
def rr2 (w : World) (F : Nat → Prop) (e : ET) : List Value → List (List D) → Prop := RdRow (fun (_ : Unit) v d => RdSl w F (rr1 e) e.agg v d) [()]

def RdC (w : World) (F : Nat → Prop) : CT → Value → D → Prop
  | .b t => RdB t
  | .s1 e => RdSl w F (rr1 e) e.agg
  | .s2 e => RdSl w F (rr2 w F e) false

def rowRd (w : World) (F : Nat → Prop) : CT → List Value → List (List D) → Prop
  | .s1 e => rr1 e
  | .s2 e => rr2 w F e
  | .b _ => fun _ _ => False

theorem RdCs.mono {α : Type} {R R' : α → Value → D → Prop} (h : ∀ t v d, R t v d → R' t v d) : ∀ {ts : List α} {vs : List Value} {ds : List D}, RdCs R ts vs ds → RdCs R' ts vs ds
  | [], [], [], _ => trivial
  | _ :: _, _ :: _, _ :: _, ⟨a, b⟩ => ⟨h _ _ _ a, RdCs.mono h b⟩

theorem RdRow.mono {α : Type} {R R' : α → Value → D → Prop} (h : ∀ t v d, R t v d → R' t v d) {ts : List α} : ∀ {ls : List (List D)} {xs : List Value}, RdRow R ts xs ls → RdRow R' ts xs ls
  | [], _, e => e
  | _ :: _, _, ⟨c, r, e, a, b⟩ => ⟨c, r, e, a.mono h, RdRow.mono h b⟩

/-- What F lets has not turned, and F' lets it. -/
structure Stays (F F' : Nat → Prop) (w w' : World) : Prop where
  le : ∀ b, F b → F' b
  same : ∀ b, F b → w'.heap[b]? = w.heap[b]?

theorem Stays.cell {F F' : Nat → Prop} {w w' : World} (h : Stays F F' w w') {b : Nat} (hb : F b) (o : Nat) : w'.cell? ⟨b, o, none⟩ = w.cell? ⟨b, o, none⟩ :=
  World.cell?_of_block (a := ⟨b, o, none⟩) (h.same b hb)

theorem RdSl.mono {F F' : Nat → Prop} {w w' : World} (h : Stays F F' w w') {rr rr' : List Value → List (List D) → Prop} (hr : ∀ xs ls, rr xs ls → rr' xs ls) {agg : Bool} {v : Value} {d : D}
    (hh : RdSl w F rr agg v d) : RdSl w' F' rr' agg v d := by
  obtain ⟨ls, hd, hn | ⟨b, off, cap, xs, hv, hb, hc, hx⟩⟩ := hh
  · exact ⟨ls, hd, .inl hn⟩
  · exact ⟨ls, hd, .inr ⟨b, off, cap, xs, hv, h.le b hb, fun j u hu => by rw [h.cell hb]; exact hc j u hu, hr _ _ hx⟩⟩

theorem rr2.mono {F F' : Nat → Prop} {w w' : World} (h : Stays F F' w w') {e : ET} : ∀ xs ls, rr2 w F e xs ls → rr2 w' F' e xs ls :=
  fun _ _ => RdRow.mono fun _ _ _ => RdSl.mono h fun _ _ h => h

theorem RdC.mono {F F' : Nat → Prop} {w w' : World} (h : Stays F F' w w') {t : CT} {v : Value} {d : D} (hh : RdC w F t v d) : RdC w' F' t v d := by
  cases t with
  | b t => exact hh
  | s1 e => exact RdSl.mono h (fun _ _ h => h) hh
  | s2 e => exact RdSl.mono h (rr2.mono h) hh

theorem rowRd.mono {F F' : Nat → Prop} {w w' : World} (h : Stays F F' w w') {t : CT} {xs : List Value} {ls : List (List D)} (hh : rowRd w F t xs ls) : rowRd w' F' t xs ls := by
  cases t with
  | b t => exact hh
  | s1 e => exact hh
  | s2 e => exact rr2.mono h _ _ hh

/-! ### Symbolic values and what they stand for -/
def Atom.get (ρ : List D) : Atom → Option D
  | .v i => ρ[i]?
  | .c d => some d

theorem Atom.ev_of_get {ρ : List D} {x : Atom} {d : D} (h : x.get ρ = some d) : x.ev ρ = d := by
  cases x with
  | v i => simp only [Atom.get] at h; simp [Atom.ev, List.getD_eq_getElem?_getD, h]
  | c d' => simp only [Atom.get, Option.some.injEq] at h; exact h

theorem Atom.get_append {ρ σ : List D} {x : Atom} {d : D} (h : x.get ρ = some d) : x.get (ρ ++ σ) = some d := by
  cases x with
  | v i =>
    simp only [Atom.get] at *
    rw [List.getElem?_append_left]
    · exact h
    · rcases Nat.lt_or_ge i ρ.length with h' | h'
      · exact h'
      · rw [List.getElem?_eq_none h'] at h; cases h
  | c d' => exact h

abbrev Mu := Nat → Value
/-- The block that an own thing's value leads to. -/
def blkOf : Value → Option Nat
  | .pointer (some a) => some a.block
  | .slice (some a) _ _ => some a.block
  | _ => none

def live (h : List SB) (β : Nat) : Prop := ∃ sb, h[β]? = some sb ∧ sb ≠ .dead

/-- Blocks that stay: whatever there is, but for the own blocks. -/
def Fz (X : Nat → Prop) (h : List SB) (μ : Mu) (w : World) (b : Nat) : Prop := (b < w.heap.size ∧ ¬ X b) ∧ ∀ β, live h β → blkOf (μ β) ≠ some b

def CVR0 (w : World) (F : Nat → Prop) (hl : Nat) (μ : Mu) (ρ : List D) : CV0 → Value → Prop
  | .undef, _ => True
  | .nils, v => v = .slice none 0 0
  | .dat t x, v => ∃ d, x.get ρ = some d ∧ RdC w F t v d
  | .own β, v => β < hl ∧ v = μ β ∧ ∃ a len cap, μ β = .slice a len cap
  | .vptr β off, v => β < hl ∧ ∃ b, μ β = .pointer (some ⟨b, 0, none⟩) ∧ v = .pointer (some ⟨b, off, none⟩)
  | .eptr β i sz off, v => β < hl ∧ ∃ b len cap n, μ β = .slice (some ⟨b, 0, none⟩) len cap ∧ i.get ρ = some (.int n) ∧ 0 ≤ n ∧ n < (len : Int) ∧ v = .pointer (some ⟨b, n.toNat * sz + off, none⟩)
  | .fcel cs off, v => ∃ b o, v = .pointer (some ⟨b, o + off, none⟩) ∧ F b ∧ ∀ (j : Nat) t x, cs[j]? = some (t, x) → ∃ u d, w.cell? ⟨b, o + j, none⟩ = some u ∧ x.get ρ = some d ∧ RdC w F t u d

def CVR (w : World) (F : Nat → Prop) (hl : Nat) (μ : Mu) (ρ : List D) : CV → Value → Prop
  | .s c, v => CVR0 w F hl μ ρ c v
  | .fn f caps, v => ∃ cs, v = .func (.func f) #[] cs ∧ cs.size = caps.length ∧ ∀ (j : Nat) c u, caps[j]? = some c → cs[j]? = some u → CVR0 w F hl μ ρ c u

/-- Cells side by side. -/
def CVRs (w : World) (F : Nat → Prop) (hl : Nat) (μ : Mu) (ρ : List D) : List CV → List Value → Prop
  | [], [] => True
  | c :: cs, v :: vs => CVR w F hl μ ρ c v ∧ CVRs w F hl μ ρ cs vs
  | _, _ => False

def PVR (w : World) (F : Nat → Prop) (hl : Nat) (μ : Mu) (ρ : List D) (agg : Bool) (cs : List CV) (v : Value) : Prop :=
  match agg with
  | true => ∃ arr : Array Value, v = .agg arr ∧ CVRs w F hl μ ρ cs arr.toList
  | false => ∃ c, cs = [c] ∧ CVR w F hl μ ρ c v

def TVR (w : World) (F : Nat → Prop) (hl : Nat) (μ : Mu) (ρ : List D) : List (Bool × List CV) → List Value → Prop
  | [], [] => True
  | (ag, cs) :: r, v :: vs => PVR w F hl μ ρ ag cs v ∧ TVR w F hl μ ρ r vs
  | _, _ => False

/-- What was passed over has no truth value in its place. -/
def unset (ρ : List D) : SV → Prop
  | .c (.s (.dat _ (.v i))) => ∃ d, ρ[i]? = some d ∧ ∀ b, d ≠ .bool b
  | _ => True

def SVR (w : World) (F : Nat → Prop) (hl : Nat) (μ : Mu) (ρ : List D) : SV → Value → Prop
  | .c x, v => CVR w F hl μ ρ x v
  | .agg cs, v => ∃ arr : Array Value, v = .agg arr ∧ CVRs w F hl μ ρ cs arr.toList
  | .tup vs, v => ∃ arr : Array Value, v = .tuple arr ∧ TVR w F hl μ ρ vs arr.toList
  | .gd g want s, v => g.get ρ ≠ none ∧ (g.get ρ = some (.bool want) → SVR w F hl μ ρ s v) ∧ (g.get ρ ≠ some (.bool want) → v = Go.undef ∧ unset ρ s)

/-- What the new environment and world leave as it was. -/
structure Grows (F F' : Nat → Prop) (hl hl' : Nat) (μ μ' : Mu) (ρ ρ' : List D) (w w' : World) : Prop where
  stays : Stays F F' w w'
  env : ∃ σ, ρ' = ρ ++ σ
  len : hl ≤ hl'
  mu : ∀ β, β < hl → μ' β = μ β

section
variable {F F' : Nat → Prop} {μ μ' : Mu} {hl hl' : Nat} {ρ ρ' : List D} {w w' : World}

theorem Grows.get (h : Grows F F' hl hl' μ μ' ρ ρ' w w') {x : Atom} {d : D} (hx : x.get ρ = some d) : x.get ρ' = some d := by
  obtain ⟨σ, rfl⟩ := h.env
  exact Atom.get_append hx

theorem CVR0.mono (h : Grows F F' hl hl' μ μ' ρ ρ' w w') {c : CV0} {v : Value} (hh : CVR0 w F hl μ ρ c v) : CVR0 w' F' hl' μ' ρ' c v := by
  cases c with
  | undef => trivial
  | nils => exact hh
  | dat t x => obtain ⟨d, hx, hd⟩ := hh; exact ⟨d, h.get hx, hd.mono h.stays⟩
  | own β => obtain ⟨hb, hh⟩ := hh; refine ⟨Nat.lt_of_lt_of_le hb h.len, ?_⟩; rw [h.mu β hb]; exact hh
  | vptr β off => obtain ⟨hb, hh⟩ := hh; refine ⟨Nat.lt_of_lt_of_le hb h.len, ?_⟩; rw [h.mu β hb]; exact hh
  | eptr β i sz off =>
    obtain ⟨hb, b, len, cap, n, h1, h2, h3⟩ := hh
    refine ⟨Nat.lt_of_lt_of_le hb h.len, b, len, cap, n, ?_, h.get h2, h3⟩
    rw [h.mu β hb]; exact h1
  | fcel cs off =>
    obtain ⟨b, o, h1, h2, h3⟩ := hh
    refine ⟨b, o, h1, h.stays.le b h2, fun j t x hj => ?_⟩
    obtain ⟨u, d, a1, a2, a3⟩ := h3 j t x hj
    exact ⟨u, d, by rw [h.stays.cell h2]; exact a1, h.get a2, a3.mono h.stays⟩

theorem CVR.mono (h : Grows F F' hl hl' μ μ' ρ ρ' w w') {c : CV} {v : Value} (hh : CVR w F hl μ ρ c v) : CVR w' F' hl' μ' ρ' c v := by
  cases c with
  | s c => exact CVR0.mono h hh
  | fn f caps => obtain ⟨cs, h1, h2, h3⟩ := hh; exact ⟨cs, h1, h2, fun j c u a b => (h3 j c u a b).mono h⟩

theorem CVRs.mono (h : Grows F F' hl hl' μ μ' ρ ρ' w w') : ∀ {cs : List CV} {vs : List Value}, CVRs w F hl μ ρ cs vs → CVRs w' F' hl' μ' ρ' cs vs
  | [], [], _ => trivial
  | _ :: _, _ :: _, ⟨a, b⟩ => ⟨a.mono h, CVRs.mono h b⟩

theorem PVR.mono (h : Grows F F' hl hl' μ μ' ρ ρ' w w') {ag : Bool} {cs : List CV} {v : Value} (hh : PVR w F hl μ ρ ag cs v) : PVR w' F' hl' μ' ρ' ag cs v := by
  cases ag with
  | true => obtain ⟨arr, e, hc⟩ := hh; exact ⟨arr, e, hc.mono h⟩
  | false => obtain ⟨c, e, hc⟩ := hh; exact ⟨c, e, hc.mono h⟩

theorem TVR.mono (h : Grows F F' hl hl' μ μ' ρ ρ' w w') : ∀ {cs : List (Bool × List CV)} {vs : List Value}, TVR w F hl μ ρ cs vs → TVR w' F' hl' μ' ρ' cs vs
  | [], [], _ => trivial
  | (_, _) :: _, _ :: _, ⟨a, b⟩ => ⟨a.mono h, TVR.mono h b⟩

theorem SVR.mono (h : Grows F F' hl hl' μ μ' ρ ρ' w w') : ∀ {s : SV} {v : Value}, SVR w F hl μ ρ s v → SVR w' F' hl' μ' ρ' s v
  | .c _, _, hh => CVR.mono h hh
  | .agg _, _, ⟨arr, e, hc⟩ => ⟨arr, e, hc.mono h⟩
  | .tup _, _, ⟨arr, e, hc⟩ => ⟨arr, e, hc.mono h⟩
  | .gd g want s, v, ⟨h0, hh, hu⟩ => by
    cases hg : g.get ρ with
    | none => exact absurd hg h0
    | some d =>
      have := h.get hg
      refine ⟨by rw [this]; simp, fun hw => SVR.mono h (hh ?_), fun hw => ?_⟩
      · rw [this] at hw
        rw [hg]; exact hw
      · rw [this] at hw
        obtain ⟨h1, h2⟩ := hu (by rw [hg]; exact hw)
        refine ⟨h1, ?_⟩
        unfold unset at h2 ⊢
        split
        · rename_i i
          obtain ⟨d', hd, hb⟩ := h2
          have hx : (Atom.v i).get ρ = some d' := hd
          exact ⟨d', h.get hx, hb⟩
        · trivial
end

/-- An own block. 'Mine': which blocks may be own (new ones, or such as were handed over). -/
def BlkR (Mine : Nat → Prop) (w : World) (F : Nat → Prop) (hl : Nat) (μ : Mu) (ρ : List D) : SB → Value → Prop
  | .dead, _ => True
  | .hid, v => ∀ b, blkOf v = some b → b < w.heap.size
  | .var cs, v => ∃ b arr T, v = .pointer (some ⟨b, 0, none⟩) ∧ Mine b ∧ w.heap[b]? = some (.cells arr T (0, 0)) ∧ CVRs w F hl μ ρ cs arr.toList
  | .row t e x, v => ∃ n xs ls, w.ownsRow 0 e (rowSz t) v n xs ∧ (∀ b, blkOf v = some b → Mine b) ∧ x.get ρ = some (.lst (ls.map (unflat (rowAgg t)))) ∧ ls.length = n ∧ rowRd w F t xs ls

/-- What was there when the call began, but for what was handed over ('M'), is as it was. -/
structure Keeps (M : Nat → Prop) (w w' : World) : Prop where
  os : w'.os = w.os
  tape : w'.tape = w.tape
  output : w'.output = w.output
  size : w.heap.size ≤ w'.heap.size
  block : ∀ k, k < w.heap.size → ¬ M k → w'.heap[k]? = w.heap[k]?

theorem Keeps.refl (M : Nat → Prop) (w : World) : Keeps M w w := ⟨rfl, rfl, rfl, Nat.le_refl _, fun _ _ _ => rfl⟩
theorem Keeps.trans {M : Nat → Prop} {a b c : World} (h : Keeps M a b) (k : Keeps M b c) : Keeps M a c :=
  ⟨k.os.trans h.os, k.tape.trans h.tape, k.output.trans h.output, Nat.le_trans h.size k.size,
    fun i hi hm => (k.block i (Nat.lt_of_lt_of_le hi h.size) hm).trans (h.block i hi hm)⟩

/-- A symbolic state holds of a frame's temporaries and a world. -/
structure R (X M : Nat → Prop) (w0 : World) (S : SS) (μ : Mu) (ρ : List D) (a : Act) (w : World) : Prop where
  keeps : Keeps M w0 w
  len : ρ.length = S.n
  size : a.tmps.size = S.slots.length
  defers : a.defers = []
  slots : ∀ (i : Nat) s, S.slots[i]? = some s → SVR w (Fz X S.heap μ w) S.heap.length μ ρ s (a.tmps.getD i Go.undef)
  blocks : ∀ (β : Nat) sb, S.heap[β]? = some sb → BlkR (fun b => w0.heap.size ≤ b ∨ M b) w (Fz X S.heap μ w) S.heap.length μ ρ sb (μ β)
  ex : ∀ b, X b → b < w.heap.size
  inj : ∀ β γ, live S.heap β → live S.heap γ → β ≠ γ → ∀ b, blkOf (μ β) = some b → blkOf (μ γ) ≠ some b

end Vs
