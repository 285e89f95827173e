/-
  Regions whose order is open: the plan is computed, and what is checked of it is what the theorem wants.
-/
import Derived.Test.YtfpmhmngebnphaaNd4
namespace Vs
open Go Go.RowKit

structure Rec where
  A : SS
  V : SS
  S' : SS
  g : Guard
  eff : Eff

/-- What is told ahead of a region: each operation's place, the block that it writes, the own blocks before it, and which operations come before it in every order. -/
structure Hint where
  dsts : List (Option Nat)
  tchs : List (List Nat)
  lens : List Nat
  masks : List Nat

namespace Hint
variable (H : Hint)
def N : Nat := H.dsts.length
def dst (i : Nat) : Option Nat := (H.dsts[i]?).join
def tch (i : Nat) : List Nat := (H.tchs[i]?).getD []
def len (i : Nat) : Nat := (H.lens[i]?).getD 0
def bef (i j : Nat) : Bool := decide (j < i) && ((H.masks[i]?).getD 0).testBit j
def un (i j : Nat) : Bool := j != i && !H.bef i j && !H.bef j i
def wrB (i β : Nat) : Bool := (H.tch i).contains β || (decide (H.len i ≤ β) && decide (β < H.len (i + 1)))
def p (i β : Nat) : Bool := (List.range H.N).all fun j => !(H.un i j && decide (H.len j ≤ β) && decide (β < H.len (j + 1)))
def badS (i : Nat) : List Nat := (List.range H.N).filterMap fun j => if H.un i j then H.dst j else none
end Hint

def maskS (bad : List Nat) (l : List SV) : List SV := bad.foldl (fun l k => l.set k SV.undef) l
def maskB (wr : Nat → Bool) (l : List SB) : List SB := l.zipIdx.map fun (sb, β) => if wr β then .dead else sb

def viewOf (H : Hint) (A : SS) (i : Nat) : SS :=
  { A with slots := maskS (H.badS i) A.slots, heap := maskB (fun β => (List.range H.N).any fun j => H.un i j && H.wrB j β) A.heap }

def overB (S' : SS) (tch : List Nat) (h : List SB) : List SB := tch.foldl (fun h β => h.set β (S'.heap.getD β .dead)) h
def nextOf (dst : Option Nat) (tch : List Nat) (A S' : SS) : SS :=
  { n := S'.n, slots := (match dst with | some d => A.slots.set d (S'.slots.getD d SV.undef) | none => A.slots),
    heap := overB S' tch A.heap ++ S'.heap.drop A.heap.length }

def stepB (H : Hint) (i : Nat) (o : Oper) (A V S' : SS) (eff : Eff) (tch : List Nat) : Bool :=
  decide (o.dst = H.dst i) && decide (tch = H.tch i) && (o.after.toList.all fun e => !Region.binds .any e || decide (e.on < i)) &&
  ((List.range i).all fun j => !H.bef i j || o.after.toList.any fun e => Region.binds .any e && (j == e.on || H.bef e.on j)) &&
  (S'.n == A.n + effLen eff) && (S'.slots.length == A.slots.length) && (match o.dst with | some d => decide (d < A.slots.length) | none => true) &&
  (A.heap.length == H.len i) && decide (A.heap.length ≤ S'.heap.length) && (S'.heap.length == H.len (i + 1)) &&
  ((H.tch i).all fun β => liveB V.heap β && (match S'.heap[β]? with | some sb => refsSB (H.p i) sb | none => true)) &&
  ((List.range i).all fun j => H.bef i j || ((H.dst i == none || H.dst i != H.dst j) && ((H.tch i).all fun β => !H.wrB j β))) &&
  (match o.dst with | some d => (match S'.slots[d]? with | some s => refsSV (H.p i) s | none => true) | none => true) &&
  (S'.heap.drop A.heap.length).all (refsSB (H.p i))

def gdB (g : Guard) (n : Nat) : Bool := match g with | some (.v k, _) => decide (k < n) | some (.c _, _) => false | none => true

def build (E : Env) (ops : List Oper) (H : Hint) : List Oper → Nat → SS → Res (List Rec × SS)
  | [], _, A => .ok ([], A)
  | o :: os, i, A => do
    let V := viewOf H A i
    let (S', g, eff, tch) ← sop E ops V o
    if stepB H i o A V S' eff tch = true ∧ gdB g A.n = true then do
      let (rs, Z) ← build E ops H os (i + 1) (nextOf o.dst (H.tch i) A S')
      .ok ({ A, V, S', g, eff } :: rs, Z)
    else .error "a region whose order is open"

/-- The plan out of its records. -/
def rgOf (H : Hint) (rs : List Rec) (Z : SS) : Rg where
  N := rs.length
  A i := match rs[i]? with | some r => r.A | none => Z
  V i := match rs[i]? with | some r => r.V | none => Z
  S' i := match rs[i]? with | some r => r.S' | none => Z
  g i := match rs[i]? with | some r => r.g | none => none
  eff i := match rs[i]? with | some r => r.eff | none => .prims []
  dst := H.dst
  tch := H.tch
  bef := H.bef

/-! ### What the builder gives -/
theorem build_ok {E : Env} {ops : List Oper} {H : Hint} : ∀ {os : List Oper} {i : Nat} {A Z : SS} {rs : List Rec}, build E ops H os i A = .ok (rs, Z) →
    rs.length = os.length ∧ (match rs[0]? with | some r => r.A | none => Z) = A ∧ ∀ (k : Nat) o, os[k]? = some o → ∃ r, rs[k]? = some r ∧ r.V = viewOf H r.A (i + k) ∧ sop E ops r.V o = .ok (r.S', r.g, r.eff, H.tch (i + k)) ∧
      (stepB H (i + k) o r.A r.V r.S' r.eff (H.tch (i + k)) = true ∧ gdB r.g r.A.n = true) ∧ (match rs[k + 1]? with | some r' => r'.A | none => Z) = nextOf o.dst (H.tch (i + k)) r.A r.S'
  | [], i, A, Z, rs, h => by
    simp only [build, Except.ok.injEq, Prod.mk.injEq] at h
    obtain ⟨rfl, rfl⟩ := h
    exact ⟨rfl, rfl, by simp⟩
  | o :: os, i, A, Z, rs, h => by
    simp only [build] at h
    obtain ⟨⟨S', g, eff, tch⟩, h1, h2⟩ := bind_ok h
    dsimp only at h2
    split at h2
    · rename_i hs
      have htc : tch = H.tch i := by
        have := hs.1
        unfold stepB at this
        simp only [Bool.and_eq_true] at this
        simpa using this.1.1.1.1.1.1.1.1.1.1.1.1.2
      subst htc
      obtain ⟨⟨rs', Z'⟩, h3, h4⟩ := bind_ok h2
      simp only [Except.ok.injEq, Prod.mk.injEq] at h4
      obtain ⟨rfl, rfl⟩ := h4
      obtain ⟨i1, i2, i3⟩ := build_ok h3
      refine ⟨by simp [i1], rfl, fun k o' hk => ?_⟩
      cases k with
      | zero =>
        simp only [List.getElem?_cons_zero, Option.some.injEq] at hk
        subst hk
        exact ⟨_, rfl, rfl, h1, hs, by simpa using i2⟩
      | succ k =>
        simp only [List.getElem?_cons_succ] at hk
        obtain ⟨r, r1, r2, r3, r4, r5⟩ := i3 k o' hk
        refine ⟨r, by simpa using r1, ?_, ?_, ?_, ?_⟩
        · rw [r2, show i + 1 + k = i + (k + 1) from by omega]
        · rw [show i + (k + 1) = i + 1 + k from by omega]; exact r3
        · rw [show i + (k + 1) = i + 1 + k from by omega]; exact r4
        · rw [show i + (k + 1) = i + 1 + k from by omega]; simpa using r5
    · cases h2

theorem maskS_length (bad : List Nat) : ∀ (l : List SV), (maskS bad l).length = l.length := by
  unfold maskS
  induction bad with
  | nil => intro l; rfl
  | cons k bad ih => intro l; simp only [List.foldl_cons]; rw [ih]; simp

theorem maskS_get (bad : List Nat) : ∀ (l : List SV) (k : Nat) s, (maskS bad l)[k]? = some s → s = SV.undef ∨ (l[k]? = some s ∧ k ∉ bad) := by
  unfold maskS
  induction bad with
  | nil => intro l k s h; exact .inr ⟨h, by simp⟩
  | cons b bad ih =>
    intro l k s h
    simp only [List.foldl_cons] at h
    rcases ih _ k s h with h1 | ⟨h1, h2⟩
    · exact .inl h1
    · by_cases he : b = k
      · subst he
        left
        by_cases hlt : b < l.length
        · rw [List.getElem?_set_self hlt] at h1; simpa using h1.symm
        · rw [List.getElem?_eq_none (by simp; omega)] at h1; cases h1
      · rw [List.getElem?_set_ne he] at h1
        exact .inr ⟨h1, by simp [h2]; exact fun e => he e.symm⟩

theorem maskB_get {wr : Nat → Bool} {l : List SB} {β : Nat} {sb : SB} (h : (maskB wr l)[β]? = some sb) : sb = .dead ∨ (l[β]? = some sb ∧ wr β = false) := by
  unfold maskB at h
  rw [List.getElem?_map, List.getElem?_zipIdx] at h
  simp only [Option.map_map, Option.map_eq_some_iff, Function.comp] at h
  obtain ⟨x, hx, he⟩ := h
  simp only [Nat.zero_add] at he
  split at he
  · exact .inl he.symm
  · rename_i hw
    subst he
    exact .inr ⟨hx, by simpa using hw⟩

theorem overB_length {S' : SS} : ∀ {tch : List Nat} {h : List SB}, (overB S' tch h).length = h.length
  | [], h => rfl
  | β :: t, h => by
    show (overB S' t (h.set β _)).length = _
    rw [overB_length]; simp

theorem overB_get {S' : SS} {β : Nat} (hS : β < S'.heap.length) : ∀ {tch : List Nat} {h : List SB}, β < h.length → (β ∈ tch → (overB S' tch h)[β]? = S'.heap[β]?) ∧ (β ∉ tch → (overB S' tch h)[β]? = h[β]?) ∧ (h[β]? = S'.heap[β]? → (overB S' tch h)[β]? = S'.heap[β]?)
  | [], h, _ => ⟨fun h => by simp at h, fun _ => rfl, fun h => h⟩
  | γ :: t, h, hl => by
    have e : overB S' (γ :: t) h = overB S' t (h.set γ (S'.heap.getD γ .dead)) := rfl
    obtain ⟨i1, i2, i3⟩ := overB_get (tch := t) (h := h.set γ (S'.heap.getD γ .dead)) hS (by simpa using hl)
    rw [e]
    have self : γ = β → (h.set γ (S'.heap.getD γ .dead))[β]? = S'.heap[β]? := fun e => by
      subst e
      rw [List.getElem?_set_self hl]
      simp [List.getD_eq_getElem?_getD, hS]
    refine ⟨fun hm => ?_, fun hn => ?_, fun he => ?_⟩
    · by_cases hc : γ = β
      · exact i3 (self hc)
      · rcases List.mem_cons.1 hm with h1 | h1
        · exact absurd h1.symm hc
        · exact i1 h1
    · simp only [List.mem_cons, not_or] at hn
      rw [i2 hn.2, List.getElem?_set_ne (fun e => hn.1 e.symm)]
    · by_cases hc : γ = β
      · exact i3 (self hc)
      · exact i3 (by rw [List.getElem?_set_ne hc]; exact he)

end Vs
