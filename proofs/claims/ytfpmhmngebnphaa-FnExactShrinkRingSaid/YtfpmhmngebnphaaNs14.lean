/-
  One symbolic state for another: where ways meet, and at a loop's head.
-/
import Derived.Test.YtfpmhmngebnphaaNs13
namespace Vs
open Go Go.RowKit

/-- Equality of the constants that occur; 'false' where it is not seen. -/
def D.eqb : D → D → Bool
  | .int a, .int b => a == b
  | .bool a, .bool b => a == b
  | .flt a, .flt b => a == b
  | .lst [], .lst [] => true
  | _, _ => false

theorem D.eqb_ok {a b : D} (h : D.eqb a b = true) : a = b := by
  unfold D.eqb at h
  split at h
  · simp only [beq_iff_eq] at h; rw [h]
  · simp only [beq_iff_eq] at h; rw [h]
  · simp only [beq_iff_eq] at h; rw [h]
  · rfl
  · cases h

def Atom.eqb : Atom → Atom → Bool
  | .v i, .v j => i == j
  | .c a, .c b => D.eqb a b
  | _, _ => false
theorem Atom.eqb_ok {a b : Atom} (h : Atom.eqb a b = true) : a = b := by
  unfold Atom.eqb at h
  split at h
  · simp only [beq_iff_eq] at h; rw [h]
  · rw [D.eqb_ok h]
  · cases h

/-- How the places and blocks behind n and hb are filled. -/
structure Fill where
  n : Nat
  hb : Nat
  hj : Nat
  θ : List Atom
  bs : List Nat
  nils : List MK
  ver : List (Option Nat)

def Fill.blk (f : Fill) (β : Nat) : Nat := if β < f.hb then β else f.bs.getD (β - f.hb) 0
def Fill.blkOk (f : Fill) (β : Nat) : Bool := decide (β < f.hj) && (decide (β < f.hb) || decide (β - f.hb < f.bs.length))

def leAtom (f : Fill) : Atom → Atom → Bool
  | .v j, y => if j < f.n then Atom.eqb (.v j) y else (match f.θ[j - f.n]? with | some z => Atom.eqb z y | none => false)
  | .c d, y => Atom.eqb (.c d) y

def leFC (f : Fill) : FC → FC → Bool
  | .d t x, .d u y => decide (t = u) && leAtom f x y
  | .o β, .o γ => f.blkOk β && f.blk β == γ
  | _, _ => false

def leList {α : Type} (le : α → α → Bool) : List α → List α → Bool
  | [], [] => true
  | a :: r, b :: q => le a b && leList le r q
  | _, _ => false

/-- 'hl': how many blocks the other state has without the empty rows. -/
def leCV0 (f : Fill) (hl : Nat) : CV0 → CV0 → Bool
  | .undef, _ => true
  | .nils, .nils => true
  | .dat t x, .dat u y => decide (t = u) && leAtom f x y
  | .dat t x, .nils => (match t with | .b _ => false | _ => leAtom f x (.c (.lst [])))
  | .own β, .own γ => f.blkOk β && f.blk β == γ
  | .own β, .nils => f.blkOk β && decide (hl ≤ f.blk β) && decide (f.blk β < hl + f.nils.length)
  | .vptr β o, .vptr γ p => f.blkOk β && f.blk β == γ && o == p
  | .eptr β i s o, .eptr γ j s' p => f.blkOk β && f.blk β == γ && leAtom f i j && s == s' && o == p
  | .rref β v i, .rref γ v' j => f.blkOk β && f.blk β == γ && leAtom f i j && v == 0 && decide (f.ver[γ]? = some (some v'))
  | .fcel cs o, .fcel ds p => leList (leFC f) cs ds && o == p
  | _, _ => false

def leCV (f : Fill) (hl : Nat) : CV → CV → Bool
  | .s .undef, _ => true
  | .s c, .s d => leCV0 f hl c d
  | .fn g cs, .fn g' ds => g == g' && leList (leCV0 f hl) cs ds
  | _, _ => false

def leP (f : Fill) (hl : Nat) (a b : Bool × List CV) : Bool := a.1 == b.1 && leList (leCV f hl) a.2 b.2

def leSV (f : Fill) (hl : Nat) : SV → SV → Bool
  | .c (.s .undef), _ => true
  | .c x, .c y => leCV f hl x y
  | .agg xs, .agg ys => leList (leCV f hl) xs ys
  | .tup xs, .tup ys => leList (leP f hl) xs ys
  | _, _ => false

def leSB (f : Fill) (hl : Nat) : SB → SB → Bool
  | .dead, _ => true
  | .var xs, .var ys => leList (leCV f hl) xs ys
  | .row t e x, .row t' e' y => decide (t = t') && e == e' && leAtom f x y
  | .rows et f' e v x, .rows et' g' e' _ y => decide (et = et') && f' == g' && e == e' && v == 0 && leAtom f x y
  | _, _ => false

def liveB (h : List SB) (β : Nat) : Bool := match h[β]? with | some .dead => false | some _ => true | none => false

def verOf : SB → Option Nat | .rows _ _ _ v _ => some v | _ => none
def MK.nilMV : MK → MV
  | .row _ _ => ⟨.slice none 0 0, []⟩
  | .rows _ _ _ => ⟨.slice none 0 0, [[]]⟩
def MK.slOk : MK → Bool
  | .row (.b _) _ => false
  | _ => true
/-- An own thing without its past. -/
def MV.now (m : MV) : MV := ⟨m.v, if m.hist.isEmpty then [] else [m.inner]⟩
theorem MV.now_inner {m : MV} : m.now.inner = m.inner := by
  unfold MV.now MV.inner
  cases h : m.hist with
  | nil => rfl
  | cons _ _ => rfl
theorem MV.now_own {m : MV} {b : Nat} : m.now.own b ↔ m.own b := by unfold MV.own; rw [MV.now_inner]; rfl
theorem MV.now_nil {m : MV} (h : m.hist = []) : m.now = m := by
  obtain ⟨v, hist⟩ := m
  simp only at h
  subst h
  rfl

def atomIn (n : Nat) : Atom → Bool | .v i => i < n | .c _ => true

/-- Whether state Sj holds where S does, the places behind f.n filled. -/
def leSS (f : Fill) (Sj S : SS) : Bool :=
  let h := S.heap ++ f.nils.map fun k => k.sb 0 (.c (.lst []))
  Sj.n == f.n + f.θ.length && f.n ≤ S.n && f.θ.all (atomIn S.n) && leList (leSV f S.heap.length) Sj.slots S.slots &&
  f.nils.all MK.slOk && decide (f.ver = h.map verOf) &&
  decide (f.hb ≤ S.heap.length) && decide (f.hb ≤ Sj.heap.length) &&
  (List.range Sj.heap.length).all (fun β => match Sj.heap[β]? with
    | some sb => (match sb with | .dead => true | _ => f.blkOk β && (match h[f.blk β]? with | some sb' => leSB f S.heap.length sb sb' | none => false))
    | none => true) &&
  f.hj == Sj.heap.length &&
  (let im := ((List.range Sj.heap.length).filter (liveB Sj.heap)).map f.blk; decide (im.Nodup))

section
variable {X : Nat → Prop} {M : Hand} {w0 w : World} {S : SS} {μ : Mu} {ρ : List D} {a : Act}

/-- Empty rows beside: nobody owns a block through them. -/
theorem R_nils {μ1 : Mu} (h : R X M w0 S μ ρ a w) (nils : List MK) (hn : ∀ k ∈ nils, k.slOk = true) (hμ : ∀ β, β < S.heap.length → μ1 β = μ β) (hv : ∀ j k, nils[j]? = some k → μ1 (S.heap.length + j) = k.nilMV) :
    R X M w0 { S with heap := S.heap ++ nils.map fun k => k.sb 0 (.c (.lst [])) } μ1 ρ a w := by
  have hnew : ∀ β, live (S.heap ++ nils.map fun k => k.sb 0 (.c (.lst []))) β → S.heap.length ≤ β → ∃ k ∈ nils, μ1 β = k.nilMV := by
    intro β hl hge
    have hlt := live_lt hl
    simp only [List.length_append, List.length_map] at hlt
    obtain ⟨k, hk⟩ : ∃ k, nils[β - S.heap.length]? = some k := ⟨_, List.getElem?_eq_getElem (by omega)⟩
    have := hv _ k hk
    rw [show S.heap.length + (β - S.heap.length) = β from by omega] at this
    exact ⟨k, List.mem_of_getElem? hk, this⟩
  have hno : ∀ (k : MK) (b : Nat), ¬ k.nilMV.own b := by
    intro k b hb
    cases k <;> rcases hb with hb | ⟨u, hu, hb⟩ <;> simp [MK.nilMV, blkOf, MV.inner] at *
  have m : Move S μ w [] (S.heap ++ nils.map fun k => k.sb 0 (.c (.lst []))) μ1 w := by
    refine ⟨by simp, by simp, fun β hβ _ => ⟨List.getElem?_append_left hβ, hμ β hβ⟩, fun β hβ => ⟨by rw [hμ β hβ], [], by simp [hμ β hβ]⟩, rfl, rfl, rfl, Nat.le_refl _, fun _ _ _ => rfl, fun β hl h b hb => ?_, fun β γ hl _ h _ _ b hb => ?_⟩
    · rcases h with h | h
      · simp at h
      · obtain ⟨k, _, e⟩ := hnew β hl h
        rw [e] at hb; exact absurd hb (hno k b)
    · rcases h with h | h
      · simp at h
      · obtain ⟨k, _, e⟩ := hnew β hl h
        rw [e] at hb; exact absurd hb (hno k b)
  refine R_move h m fun _ β sb hb hβ => ?_
  have hge : S.heap.length ≤ β := by
    rcases hβ with h | h
    · simp at h
    · exact h
  rw [List.getElem?_append_right hge, List.getElem?_map] at hb
  cases hk : nils[β - S.heap.length]? with
  | none => rw [hk] at hb; cases hb
  | some k =>
    rw [hk] at hb
    simp only [Option.map_some, Option.some.injEq] at hb
    subst hb
    have := hv _ k hk
    rw [show S.heap.length + (β - S.heap.length) = β from by omega] at this
    rw [this]
    have hs := hn k (List.mem_of_getElem? hk)
    cases k with
    | row t e =>
      refine ⟨rfl, 0, [], [], ⟨by simp, .inl ⟨rfl, rfl⟩⟩, fun b hb => absurd hb (hno _ b), rfl, rfl, ?_⟩
      cases t with
      | b t => cases hs
      | s1 e => rfl
      | s2 e => rfl
    | rows et e' e =>
      refine ⟨rfl, 0, [], ⟨by simp [MK.nilMV, MV.inner], .inl ⟨rfl, rfl⟩⟩, fun b hb => absurd hb (hno _ b), rfl, rfl, ⟨rfl, fun i u l hi => ?_⟩, fun i j u u' hi => ?_, fun u hu => ?_⟩
      · simp [MK.nilMV, MV.inner] at hi
      · simp [MK.nilMV, MV.inner] at hi
      · simp [MK.nilMV, MV.inner] at hu

theorem leList_get {α : Type} {le : α → α → Bool} : ∀ {xs ys : List α}, leList le xs ys = true → xs.length = ys.length ∧ ∀ (i : Nat) x, xs[i]? = some x → ∃ y, ys[i]? = some y ∧ le x y = true
  | [], [], _ => ⟨rfl, by simp⟩
  | a :: r, b :: q, h => by
    simp only [leList, Bool.and_eq_true] at h
    obtain ⟨i1, i2⟩ := leList_get h.2
    refine ⟨by simp [i1], fun i x hi => ?_⟩
    cases i with
    | zero => simp only [List.getElem?_cons_zero, Option.some.injEq] at hi; subst hi; exact ⟨b, rfl, h.1⟩
    | succ i => simp only [List.getElem?_cons_succ] at hi ⊢; exact i2 i x hi
  | [], _ :: _, h => by simp [leList] at h
  | _ :: _, [], h => by simp [leList] at h

/-- The data that Sj's environment holds. -/
def Fill.env (f : Fill) (ρ : List D) : List D := ρ.take f.n ++ evs ρ f.θ

variable {f : Fill} {F F' : Nat → Prop} {hl hl' : Nat} {μ' : Mu}

theorem leAtom_ok {x y : Atom} {d : D} (hn : f.n ≤ ρ.length) (h : leAtom f x y = true) (hy : y.get ρ = some d) : x.get (f.env ρ) = some d := by
  cases x with
  | c d' =>
    simp only [leAtom] at h
    rw [← Atom.eqb_ok h] at hy
    exact hy
  | v j =>
    simp only [leAtom] at h
    split at h
    · rename_i hj
      rw [← Atom.eqb_ok h] at hy
      simp only [Atom.get, Fill.env] at hy ⊢
      rw [List.getElem?_append_left (by simp; omega), List.getElem?_take, if_pos hj]
      exact hy
    · rename_i hj
      split at h
      · rename_i z hz
        rw [← Atom.eqb_ok h] at hy
        simp only [Atom.get, Fill.env]
        have hl : (ρ.take f.n).length = f.n := by simp; omega
        rw [List.getElem?_append_right (by omega), hl]
        simp only [evs, List.getElem?_map, hz, Option.map_some, Atom.ev_of_get hy]
      · cases h

structure FillOk (f : Fill) (hl0 hl' : Nat) (μ μ' : Mu) (ρ : List D) : Prop where
  n : f.n ≤ ρ.length
  θ : ∀ z ∈ f.θ, atomIn ρ.length z = true
  mu : ∀ β, β < hl' → μ' β = (μ (f.blk β)).now
  nil : ∀ γ, hl0 ≤ γ → γ < hl0 + f.nils.length → (μ γ).v = .slice none 0 0
  ver : ∀ γ v, f.ver[γ]? = some (some v) → (μ γ).hist.length = v + 1
  ok : ∀ β, f.blkOk β = true → β < hl'

theorem FillOk.v {hl0 : Nat} (hf : FillOk f hl0 hl' μ μ' ρ) {β : Nat} (h : β < hl') : (μ' β).v = (μ (f.blk β)).v := by rw [hf.mu β h]; rfl

theorem leFC_ok {hl0 : Nat} {x y : FC} {v : Value} (hf : FillOk f hl0 hl' μ μ' ρ) (hst : Stays F F' w w) (h : leFC f x y = true) (hv : FCR w F hl μ ρ y v) : FCR w F' hl' μ' (f.env ρ) x v := by
  cases x with
  | d t x =>
    cases y <;> simp only [leFC] at h <;> try cases h
    simp only [Bool.and_eq_true, decide_eq_true_eq] at h
    obtain ⟨rfl, h⟩ := h
    obtain ⟨d, hd, hr⟩ := hv
    exact ⟨d, leAtom_ok hf.n h hd, hr.mono hst⟩
  | o β =>
    cases y <;> simp only [leFC] at h <;> try cases h
    simp only [Bool.and_eq_true, beq_iff_eq] at h
    obtain ⟨h1, rfl⟩ := h
    have hb := hf.ok β h1
    obtain ⟨_, rfl, hs⟩ := hv
    exact ⟨hb, (hf.v hb).symm, by rw [hf.v hb]; exact hs⟩

theorem leCV0_ok {hl0 : Nat} {x y : CV0} {v : Value} (hf : FillOk f hl0 hl' μ μ' ρ) (hst : Stays F F' w w) (h : leCV0 f hl0 x y = true) (hv : CVR0 w F hl μ ρ y v) : CVR0 w F' hl' μ' (f.env ρ) x v := by
  cases x with
  | undef => trivial
  | nils =>
    cases y <;> simp only [leCV0] at h <;> first | exact hv | cases h
  | dat t x =>
    cases y <;> simp only [leCV0] at h <;> try cases h
    · -- nils
      cases t with
      | b t => cases h
      | s1 e =>
        simp only [CVR0] at hv
        subst hv
        exact ⟨_, leAtom_ok hf.n h rfl, [], rfl, .inl ⟨⟨none, 0, rfl, fun _ => rfl⟩, rfl⟩⟩
      | s2 e =>
        simp only [CVR0] at hv
        subst hv
        exact ⟨_, leAtom_ok hf.n h rfl, [], rfl, .inl ⟨⟨none, 0, rfl, fun _ => rfl⟩, rfl⟩⟩
    · rename_i u y
      simp only [Bool.and_eq_true, decide_eq_true_eq] at h
      obtain ⟨rfl, h⟩ := h
      obtain ⟨d, hd, hr⟩ := hv
      exact ⟨d, leAtom_ok hf.n h hd, hr.mono hst⟩
  | own β =>
    cases y <;> simp only [leCV0] at h <;> try cases h
    · simp only [Bool.and_eq_true, decide_eq_true_eq] at h
      have hb := hf.ok β h.1.1
      simp only [CVR0] at hv
      subst hv
      have := hf.nil _ h.1.2 h.2
      refine ⟨hb, ?_, ?_⟩
      · rw [hf.v hb, this]
      · rw [hf.v hb, this]; exact ⟨_, _, _, rfl⟩
    · rename_i γ
      simp only [Bool.and_eq_true, beq_iff_eq] at h
      obtain ⟨h1, rfl⟩ := h
      have hb := hf.ok β h1
      obtain ⟨_, rfl, hs⟩ := hv
      exact ⟨hb, (hf.v hb).symm, by rw [hf.v hb]; exact hs⟩
  | vptr β o =>
    cases y <;> simp only [leCV0] at h <;> try cases h
    rename_i γ p
    simp only [Bool.and_eq_true, beq_iff_eq] at h
    obtain ⟨⟨h1, rfl⟩, rfl⟩ := h
    have hb := hf.ok β h1
    obtain ⟨_, b, e1, e2⟩ := hv
    exact ⟨hb, b, by rw [hf.v hb]; exact e1, e2⟩
  | eptr β i s o =>
    cases y <;> simp only [leCV0] at h <;> try cases h
    rename_i γ j s' p
    simp only [Bool.and_eq_true, beq_iff_eq] at h
    obtain ⟨⟨⟨⟨h1, rfl⟩, h2⟩, rfl⟩, rfl⟩ := h
    have hb := hf.ok β h1
    obtain ⟨_, b, len, cap, n, e1, e2, e3⟩ := hv
    exact ⟨hb, b, len, cap, n, by rw [hf.v hb]; exact e1, leAtom_ok hf.n h2 e2, e3⟩
  | rref β ver i =>
    cases y <;> simp only [leCV0] at h <;> try cases h
    rename_i γ ver' j
    simp only [Bool.and_eq_true, beq_iff_eq, decide_eq_true_eq] at h
    obtain ⟨⟨⟨⟨h1, rfl⟩, h2⟩, rfl⟩, h3⟩ := h
    have hb := hf.ok β h1
    obtain ⟨_, l, n, e1, e2, e3, e4⟩ := hv
    have hh := hf.ver _ _ h3
    rw [MV.hist_last hh] at e1
    simp only [Option.some.injEq] at e1
    subst e1
    refine ⟨hb, _, n, ?_, leAtom_ok hf.n h2 e2, e3, e4⟩
    rw [hf.mu β hb]
    unfold MV.now
    have : (μ (f.blk β)).hist.isEmpty = false := by
      cases h : (μ (f.blk β)).hist with
      | nil => rw [h] at hh; cases hh
      | cons _ _ => rfl
    rw [this]
    rfl
  | fcel cs o =>
    cases y <;> simp only [leCV0] at h <;> try cases h
    rename_i ds p
    simp only [Bool.and_eq_true, beq_iff_eq] at h
    obtain ⟨h1, rfl⟩ := h
    obtain ⟨b, o', e1, e2, e3⟩ := hv
    obtain ⟨_, i2⟩ := leList_get h1
    refine ⟨b, o', e1, hst.le b e2, fun j c hj => ?_⟩
    obtain ⟨y, hy, hle⟩ := i2 j c hj
    obtain ⟨u, a1, a2⟩ := e3 j y hy
    exact ⟨u, a1, leFC_ok hf hst hle a2⟩

theorem leCV_ok {hl0 : Nat} {x y : CV} {v : Value} (hf : FillOk f hl0 hl' μ μ' ρ) (hst : Stays F F' w w) (h : leCV f hl0 x y = true) (hv : CVR w F hl μ ρ y v) : CVR w F' hl' μ' (f.env ρ) x v := by
  cases x with
  | s c =>
    cases y with
    | s d =>
      cases c <;> first | trivial | exact leCV0_ok hf hst (by simpa [leCV] using h) hv
    | fn g ds => cases c <;> first | trivial | (simp [leCV] at h; done)
  | fn g cs =>
    cases y with
    | s d => simp [leCV] at h
    | fn g' ds =>
      simp only [leCV, Bool.and_eq_true, beq_iff_eq] at h
      obtain ⟨rfl, h⟩ := h
      obtain ⟨i1, i2⟩ := leList_get h
      obtain ⟨arr, e1, e2, e3⟩ := hv
      refine ⟨arr, e1, by omega, fun j c u hc hu => ?_⟩
      obtain ⟨d, hd, hle⟩ := i2 j c hc
      exact leCV0_ok hf hst hle (e3 j d u hd hu)

theorem leCVs_ok {hl0 : Nat} (hf : FillOk f hl0 hl' μ μ' ρ) (hst : Stays F F' w w) : ∀ {xs ys : List CV} {vs : List Value}, leList (leCV f hl0) xs ys = true → CVRs w F hl μ ρ ys vs → CVRs w F' hl' μ' (f.env ρ) xs vs
  | [], [], [], _, _ => trivial
  | _ :: _, _ :: _, _ :: _, h, ⟨h1, h2⟩ => by
    simp only [leList, Bool.and_eq_true] at h
    exact ⟨leCV_ok hf hst h.1 h1, leCVs_ok hf hst h.2 h2⟩
  | [], _ :: _, _, h, _ => by simp [leList] at h
  | _ :: _, [], _, h, _ => by simp [leList] at h

theorem leTup_ok {hl0 : Nat} (hf : FillOk f hl0 hl' μ μ' ρ) (hst : Stays F F' w w) : ∀ {xs ys : List (Bool × List CV)} {vs : List Value}, leList (leP f hl0) xs ys = true → TVR w F hl μ ρ ys vs → TVR w F' hl' μ' (f.env ρ) xs vs
  | [], [], [], _, _ => trivial
  | (ag, cs) :: _, (ag', cs') :: _, v :: _, h, ⟨h1, h2⟩ => by
    simp only [leList, leP, Bool.and_eq_true, beq_iff_eq] at h
    obtain ⟨⟨rfl, h3⟩, h4⟩ := h
    refine ⟨?_, leTup_ok hf hst h4 h2⟩
    cases ag with
    | true => obtain ⟨arr, e, hc⟩ := h1; exact ⟨arr, e, leCVs_ok hf hst h3 hc⟩
    | false =>
      obtain ⟨c, rfl, hc⟩ := h1
      obtain ⟨i1, i2⟩ := leList_get h3
      obtain ⟨c', rfl⟩ := List.length_eq_one_iff.1 i1
      obtain ⟨y, hy, hle⟩ := i2 0 c' rfl
      simp only [List.getElem?_cons_zero, Option.some.injEq] at hy
      subst hy
      exact ⟨c', rfl, leCV_ok hf hst hle hc⟩
  | [], _ :: _, _, h, _ => by simp [leList] at h
  | _ :: _, [], _, h, _ => by simp [leList] at h

theorem leSV_ok {hl0 : Nat} {x y : SV} {v : Value} (hf : FillOk f hl0 hl' μ μ' ρ) (hst : Stays F F' w w) (h : leSV f hl0 x y = true) (hv : SVR w F hl μ ρ y v) : SVR w F' hl' μ' (f.env ρ) x v := by
  cases x with
  | c x =>
    by_cases hu : x = .s .undef
    · subst hu; trivial
    · cases y with
      | c y => exact leCV_ok hf hst (by cases x with | fn _ _ => exact h | s c => cases c <;> first | exact absurd rfl hu | exact h) hv
      | agg _ => cases x with | fn _ _ => simp [leSV] at h | s c => cases c <;> first | exact absurd rfl hu | (simp [leSV] at h; done)
      | tup _ => cases x with | fn _ _ => simp [leSV] at h | s c => cases c <;> first | exact absurd rfl hu | (simp [leSV] at h; done)
      | gd _ _ _ => cases x with | fn _ _ => simp [leSV] at h | s c => cases c <;> first | exact absurd rfl hu | (simp [leSV] at h; done)
  | agg xs =>
    cases y <;> simp only [leSV] at h <;> try cases h
    obtain ⟨arr, e, hc⟩ := hv
    exact ⟨arr, e, leCVs_ok hf hst h hc⟩
  | tup xs =>
    cases y <;> simp only [leSV] at h <;> try cases h
    obtain ⟨arr, e, hc⟩ := hv
    exact ⟨arr, e, leTup_ok hf hst h hc⟩
  | gd g want s => cases y <;> simp [leSV] at h

theorem nodup_inj {g : Nat → Nat} : ∀ {l : List Nat}, (l.map g).Nodup → ∀ a ∈ l, ∀ b ∈ l, g a = g b → a = b
  | [], _, a, ha, _, _, _ => by simp at ha
  | c :: l, h, a, ha, b, hb, e => by
    simp only [List.map_cons, List.nodup_cons, List.mem_map, not_exists, not_and] at h
    rcases List.mem_cons.1 ha with rfl | ha' <;> rcases List.mem_cons.1 hb with rfl | hb'
    · rfl
    · exact absurd e.symm (h.1 b hb')
    · exact absurd e (h.1 a ha')
    · exact nodup_inj h.2 a ha' b hb' e

theorem liveB_iff {h : List SB} {β : Nat} : liveB h β = true ↔ live h β := by
  unfold liveB live
  cases e : h[β]? with
  | none => simp
  | some sb => cases sb <;> simp

/-- **The other state holds.** -/
theorem leSS_ok {Sj : SS} (h : R X M w0 S μ ρ a w) (hle : leSS f Sj S = true) (hanc : ∀ (β : Nat) v, M.anc[β]? = some v → β < f.hb) : ∃ μ', R X M w0 Sj μ' (f.env ρ) a w := by
  simp only [leSS, Bool.and_eq_true, beq_iff_eq, decide_eq_true_eq, List.all_eq_true, List.mem_range] at hle
  obtain ⟨⟨⟨⟨⟨⟨⟨⟨⟨⟨hn, hfn⟩, hθ⟩, hslots⟩, hnils⟩, hver⟩, hhb⟩, hhj⟩, hheap⟩, hok⟩, hnd⟩ := hle
  obtain ⟨μ1, hμ1, hv1⟩ : ∃ μ1 : Mu, (∀ β, β < S.heap.length → μ1 β = μ β) ∧ ∀ j k, f.nils[j]? = some k → μ1 (S.heap.length + j) = k.nilMV :=
    ⟨fun β => if β < S.heap.length then μ β else match f.nils[β - S.heap.length]? with | some k => k.nilMV | none => μ β, fun β hb => by simp [hb], fun j k hj => by
      show (if _ then _ else _) = _
      rw [if_neg (by omega), show S.heap.length + j - S.heap.length = j from by omega, hj]⟩
  have hN := R_nils h f.nils hnils hμ1 hv1
  generalize hh : S.heap ++ f.nils.map (fun k => k.sb 0 (.c (.lst []))) = h1 at hN hheap hver
  have hlen1 : h1.length = S.heap.length + f.nils.length := by rw [← hh]; simp
  have hF : FillOk f S.heap.length Sj.heap.length μ1 (fun β => (μ1 (f.blk β)).now) ρ := by
    refine ⟨by rw [h.len]; exact hfn, fun z hz => by rw [h.len]; exact hθ z hz, fun _ _ => rfl, fun γ h2 h3 => ?_, fun γ v hγ => ?_, fun β hb => ?_⟩
    · have := hv1 (γ - S.heap.length) _ (List.getElem?_eq_getElem (by omega))
      rw [show S.heap.length + (γ - S.heap.length) = γ from by omega] at this
      rw [this]
      cases f.nils[γ - S.heap.length]'(by omega) <;> rfl
    · rw [hver, List.getElem?_map] at hγ
      cases hb : h1[γ]? with
      | none => rw [hb] at hγ; cases hγ
      | some sb =>
        rw [hb] at hγ
        simp only [Option.map_some, Option.some.injEq] at hγ
        cases sb <;> simp only [verOf, Option.some.injEq, reduceCtorEq] at hγ
        subst hγ
        exact (hN.blocks γ _ hb).1
    · simp only [Fill.blkOk, Bool.and_eq_true, decide_eq_true_eq] at hb
      omega
  have hsb : ∀ {β sb}, Sj.heap[β]? = some sb → sb ≠ .dead → ∃ sb', h1[f.blk β]? = some sb' ∧ leSB f S.heap.length sb sb' = true := by
    intro β sb hs hd
    have hb := hheap β (live_lt ⟨_, hs, hd⟩)
    rw [hs] at hb
    cases sb with
    | dead => exact absurd rfl hd
    | _ =>
      simp only [Bool.and_eq_true] at hb
      cases hb' : h1[f.blk β]? with
      | none => rw [hb'] at hb; simp at hb
      | some sb' => rw [hb'] at hb; exact ⟨sb', rfl, hb.2⟩
  have hlive : ∀ {β}, live Sj.heap β → live h1 (f.blk β) := by
    intro β ⟨sb, hs, hd⟩
    obtain ⟨sb', h2, h3⟩ := hsb hs hd
    refine ⟨sb', h2, fun e => ?_⟩
    subst e
    cases sb <;> first | exact absurd rfl hd | simp [leSB] at h3
  have hst : Stays (Fz X h1 μ1 w) (Fz X Sj.heap (fun β => (μ1 (f.blk β)).now) w) w w := ⟨fun b hb => ⟨hb.1, fun β hl ho => hb.2 _ (hlive hl) (MV.now_own.1 ho)⟩, fun _ _ => rfl⟩
  obtain ⟨l1, l2⟩ := leList_get hslots
  refine ⟨fun β => (μ1 (f.blk β)).now, hN.keeps, ?_, ?_, hN.defers, fun i s hs => ?_, fun β sb hs => ?_, hN.ex, fun β γ hβ hγ hne b hb hb' => ?_, fun β hβ b hb => hN.exo _ (hlive hβ) b (MV.now_own.1 hb), fun β v hv => ?_⟩
  · have := hF.n
    simp only [Fill.env, List.length_append, List.length_take, evs, List.length_map]
    omega
  · rw [l1]; exact hN.size
  · obtain ⟨y, hy, hle⟩ := l2 i s hs
    exact leSV_ok hF hst hle (hN.slots i y hy)
  · by_cases hd : sb = .dead
    · subst hd; trivial
    obtain ⟨sb', h2, h3⟩ := hsb hs hd
    have hB := hN.blocks _ _ h2
    cases sb with
    | dead => trivial
    | hid => simp [leSB] at h3
    | var cs =>
      cases sb' with
      | var ys =>
        obtain ⟨h0, b, arr, T, e1, e2, e3, e4⟩ := hB
        rw [MV.now_nil h0]
        exact ⟨h0, b, arr, T, e1, e2, e3, leCVs_ok hF hst h3 e4⟩
      | _ => simp [leSB] at h3
    | row t e x =>
      cases sb' with
      | row t' e' y =>
        simp only [leSB, Bool.and_eq_true, decide_eq_true_eq, beq_iff_eq] at h3
        obtain ⟨⟨rfl, rfl⟩, hx⟩ := h3
        obtain ⟨h0, n, xs, ls, e1, e2, e3, e4, e5⟩ := hB
        rw [MV.now_nil h0]
        exact ⟨h0, n, xs, ls, e1, e2, leAtom_ok hF.n hx e3, e4, e5.mono hst⟩
      | _ => simp [leSB] at h3
    | rows et f' e v x =>
      cases sb' with
      | rows et' g' e' v' y =>
        simp only [leSB, Bool.and_eq_true, decide_eq_true_eq, beq_iff_eq] at h3
        obtain ⟨⟨⟨⟨rfl, rfl⟩, rfl⟩, rfl⟩, hx⟩ := h3
        obtain ⟨h0, n, ls, e1, e2, e3, e4, e5, e6, e7⟩ := hB
        have hne : (μ1 (f.blk β)).hist.isEmpty = false := by
          cases h : (μ1 (f.blk β)).hist with
          | nil => rw [h] at h0; cases h0
          | cons _ _ => rfl
        refine ⟨by simp [MV.now, hne], n, ls, by rw [MV.now_inner]; exact e1, fun b hb => e2 b (MV.now_own.1 hb), leAtom_ok hF.n hx e3, e4, by rw [MV.now_inner]; exact e5, by rw [MV.now_inner]; exact e6, by rw [MV.now_inner]; exact e7⟩
      | _ => simp [leSB] at h3
  · refine hN.inj _ _ (hlive hβ) (hlive hγ) (fun e => hne ?_) b (MV.now_own.1 hb) (MV.now_own.1 hb')
    refine nodup_inj hnd β ?_ γ ?_ e
    · simp only [List.mem_filter, List.mem_range]; exact ⟨live_lt hβ, liveB_iff.2 hβ⟩
    · simp only [List.mem_filter, List.mem_range]; exact ⟨live_lt hγ, liveB_iff.2 hγ⟩
  · have hb := hanc β v hv
    refine ⟨Nat.lt_of_lt_of_le hb hhj, ?_⟩
    show (μ1 (f.blk β)).v = v
    rw [show f.blk β = β from by simp [Fill.blk, hb], hμ1 β (h.anc β v hv).1]
    exact (h.anc β v hv).2

end
end Vs
