/-
  One symbolic state for another: where ways meet, and at a loop's head.
-/
import Derived.Test.YthgocnlbnghbbaaVs13
namespace Vs
open Go Go.RowKit

/-- Equality of the constants that occur; 'false' where it is not seen. -/
def D.eqb : D → D → Bool
  | .int a, .int b => a == b
  | .bool a, .bool b => a == b
  | .flt a, .flt b => a == b
  | .lst [], .lst [] => true
  | _, _ => false

theorem D.eqb_ok {a b : D} (h : D.eqb a b = true) : a = b := by
  unfold D.eqb at h
  split at h
  · simp only [beq_iff_eq] at h; rw [h]
  · simp only [beq_iff_eq] at h; rw [h]
  · simp only [beq_iff_eq] at h; rw [h]
  · rfl
  · cases h

def Atom.eqb : Atom → Atom → Bool
  | .v i, .v j => i == j
  | .c a, .c b => D.eqb a b
  | _, _ => false
theorem Atom.eqb_ok {a b : Atom} (h : Atom.eqb a b = true) : a = b := by
  unfold Atom.eqb at h
  split at h
  · simp only [beq_iff_eq] at h; rw [h]
  · rw [D.eqb_ok h]
  · cases h

/-- How the places and blocks behind n and hb are filled. -/
structure Fill where
  n : Nat
  hb : Nat
  hj : Nat
  θ : List Atom
  bs : List Nat
  nils : List (CT × TypeId)

def Fill.blk (f : Fill) (β : Nat) : Nat := if β < f.hb then β else f.bs.getD (β - f.hb) 0
def Fill.blkOk (f : Fill) (β : Nat) : Bool := decide (β < f.hj) && (decide (β < f.hb) || decide (β - f.hb < f.bs.length))

def leAtom (f : Fill) : Atom → Atom → Bool
  | .v j, y => if j < f.n then Atom.eqb (.v j) y else (match f.θ[j - f.n]? with | some z => Atom.eqb z y | none => false)
  | .c d, y => Atom.eqb (.c d) y

def leCells (f : Fill) : List (CT × Atom) → List (CT × Atom) → Bool
  | [], [] => true
  | (t, x) :: r, (u, y) :: q => decide (t = u) && leAtom f x y && leCells f r q
  | _, _ => false

/-- 'hl': how many blocks the other state has without the empty rows. -/
def leCV0 (f : Fill) (hl : Nat) : CV0 → CV0 → Bool
  | .undef, _ => true
  | .nils, .nils => true
  | .dat t x, .dat u y => decide (t = u) && leAtom f x y
  | .dat t x, .nils => (match t with | .b _ => false | _ => leAtom f x (.c (.lst [])))
  | .own β, .own γ => f.blkOk β && f.blk β == γ
  | .own β, .nils => f.blkOk β && decide (hl ≤ f.blk β) && decide (f.blk β < hl + f.nils.length)
  | .vptr β o, .vptr γ p => f.blkOk β && f.blk β == γ && o == p
  | .eptr β i s o, .eptr γ j s' p => f.blkOk β && f.blk β == γ && leAtom f i j && s == s' && o == p
  | .fcel cs o, .fcel ds p => leCells f cs ds && o == p
  | _, _ => false

def leList {α : Type} (le : α → α → Bool) : List α → List α → Bool
  | [], [] => true
  | a :: r, b :: q => le a b && leList le r q
  | _, _ => false

def leCV (f : Fill) (hl : Nat) : CV → CV → Bool
  | .s .undef, _ => true
  | .s c, .s d => leCV0 f hl c d
  | .fn g cs, .fn g' ds => g == g' && leList (leCV0 f hl) cs ds
  | _, _ => false

def leP (f : Fill) (hl : Nat) (a b : Bool × List CV) : Bool := a.1 == b.1 && leList (leCV f hl) a.2 b.2

def leSV (f : Fill) (hl : Nat) : SV → SV → Bool
  | .c (.s .undef), _ => true
  | .c x, .c y => leCV f hl x y
  | .agg xs, .agg ys => leList (leCV f hl) xs ys
  | .tup xs, .tup ys => leList (leP f hl) xs ys
  | _, _ => false

def leSB (f : Fill) (hl : Nat) : SB → SB → Bool
  | .dead, _ => true
  | .var xs, .var ys => leList (leCV f hl) xs ys
  | .row t e x, .row t' e' y => decide (t = t') && e == e' && leAtom f x y
  | _, _ => false

def liveB (h : List SB) (β : Nat) : Bool := match h[β]? with | some .dead => false | some _ => true | none => false

def atomIn (n : Nat) : Atom → Bool | .v i => i < n | .c _ => true

/-- Whether state Sj holds where S does, the places behind f.n filled. -/
def leSS (f : Fill) (Sj S : SS) : Bool :=
  let h := S.heap ++ f.nils.map fun (t, e) => .row t e (.c (.lst []))
  Sj.n == f.n + f.θ.length && f.n ≤ S.n && f.θ.all (atomIn S.n) && leList (leSV f S.heap.length) Sj.slots S.slots &&
  f.nils.all (fun (t, _) => match t with | .b _ => false | _ => true) &&
  decide (f.hb ≤ S.heap.length) &&
  (List.range Sj.heap.length).all (fun β => match Sj.heap[β]? with
    | some sb => (match sb with | .dead => true | _ => f.blkOk β && (match h[f.blk β]? with | some sb' => leSB f S.heap.length sb sb' | none => false))
    | none => true) &&
  f.hj == Sj.heap.length &&
  (let im := ((List.range Sj.heap.length).filter (liveB Sj.heap)).map f.blk; decide (im.Nodup))

section
variable {X M : Nat → Prop} {w0 w : World} {S : SS} {μ : Mu} {ρ : List D} {a : Act}

/-- Empty rows beside: nobody owns a block through them. -/
theorem R_nils {μ1 : Mu} (h : R X M w0 S μ ρ a w) (nils : List (CT × TypeId)) (hn : ∀ p ∈ nils, ∀ b, p.1 ≠ .b b) (hμ : ∀ β, β < S.heap.length → μ1 β = μ β) (hv : ∀ j, μ1 (S.heap.length + j) = .slice none 0 0) :
    R X M w0 { S with heap := S.heap ++ nils.map fun (t, e) => .row t e (.c (.lst [])) } μ1 ρ a w := by
  refine R_extend h (Keeps.refl _ _) _ hμ (fun j _ b hb => ?_) (fun i j _ _ _ b hb => ?_) (fun j sb hj => ?_)
  · rw [hv] at hb; cases hb
  · rw [hv] at hb; cases hb
  · rw [List.getElem?_map] at hj
    obtain ⟨⟨t, e⟩, hp, rfl⟩ := map_some_eq hj
    rw [hv]
    refine ⟨0, [], [], ⟨by simp, .inl ⟨rfl, rfl⟩⟩, fun b hb => (by cases hb), rfl, rfl, ?_⟩
    have := hn _ (List.mem_of_getElem? hp)
    cases t with
    | b t => exact absurd rfl (this t)
    | s1 e => rfl
    | s2 e => rfl

theorem leList_get {α : Type} {le : α → α → Bool} : ∀ {xs ys : List α}, leList le xs ys = true → xs.length = ys.length ∧ ∀ (i : Nat) x, xs[i]? = some x → ∃ y, ys[i]? = some y ∧ le x y = true
  | [], [], _ => ⟨rfl, by simp⟩
  | a :: r, b :: q, h => by
    simp only [leList, Bool.and_eq_true] at h
    obtain ⟨i1, i2⟩ := leList_get h.2
    refine ⟨by simp [i1], fun i x hi => ?_⟩
    cases i with
    | zero => simp only [List.getElem?_cons_zero, Option.some.injEq] at hi; subst hi; exact ⟨b, rfl, h.1⟩
    | succ i => simp only [List.getElem?_cons_succ] at hi ⊢; exact i2 i x hi
  | [], _ :: _, h => by simp [leList] at h
  | _ :: _, [], h => by simp [leList] at h

/-- The data that Sj's environment holds. -/
def Fill.env (f : Fill) (ρ : List D) : List D := ρ.take f.n ++ evs ρ f.θ

variable {f : Fill} {F F' : Nat → Prop} {hl hl' : Nat} {μ' : Mu}

theorem leAtom_ok {x y : Atom} {d : D} (hn : f.n ≤ ρ.length) (h : leAtom f x y = true) (hy : y.get ρ = some d) : x.get (f.env ρ) = some d := by
  cases x with
  | c d' =>
    simp only [leAtom] at h
    rw [← Atom.eqb_ok h] at hy
    exact hy
  | v j =>
    simp only [leAtom] at h
    split at h
    · rename_i hj
      rw [← Atom.eqb_ok h] at hy
      simp only [Atom.get, Fill.env] at hy ⊢
      rw [List.getElem?_append_left (by simp; omega), List.getElem?_take, if_pos hj]
      exact hy
    · rename_i hj
      split at h
      · rename_i z hz
        rw [← Atom.eqb_ok h] at hy
        simp only [Atom.get, Fill.env]
        have hl : (ρ.take f.n).length = f.n := by simp; omega
        rw [List.getElem?_append_right (by omega), hl]
        simp only [evs, List.getElem?_map, hz, Option.map_some, Atom.ev_of_get hy]
      · cases h

structure FillOk (f : Fill) (hl0 hl' : Nat) (μ μ' : Mu) (ρ : List D) : Prop where
  n : f.n ≤ ρ.length
  θ : ∀ z ∈ f.θ, atomIn ρ.length z = true
  mu : ∀ β, β < hl' → μ' β = μ (f.blk β)
  nil : ∀ γ, hl0 ≤ γ → γ < hl0 + f.nils.length → μ γ = .slice none 0 0
  ok : ∀ β, f.blkOk β = true → β < hl'

theorem leCV0_ok {hl0 : Nat} {x y : CV0} {v : Value} (hf : FillOk f hl0 hl' μ μ' ρ) (hst : Stays F F' w w) (h : leCV0 f hl0 x y = true) (hv : CVR0 w F hl μ ρ y v) : CVR0 w F' hl' μ' (f.env ρ) x v := by
  cases x with
  | undef => trivial
  | nils =>
    cases y <;> simp only [leCV0] at h <;> first | exact hv | cases h
  | dat t x =>
    cases y <;> simp only [leCV0] at h <;> try cases h
    · -- nils
      cases t with
      | b t => cases h
      | s1 e =>
        simp only [CVR0] at hv
        subst hv
        exact ⟨_, leAtom_ok hf.n h rfl, [], rfl, .inl ⟨rfl, rfl⟩⟩
      | s2 e =>
        simp only [CVR0] at hv
        subst hv
        exact ⟨_, leAtom_ok hf.n h rfl, [], rfl, .inl ⟨rfl, rfl⟩⟩
    · rename_i u y
      simp only [Bool.and_eq_true, decide_eq_true_eq] at h
      obtain ⟨rfl, h⟩ := h
      obtain ⟨d, hd, hr⟩ := hv
      exact ⟨d, leAtom_ok hf.n h hd, hr.mono hst⟩
  | own β =>
    cases y <;> simp only [leCV0] at h <;> try cases h
    · simp only [Bool.and_eq_true, decide_eq_true_eq] at h
      have hb := hf.ok β h.1.1
      simp only [CVR0] at hv
      subst hv
      have := hf.nil _ h.1.2 h.2
      refine ⟨hb, ?_, ?_⟩
      · rw [hf.mu β hb, this]
      · rw [hf.mu β hb, this]; exact ⟨_, _, _, rfl⟩
    · rename_i γ
      simp only [Bool.and_eq_true, beq_iff_eq] at h
      obtain ⟨h1, rfl⟩ := h
      have hb := hf.ok β h1
      obtain ⟨_, rfl, hs⟩ := hv
      exact ⟨hb, (hf.mu β hb).symm, by rw [hf.mu β hb]; exact hs⟩
  | vptr β o =>
    cases y <;> simp only [leCV0] at h <;> try cases h
    rename_i γ p
    simp only [Bool.and_eq_true, beq_iff_eq] at h
    obtain ⟨⟨h1, rfl⟩, rfl⟩ := h
    have hb := hf.ok β h1
    obtain ⟨_, b, e1, e2⟩ := hv
    exact ⟨hb, b, by rw [hf.mu β hb]; exact e1, e2⟩
  | eptr β i s o =>
    cases y <;> simp only [leCV0] at h <;> try cases h
    rename_i γ j s' p
    simp only [Bool.and_eq_true, beq_iff_eq] at h
    obtain ⟨⟨⟨⟨h1, rfl⟩, h2⟩, rfl⟩, rfl⟩ := h
    have hb := hf.ok β h1
    obtain ⟨_, b, len, cap, n, e1, e2, e3⟩ := hv
    exact ⟨hb, b, len, cap, n, by rw [hf.mu β hb]; exact e1, leAtom_ok hf.n h2 e2, e3⟩
  | fcel cs o =>
    cases y <;> simp only [leCV0] at h <;> try cases h
    rename_i ds p
    simp only [Bool.and_eq_true, beq_iff_eq] at h
    obtain ⟨h1, rfl⟩ := h
    obtain ⟨b, o', e1, e2, e3⟩ := hv
    have key : ∀ {cs ds : List (CT × Atom)}, leCells f cs ds = true → ∀ (j : Nat) t x, cs[j]? = some (t, x) → ∃ y, ds[j]? = some (t, y) ∧ leAtom f x y = true := by
      intro cs
      induction cs with
      | nil => intro ds _ j t x hj; simp at hj
      | cons p r ih =>
        intro ds h j t x hj
        cases ds with
        | nil => simp [leCells] at h
        | cons q s =>
          obtain ⟨pt, px⟩ := p
          obtain ⟨qt, qx⟩ := q
          simp only [leCells, Bool.and_eq_true, decide_eq_true_eq] at h
          cases j with
          | zero =>
            simp only [List.getElem?_cons_zero, Option.some.injEq, Prod.mk.injEq] at hj
            obtain ⟨rfl, rfl⟩ := hj
            exact ⟨qx, by rw [h.1.1]; rfl, h.1.2⟩
          | succ j => simp only [List.getElem?_cons_succ] at hj ⊢; exact ih h.2 j t x hj
    refine ⟨b, o', e1, hst.le b e2, fun j t x hj => ?_⟩
    obtain ⟨y, hy, hle⟩ := key h1 j t x hj
    obtain ⟨u, d, a1, a2, a3⟩ := e3 j t y hy
    exact ⟨u, d, a1, leAtom_ok hf.n hle a2, a3.mono hst⟩

theorem leCV_ok {hl0 : Nat} {x y : CV} {v : Value} (hf : FillOk f hl0 hl' μ μ' ρ) (hst : Stays F F' w w) (h : leCV f hl0 x y = true) (hv : CVR w F hl μ ρ y v) : CVR w F' hl' μ' (f.env ρ) x v := by
  cases x with
  | s c =>
    cases y with
    | s d =>
      cases c <;> first | trivial | exact leCV0_ok hf hst (by simpa [leCV] using h) hv
    | fn g ds => cases c <;> first | trivial | (simp [leCV] at h; done)
  | fn g cs =>
    cases y with
    | s d => simp [leCV] at h
    | fn g' ds =>
      simp only [leCV, Bool.and_eq_true, beq_iff_eq] at h
      obtain ⟨rfl, h⟩ := h
      obtain ⟨i1, i2⟩ := leList_get h
      obtain ⟨arr, e1, e2, e3⟩ := hv
      refine ⟨arr, e1, by omega, fun j c u hc hu => ?_⟩
      obtain ⟨d, hd, hle⟩ := i2 j c hc
      exact leCV0_ok hf hst hle (e3 j d u hd hu)

theorem leCVs_ok {hl0 : Nat} (hf : FillOk f hl0 hl' μ μ' ρ) (hst : Stays F F' w w) : ∀ {xs ys : List CV} {vs : List Value}, leList (leCV f hl0) xs ys = true → CVRs w F hl μ ρ ys vs → CVRs w F' hl' μ' (f.env ρ) xs vs
  | [], [], [], _, _ => trivial
  | _ :: _, _ :: _, _ :: _, h, ⟨h1, h2⟩ => by
    simp only [leList, Bool.and_eq_true] at h
    exact ⟨leCV_ok hf hst h.1 h1, leCVs_ok hf hst h.2 h2⟩
  | [], _ :: _, _, h, _ => by simp [leList] at h
  | _ :: _, [], _, h, _ => by simp [leList] at h

theorem leTup_ok {hl0 : Nat} (hf : FillOk f hl0 hl' μ μ' ρ) (hst : Stays F F' w w) : ∀ {xs ys : List (Bool × List CV)} {vs : List Value}, leList (leP f hl0) xs ys = true → TVR w F hl μ ρ ys vs → TVR w F' hl' μ' (f.env ρ) xs vs
  | [], [], [], _, _ => trivial
  | (ag, cs) :: _, (ag', cs') :: _, v :: _, h, ⟨h1, h2⟩ => by
    simp only [leList, leP, Bool.and_eq_true, beq_iff_eq] at h
    obtain ⟨⟨rfl, h3⟩, h4⟩ := h
    refine ⟨?_, leTup_ok hf hst h4 h2⟩
    cases ag with
    | true => obtain ⟨arr, e, hc⟩ := h1; exact ⟨arr, e, leCVs_ok hf hst h3 hc⟩
    | false =>
      obtain ⟨c, rfl, hc⟩ := h1
      obtain ⟨i1, i2⟩ := leList_get h3
      obtain ⟨c', rfl⟩ := List.length_eq_one_iff.1 i1
      obtain ⟨y, hy, hle⟩ := i2 0 c' rfl
      simp only [List.getElem?_cons_zero, Option.some.injEq] at hy
      subst hy
      exact ⟨c', rfl, leCV_ok hf hst hle hc⟩
  | [], _ :: _, _, h, _ => by simp [leList] at h
  | _ :: _, [], _, h, _ => by simp [leList] at h

theorem leSV_ok {hl0 : Nat} {x y : SV} {v : Value} (hf : FillOk f hl0 hl' μ μ' ρ) (hst : Stays F F' w w) (h : leSV f hl0 x y = true) (hv : SVR w F hl μ ρ y v) : SVR w F' hl' μ' (f.env ρ) x v := by
  cases x with
  | c x =>
    by_cases hu : x = .s .undef
    · subst hu; trivial
    · cases y with
      | c y => exact leCV_ok hf hst (by cases x with | fn _ _ => exact h | s c => cases c <;> first | exact absurd rfl hu | exact h) hv
      | agg _ => cases x with | fn _ _ => simp [leSV] at h | s c => cases c <;> first | exact absurd rfl hu | (simp [leSV] at h; done)
      | tup _ => cases x with | fn _ _ => simp [leSV] at h | s c => cases c <;> first | exact absurd rfl hu | (simp [leSV] at h; done)
      | gd _ _ _ => cases x with | fn _ _ => simp [leSV] at h | s c => cases c <;> first | exact absurd rfl hu | (simp [leSV] at h; done)
  | agg xs =>
    cases y <;> simp only [leSV] at h <;> try cases h
    obtain ⟨arr, e, hc⟩ := hv
    exact ⟨arr, e, leCVs_ok hf hst h hc⟩
  | tup xs =>
    cases y <;> simp only [leSV] at h <;> try cases h
    obtain ⟨arr, e, hc⟩ := hv
    exact ⟨arr, e, leTup_ok hf hst h hc⟩
  | gd g want s => cases y <;> simp [leSV] at h

theorem nodup_inj {g : Nat → Nat} : ∀ {l : List Nat}, (l.map g).Nodup → ∀ a ∈ l, ∀ b ∈ l, g a = g b → a = b
  | [], _, a, ha, _, _, _ => by simp at ha
  | c :: l, h, a, ha, b, hb, e => by
    simp only [List.map_cons, List.nodup_cons, List.mem_map, not_exists, not_and] at h
    rcases List.mem_cons.1 ha with rfl | ha' <;> rcases List.mem_cons.1 hb with rfl | hb'
    · rfl
    · exact absurd e.symm (h.1 b hb')
    · exact absurd e (h.1 a ha')
    · exact nodup_inj h.2 a ha' b hb' e

theorem liveB_iff {h : List SB} {β : Nat} : liveB h β = true ↔ live h β := by
  unfold liveB live
  cases e : h[β]? with
  | none => simp
  | some sb => cases sb <;> simp

/-- **The other state holds.** -/
theorem leSS_ok {Sj : SS} (h : R X M w0 S μ ρ a w) (hle : leSS f Sj S = true) : ∃ μ', R X M w0 Sj μ' (f.env ρ) a w := by
  simp only [leSS, Bool.and_eq_true, beq_iff_eq, decide_eq_true_eq, List.all_eq_true, List.mem_range] at hle
  obtain ⟨⟨⟨⟨⟨⟨⟨⟨hn, hfn⟩, hθ⟩, hslots⟩, hnils⟩, hhb⟩, hheap⟩, hok⟩, hnd⟩ := hle
  obtain ⟨μ1, hμ1, hv1⟩ : ∃ μ1 : Mu, (∀ β, β < S.heap.length → μ1 β = μ β) ∧ ∀ j, μ1 (S.heap.length + j) = .slice none 0 0 :=
    ⟨fun β => if β < S.heap.length then μ β else .slice none 0 0, fun β hb => by simp [hb], fun j => by show (if _ then _ else _) = _; rw [if_neg (by omega)]⟩
  have hN := R_nils h f.nils (fun p hp b e => by
    have := hnils p hp
    obtain ⟨t, e'⟩ := p
    simp only at e
    subst e
    simp at this) hμ1 hv1
  generalize hh : S.heap ++ f.nils.map (fun (t, e) => SB.row t e (.c (.lst []))) = h1 at hN hheap
  have hlen1 : h1.length = S.heap.length + f.nils.length := by rw [← hh]; simp
  have hF : FillOk f S.heap.length Sj.heap.length μ1 (fun β => μ1 (f.blk β)) ρ := by
    refine ⟨by rw [h.len]; exact hfn, fun z hz => by rw [h.len]; exact hθ z hz, fun _ _ => rfl, fun γ h2 h3 => ?_, fun β hb => ?_⟩
    · have := hv1 (γ - S.heap.length)
      rw [show S.heap.length + (γ - S.heap.length) = γ from by omega] at this
      exact this
    · simp only [Fill.blkOk, Bool.and_eq_true, decide_eq_true_eq] at hb
      omega
  have hlive : ∀ {β}, live Sj.heap β → live h1 (f.blk β) := by
    intro β ⟨sb, hs, hd⟩
    have := hheap β (live_lt ⟨sb, hs, hd⟩)
    rw [hs] at this
    cases sb with
    | dead => exact absurd rfl hd
    | hid =>
      simp only [Bool.and_eq_true] at this
      cases hb : h1[f.blk β]? with
      | none => rw [hb] at this; simp at this
      | some sb' => rw [hb] at this; simp [leSB] at this
    | var cs =>
      simp only [Bool.and_eq_true] at this
      cases hb : h1[f.blk β]? with
      | none => rw [hb] at this; simp at this
      | some sb' =>
        rw [hb] at this
        refine ⟨sb', hb, fun e => ?_⟩
        subst e
        simp [leSB] at this
    | row t e x =>
      simp only [Bool.and_eq_true] at this
      cases hb : h1[f.blk β]? with
      | none => rw [hb] at this; simp at this
      | some sb' =>
        rw [hb] at this
        refine ⟨sb', hb, fun e => ?_⟩
        subst e
        simp [leSB] at this
  have hst : Stays (Fz X h1 μ1 w) (Fz X Sj.heap (fun β => μ1 (f.blk β)) w) w w := ⟨fun b hb => ⟨hb.1, fun β hl => hb.2 _ (hlive hl)⟩, fun _ _ => rfl⟩
  obtain ⟨l1, l2⟩ := leList_get hslots
  refine ⟨fun β => μ1 (f.blk β), hN.keeps, ?_, ?_, hN.defers, fun i s hs => ?_, fun β sb hs => ?_, hN.ex, fun β γ hβ hγ hne b hb => ?_⟩
  · have := hF.n
    simp only [Fill.env, List.length_append, List.length_take, evs, List.length_map]
    omega
  · rw [l1]; exact hN.size
  · obtain ⟨y, hy, hle⟩ := l2 i s hs
    exact leSV_ok hF hst hle (hN.slots i y hy)
  · cases sb with
    | dead => trivial
    | hid =>
      have hb := hheap β (live_lt ⟨_, hs, by simp⟩)
      rw [hs] at hb
      simp only [Bool.and_eq_true] at hb
      cases hb' : h1[f.blk β]? with
      | none => rw [hb'] at hb; simp at hb
      | some sb' => rw [hb'] at hb; simp [leSB] at hb
    | var cs =>
      have hb := hheap β (live_lt ⟨_, hs, by simp⟩)
      rw [hs] at hb
      simp only [Bool.and_eq_true] at hb
      cases hb' : h1[f.blk β]? with
      | none => rw [hb'] at hb; simp at hb
      | some sb' =>
        rw [hb'] at hb
        cases sb' with
        | var ys =>
          obtain ⟨b, arr, T, e1, e2, e3, e4⟩ := hN.blocks _ _ hb'
          exact ⟨b, arr, T, e1, e2, e3, leCVs_ok hF hst hb.2 e4⟩
        | dead => simp [leSB] at hb
        | hid => simp [leSB] at hb
        | row _ _ _ => simp [leSB] at hb
    | row t e x =>
      have hb := hheap β (live_lt ⟨_, hs, by simp⟩)
      rw [hs] at hb
      simp only [Bool.and_eq_true] at hb
      cases hb' : h1[f.blk β]? with
      | none => rw [hb'] at hb; simp at hb
      | some sb' =>
        rw [hb'] at hb
        cases sb' with
        | row t' e' y =>
          simp only [leSB, Bool.and_eq_true, decide_eq_true_eq, beq_iff_eq] at hb
          obtain ⟨_, ⟨rfl, rfl⟩, hx⟩ := hb
          obtain ⟨n, xs, ls, e1, e2, e3, e4, e5⟩ := hN.blocks _ _ hb'
          exact ⟨n, xs, ls, e1, e2, leAtom_ok hF.n hx e3, e4, e5.mono hst⟩
        | dead => simp [leSB] at hb
        | hid => simp [leSB] at hb
        | var _ => simp [leSB] at hb
  · refine hN.inj _ _ (hlive hβ) (hlive hγ) (fun e => hne ?_) b hb
    refine nodup_inj hnd β ?_ γ ?_ e
    · simp only [List.mem_filter, List.mem_range]; exact ⟨live_lt hβ, liveB_iff.2 hβ⟩
    · simp only [List.mem_filter, List.mem_range]; exact ⟨live_lt hγ, liveB_iff.2 hγ⟩

end
end Vs
