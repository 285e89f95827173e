/-
  One operation in the order of the text.
-/
import Derived.Test.YtfpmhmngebnphaaNs10
namespace Vs
open Go Go.RowKit

def effRun (G : Nat → List D → Option (List D)) (ρ : List D) : Eff → Option (List D)
  | .prims ps => pushAll ps ρ
  | .call pre f xs m post => (pushAll pre ρ).bind fun ρ1 => match G f (evs ρ1 xs) with | some ds => if ds.length = m then pushAll post (ρ1 ++ ds) else none | none => none
def effLen : Eff → Nat
  | .prims ps => ps.length
  | .call pre _ _ m post => pre.length + m + post.length

structure EnvOk (E : Env) (G : Nat → List D → Option (List D)) : Prop where
  ext : ExtOk E.P E.ext
  sig : ∀ f key sg, E.sig f = some (key, sg) → SoundCall E.P f sg (G key)

section
variable {P : Program} {X : Nat → Prop} {M : Hand} {w0 w w' : World} {S : SS} {μ μ' : Mu} {ρ : List D} {a : Act}

/-! ### Guards -/
theorem tmps_get (h : R X M w0 S μ ρ a w) {d : Nat} {s : SV} (hs : S.slots[d]? = some s) : a.tmps[d]? = some (a.tmps.getD d Go.undef) := by
  have hlt : d < a.tmps.size := by
    rw [h.size]
    rcases Nat.lt_or_ge d S.slots.length with h' | h'
    · exact h'
    · rw [List.getElem?_eq_none h'] at hs; cases hs
  rw [Array.getElem?_eq_getElem hlt]
  simp [hlt]

theorem get_lt {i n : Nat} (hn : ρ.length = n) (hi : i < n) : (Atom.v i).get ρ ≠ none := by
  subst hn
  simp only [Atom.get]
  rw [List.getElem?_eq_getElem hi]
  simp

theorem ok_of_get {x : Atom} {b want : Bool} (h : x.get ρ = some (.bool b)) : Guard.ok ρ (some (x, want)) = (b == want) := by
  simp [Guard.ok, Atom.ev_of_get h]

theorem guardOf_ok {ops : Array Oper} {o : Oper} {g : Guard} (h : guardOf S ops.toList o = .ok g) (hR : R X M w0 S μ ρ a w) :
    Region.wanted o (yielded ops a.tmps) = g.ok ρ ∧ (∀ x want, g = some (x, want) → x.get ρ ≠ none) := by
  unfold guardOf at h
  unfold Region.wanted
  split at h
  · rename_i hg
    simp only [Except.ok.injEq] at h
    subst h
    exact ⟨by rw [hg]; rfl, by simp⟩
  · rename_i j want hg
    rw [hg]
    simp only
    split at h
    · rename_i d hd
      have hy : yielded ops a.tmps j = (match a.tmps[d]? with | some (.bool b) => some b | _ => none) := by
        unfold yielded
        have : ops[j]? = ops.toList[j]? := by simp
        rw [this, hd]
        rfl
      rw [hy]
      split at h
      · rename_i i hs
        split at h
        · rename_i hi
          simp only [Except.ok.injEq] at h
          subst h
          obtain ⟨b, hv, hb⟩ := rd_bool (hR.slots d _ hs)
          refine ⟨?_, fun x want e => ?_⟩
          · rw [tmps_get hR hs, hv, ok_of_get hb]
            simp
          · simp only [Option.some.injEq, Prod.mk.injEq] at e
            rw [← e.1]
            exact get_lt hR.len hi
        · cases h
      · rename_i g0 w0' i hs
        split at h
        · rename_i hi
          simp only [Except.ok.injEq] at h
          subst h
          have hh := hR.slots d _ hs
          refine ⟨?_, fun x want e => ?_⟩
          · rw [tmps_get hR hs]
            by_cases hc : g0.get ρ = some (.bool w0')
            · obtain ⟨b, hv, hb⟩ := rd_bool (hh.2.1 hc)
              rw [hv, ok_of_get hb]
              simp
            · obtain ⟨hv, dd, hd', hb⟩ := hh.2.2 hc
              rw [hv]
              have : (Atom.v i).ev ρ = dd := Atom.ev_of_get (x := .v i) hd'
              simp only [Guard.ok, this, Go.undef]
              cases dd <;> first | rfl | exact absurd rfl (hb _)
          · simp only [Option.some.injEq, Prod.mk.injEq] at e
            rw [← e.1]
            exact get_lt hR.len hi
        · cases h
      · cases h
    · cases h

theorem guard_append {g : Guard} (hg : ∀ x want, g = some (x, want) → x.get ρ ≠ none) (σ : List D) : g.ok (ρ ++ σ) = g.ok ρ := by
  cases g with
  | none => rfl
  | some p =>
    obtain ⟨x, want⟩ := p
    have := hg x want rfl
    cases hx : x.get ρ with
    | none => exact absurd hx this
    | some d => simp only [Guard.ok, Atom.ev_of_get hx, Atom.ev_of_get (Atom.get_append (σ := σ) hx)]

theorem wrapG_ok {F : Nat → Prop} {hl : Nat} {g : Guard} {s : SV} {v : Value} (hg : ∀ x want, g = some (x, want) → x.get ρ ≠ none) (hok : g.ok ρ = true) (h : SVR w F hl μ ρ s v) : SVR w F hl μ ρ (wrapG g s) v := by
  unfold wrapG
  split
  · exact h
  · rename_i x want
    exact ⟨hg x want rfl, fun _ => h, fun hn => absurd (guard_get hok) hn⟩

theorem not_ok {x : Atom} {want : Bool} (h : Guard.ok ρ (some (x, want)) = false) : x.get ρ ≠ some (.bool want) := by
  intro hx
  rw [ok_of_get hx] at h
  simp at h

/-- A state whose operation was passed over. -/
theorem R_skip {g : Guard} {s : SV} {slots : List SV} {dst : Option Nat} {m : Nat} (h : R X M w0 S μ ρ a w) (hg : ∀ x want, g = some (x, want) → x.get ρ ≠ none) (hok : g.ok ρ = false) (hp : put S dst (wrapG g s) = .ok slots)
    (hf : freshSV S.n m s = true) :
    R X M w0 { S with n := S.n + m, slots } μ (ρ ++ List.replicate m .undef) (a.put dst Go.undef) w := by
  have h1 := R_env h (List.replicate m .undef)
  simp only [List.length_replicate] at h1
  refine R_put h1 (by simpa [put] using hp) ?_
  cases g with
  | none => simp [Guard.ok] at hok
  | some p =>
    obtain ⟨x, want⟩ := p
    have hx := hg x want rfl
    cases hxe : x.get ρ with
    | none => exact absurd hxe hx
    | some d =>
      have hx' := Atom.get_append (σ := List.replicate m D.undef) hxe
      refine ⟨by rw [hx']; simp, fun hc => ?_, fun _ => ⟨rfl, ?_⟩⟩
      · rw [hx'] at hc
        exact absurd (hxe.trans hc) (not_ok hok)
      · unfold unset
        split
        · rename_i t i
          simp only [freshSV, Bool.and_eq_true, decide_eq_true_eq] at hf
          refine ⟨.undef, ?_, by simp⟩
          rw [List.getElem?_append_right (by rw [h.len]; exact hf.1), List.getElem?_replicate, if_pos (by rw [h.len]; omega)]
        · trivial

/-! ### Arguments -/
theorem own_read (h : R X M w0 S μ ρ a w) {β : Nat} {t : CT} {e : TypeId} {x : Atom} {F : Nat → Prop} (hF : ∀ b, Fz X S.heap μ w b → F b) (hβ : ∀ b, (μ β).own b → F b) (hb : S.heap[β]? = some (.row t e x)) : ∃ d, x.get ρ = some d ∧ RdC w F t (μ β).v d := by
  obtain ⟨_, n, xs, ls, h1, h2, h3, h4, h5⟩ := h.blocks β _ hb
  refine ⟨_, h3, ?_⟩
  have hst : Stays (Fz X S.heap μ w) F w w := ⟨hF, fun _ _ => rfl⟩
  have h5' := h5.mono hst
  have key : RdSl w F (rowRd w F t) (rowAgg t) (μ β).v (.lst (ls.map (unflat (rowAgg t)))) := by
    refine ⟨ls, rfl, ?_⟩
    rcases h1.2 with ⟨e1, e2⟩ | ⟨g, cap, cur, e1, _, e3, e5, _, _, e4⟩
    · exact .inl ⟨⟨none, 0, e1, fun _ => rfl⟩, List.eq_nil_of_length_eq_zero (by omega)⟩
    · refine .inr ⟨g, 0, cap, xs, by rw [h4]; exact e1, by omega, hβ g (.inl (by rw [e1]; rfl)), fun j u hu => ?_, h5'⟩
      rw [cell_of_cells e3, Nat.zero_add]
      rw [← e4, List.getElem?_take] at hu
      split at hu
      · simpa using hu
      · cases hu
  cases t with
  | b t => exact h5.elim
  | s1 e => exact key
  | s2 e => exact key

/-- An own slice of plain elements reads. -/
theorem own1_read {et : ET} {e : TypeId} {v : Value} {n : Nat} {xs : List Value} {l : List (List D)} {F : Nat → Prop} (h1 : w.ownsRow 0 e et.cells.length v n xs) (hn : l.length = n) (hr : RdRow RdB et.cells xs l) (hF : ∀ b, blkOf v = some b → F b) :
    RdSl w F (rr1 et) et.agg v (.lst (l.map (unflat et.agg))) := by
  refine ⟨l, rfl, ?_⟩
  rcases h1.2 with ⟨e1, e2⟩ | ⟨g, cap, cur, e1, _, e3, e5, _, _, e4⟩
  · exact .inl ⟨⟨none, 0, e1, fun _ => rfl⟩, List.eq_nil_of_length_eq_zero (by omega)⟩
  · refine .inr ⟨g, 0, cap, xs, by rw [hn]; exact e1, by omega, hF g (by rw [e1]; rfl), fun j u hu => ?_, hr⟩
    rw [cell_of_cells e3, Nat.zero_add]
    rw [← e4, List.getElem?_take] at hu
    split at hu
    · simpa using hu
    · cases hu

theorem rows_row {et : ET} {e' : TypeId} {F : Nat → Prop} : ∀ {us : List Value} {ls : List (List (List D))}, RowsD w et e' us ls → (∀ u ∈ us, ∀ b, blkOf u = some b → F b) →
    RdRow (fun (_ : Unit) v d => RdSl w F (rr1 et) et.agg v d) [()] us (ls.map fun l => [.lst (l.map (unflat et.agg))])
  | [], [], _, _ => rfl
  | u :: us, l :: ls, h, hF => by
    obtain ⟨n, xs, h1, h2, h3⟩ := h.2 0 u l rfl rfl
    refine ⟨[u], us, rfl, ⟨own1_read h1 h2 h3 (hF u (by simp)), trivial⟩, rows_row ⟨by simpa using h.1, fun i u' l' hi hl => h.2 (i + 1) u' l' (by simpa using hi) (by simpa using hl)⟩ fun u' hu' => hF u' (by simp [hu'])⟩
  | [], _ :: _, h, _ => by have := h.1; simp at this
  | _ :: _, [], h, _ => by have := h.1; simp at this

/-- An own slice of own slices reads. -/
theorem ownRows_read {et : ET} {e' e : TypeId} {m : MV} {n : Nat} {ls : List (List (List D))} {F : Nat → Prop} (h1 : w.ownsRow 0 e 1 m.v n m.inner) (hn : ls.length = n) (hr : RowsD w et e' m.inner ls) (hF : ∀ b, m.own b → F b) :
    RdC w F (.s2 et) m.v (rowsDat et.agg ls) := by
  have hrr := rows_row (F := F) hr fun u hu b hb => hF b (.inr ⟨u, hu, hb⟩)
  refine ⟨ls.map fun l => [.lst (l.map (unflat et.agg))], by simp [rowsDat, unflat], ?_⟩
  rcases h1.2 with ⟨e1, e2⟩ | ⟨g, cap, cur, e1, _, e3, e5, _, _, e4⟩
  · exact .inl ⟨⟨none, 0, e1, fun _ => rfl⟩, by rw [List.eq_nil_of_length_eq_zero (by omega : ls.length = 0)]; rfl⟩
  · refine .inr ⟨g, 0, cap, m.inner, by rw [List.length_map, hn]; exact e1, by rw [List.length_map]; omega, hF g (.inl (by rw [e1]; rfl)), fun j u hu => ?_, hrr⟩
    rw [cell_of_cells e3, Nat.zero_add]
    rw [← e4, List.getElem?_take] at hu
    split at hu
    · simpa using hu
    · cases hu

theorem cellAtom_ok (h : R X M w0 S μ ρ a w) {F : Nat → Prop} (hF : ∀ b, Fz X S.heap μ w b → F b) {t : CT} {c : CV} {x : Atom} {v : Value} (hβ : ∀ β, β ∈ rdsOf c → ∀ b, (μ β).own b → F b) (hc : cellAtom S t c = .ok x) (hv : CVR w (Fz X S.heap μ w) S.heap.length μ ρ c v) :
    ∃ d, x.get ρ = some d ∧ RdC w F t v d := by
  unfold cellAtom at hc
  split at hc
  · split at hc
    · rename_i ht
      subst ht
      simp only [Except.ok.injEq] at hc
      subst hc
      obtain ⟨d, hx, hd⟩ := hv
      exact ⟨d, hx, hd.mono ⟨hF, fun _ _ => rfl⟩⟩
    · cases hc
  · split at hc
    · cases hc
    · rename_i hb
      simp only [Except.ok.injEq] at hc
      subst hc
      simp only [CVR, CVR0] at hv
      subst hv
      refine ⟨_, rfl, ?_⟩
      cases t with
      | b t => exact absurd rfl (hb t)
      | s1 e => exact ⟨[], rfl, .inl ⟨⟨none, 0, rfl, fun _ => rfl⟩, rfl⟩⟩
      | s2 e => exact ⟨[], rfl, .inl ⟨⟨none, 0, rfl, fun _ => rfl⟩, rfl⟩⟩
  · rename_i β
    have hβ' := hβ β (by simp [rdsOf])
    split at hc
    · rename_i hrow
      split at hc
      · rename_i ht
        subst ht
        simp only [Except.ok.injEq] at hc
        subst hc
        obtain ⟨_, rfl, _⟩ := hv
        exact own_read h hF hβ' hrow
      · cases hc
    · rename_i hrow
      split at hc
      · rename_i ht
        subst ht
        simp only [Except.ok.injEq] at hc
        subst hc
        obtain ⟨_, rfl, _⟩ := hv
        obtain ⟨_, n, ls, h1, _, h3, h4, h5, _⟩ := h.blocks β _ hrow
        exact ⟨_, h3, ownRows_read h1 h4 h5 hβ'⟩
      · cases hc
    · cases hc
  · cases hc

/-- What is handed over, told of the caller's blocks. -/
def HMat (μ : Mu) (ρ : List D) (β : Nat) (keep : Bool) (m : MV) : Option Atom → Prop
  | none => m.v = (μ β).v ∧ m.inner = (μ β).inner
  | some i => keep = true ∧ m.hist = [] ∧ ∃ n : Int, i.get ρ = some (.int n) ∧ 0 ≤ n ∧ (μ β).inner[n.toNat]? = some m.v
def HMok (μ : Mu) (ρ : List D) (ma : MA) (h : HM) : Prop := h.k = ma.k ∧ h.keep = ma.keep ∧ HMat μ ρ ma.β ma.keep h.m ma.at?
def HMs (μ : Mu) (ρ : List D) : List MA → List HM → Prop
  | [], [] => True
  | a :: as, h :: hs => HMok μ ρ a h ∧ HMs μ ρ as hs
  | _, _ => False

theorem HMok.own {ma : MA} {h : HM} (hm : HMok μ ρ ma h) {b : Nat} (hb : h.m.own b) : (μ ma.β).own b := by
  obtain ⟨_, _, h3⟩ := hm
  unfold HMat at h3
  split at h3
  · rcases hb with hb | hb
    · exact .inl (by rw [← h3.1]; exact hb)
    · exact .inr (by rw [← h3.2]; exact hb)
  · obtain ⟨_, h0, n, _, _, h5⟩ := h3
    exact .inr ⟨_, List.mem_of_getElem? h5, (MV.own_flat h0).1 hb⟩

theorem HMok.app {ma : MA} {h : HM} (hm : HMok μ ρ ma h) (σ : List D) : HMok μ (ρ ++ σ) ma h := by
  obtain ⟨h1, h2, h3⟩ := hm
  refine ⟨h1, h2, ?_⟩
  cases e : ma.at? with
  | none => rw [e] at h3; exact h3
  | some i =>
    rw [e] at h3
    obtain ⟨h4, h5, n, h6, h7⟩ := h3
    exact ⟨h4, h5, n, Atom.get_append h6, h7⟩
theorem HMs.app (σ : List D) : ∀ {as : List MA} {hs : List HM}, HMs μ ρ as hs → HMs μ (ρ ++ σ) as hs
  | [], [], _ => trivial
  | _ :: _, _ :: _, ⟨h1, h2⟩ => ⟨h1.app σ, HMs.app σ h2⟩
theorem HMs.concat : ∀ {as as' : List MA} {hs hs' : List HM}, HMs μ ρ as hs → HMs μ ρ as' hs' → HMs μ ρ (as ++ as') (hs ++ hs')
  | [], _, [], _, _, h => h
  | _ :: _, _, _ :: _, _, ⟨h1, h2⟩, h => ⟨h1, h2.concat h⟩
theorem HMs.length : ∀ {as : List MA} {hs : List HM}, HMs μ ρ as hs → as.length = hs.length
  | [], [], _ => rfl
  | _ :: _, _ :: _, ⟨_, h2⟩ => by simp [h2.length]
theorem HMs.get {h : HM} : ∀ {as : List MA} {hs : List HM} {i : Nat}, HMs μ ρ as hs → hs[i]? = some h → ∃ a, as[i]? = some a ∧ HMok μ ρ a h
  | [], [], i, _, hi => by simp at hi
  | a :: as, h' :: hs, i, ⟨h1, h2⟩, hi => by
    cases i with
    | zero => simp only [List.getElem?_cons_zero, Option.some.injEq] at hi; subst hi; exact ⟨a, rfl, h1⟩
    | succ i => simp only [List.getElem?_cons_succ] at hi ⊢; exact h2.get hi

/-- A block that a MA names is such as it says. -/
def fitMA : Option Atom → MK → SB → Prop
  | none, .row t e, .row t' e' _ => t = t' ∧ e = e'
  | none, .rows et f e, .rows et' f' e' _ _ => et = et' ∧ f = f' ∧ e = e'
  | some _, .row t f, .rows et f' _ _ _ => t = .s1 et ∧ f = f'
  | _, _, _ => False
def MAok (S : SS) (ma : MA) : Prop := ∃ sb, S.heap[ma.β]? = some sb ∧ fitMA ma.at? ma.k sb ∧ (ma.at? ≠ none → ma.keep = true)
theorem fit_mine {i : Option Atom} {k : MK} {sb : SB} (h : fitMA i k sb) : mineB sb = true := by
  cases i <;> cases k <;> cases sb <;> first | rfl | exact h.elim

theorem evs_app {xs : List Atom} {ρ σ : List D} (h : ∀ x ∈ xs, x.get ρ ≠ none) : evs (ρ ++ σ) xs = evs ρ xs := by
  unfold evs
  refine List.map_congr_left fun x hx => ?_
  cases e : x.get ρ with
  | none => exact absurd e (h x hx)
  | some d => rw [Atom.ev_of_get e, Atom.ev_of_get (Atom.get_append e)]

/-- What the argument functions give. -/
def AOK (X : Nat → Prop) (w : World) (S : SS) (μ : Mu) (p : AR) (ρ' : List D) (C : (Nat → Prop) → List D → List HM → Prop) : Prop :=
  ∃ hs, HMs μ ρ' p.mas hs ∧ (∀ ma ∈ p.mas, MAok S ma) ∧ (∀ x ∈ p.xs, x.get ρ' ≠ none) ∧ (∀ β ∈ p.rds, live S.heap β) ∧
    ∀ F : Nat → Prop, (∀ b, Fz X S.heap μ w b → F b) → (∀ β ∈ p.rds, ∀ b, (μ β).own b → F b) → (∀ β cs, S.heap[β]? = some (.var cs) → ∀ b, (μ β).own b → F b) → C F (evs ρ' p.xs) hs

theorem AOK.app {p q : AR} {ρ' σ : List D} {C1 C2 : (Nat → Prop) → List D → List HM → Prop} (h1 : AOK X w S μ p ρ' C1) (h2 : AOK X w S μ q (ρ' ++ σ) C2) :
    AOK X w S μ (p.app q) (ρ' ++ σ) (fun F ds hs => ∃ d1 d2 m1 m2, ds = d1 ++ d2 ∧ hs = m1 ++ m2 ∧ C1 F d1 m1 ∧ C2 F d2 m2) := by
  obtain ⟨hs, a1, a2, a3, a4, a5⟩ := h1
  obtain ⟨ks, b1, b2, b3, b4, b5⟩ := h2
  refine ⟨hs ++ ks, (a1.app σ).concat b1, fun ma hm => ?_, fun x hx => ?_, fun β hb => ?_, fun F f1 f2 f3 => ?_⟩
  · rcases List.mem_append.1 hm with h | h
    · exact a2 ma h
    · exact b2 ma h
  · rcases List.mem_append.1 hx with h | h
    · cases e : x.get ρ' with
      | none => exact absurd e (a3 x h)
      | some d => rw [Atom.get_append e]; simp
    · exact b3 x h
  · rcases List.mem_append.1 hb with h | h
    · exact a4 β h
    · exact b4 β h
  · refine ⟨evs ρ' p.xs, evs (ρ' ++ σ) q.xs, hs, ks, ?_, rfl, a5 F f1 (fun β hb => f2 β (List.mem_append.2 (.inl hb))) f3, b5 F f1 (fun β hb => f2 β (List.mem_append.2 (.inr hb))) f3⟩
    show evs (ρ' ++ σ) (p.xs ++ q.xs) = _
    rw [← evs_app (σ := σ) a3]
    simp [evs]

theorem AOK.nil {ρ' : List D} : AOK X w S μ .nil ρ' (fun _ ds hs => ds = [] ∧ hs = []) := ⟨[], trivial, by simp [AR.nil], by simp [AR.nil], by simp [AR.nil], fun _ _ _ _ => ⟨rfl, rfl⟩⟩
theorem AOK.imp {p : AR} {ρ' : List D} {C1 C2 : (Nat → Prop) → List D → List HM → Prop} (h : AOK X w S μ p ρ' C1) (hi : ∀ F, (∀ b, Fz X S.heap μ w b → F b) → (∀ β cs, S.heap[β]? = some (.var cs) → ∀ b, (μ β).own b → F b) → ∀ ds hs, C1 F ds hs → C2 F ds hs) : AOK X w S μ p ρ' C2 := by
  obtain ⟨hs, a1, a2, a3, a4, a5⟩ := h
  exact ⟨hs, a1, a2, a3, a4, fun F f1 f2 f3 => hi F f1 f3 _ _ (a5 F f1 f2 f3)⟩

theorem push_split {p q : List Push} {ρ ρ' : List D} (h : pushAll (p ++ q) ρ = some ρ') : ∃ σ, pushAll p ρ = some (ρ ++ σ) ∧ σ.length = p.length ∧ pushAll q (ρ ++ σ) = some ρ' := by
  rw [pushAll_append] at h
  cases e : pushAll p ρ with
  | none => rw [e] at h; cases h
  | some ρ1 =>
    rw [e, Option.bind_some] at h
    obtain ⟨σ, rfl, hl⟩ := pushAll_env e
    exact ⟨σ, rfl, hl, h⟩

theorem row_own {t : CT} {e : TypeId} {x : Atom} {β : Nat} (h : R X M w0 S μ ρ a w) (hb : S.heap[β]? = some (.row t e x)) {F : Nat → Prop} (hF : ∀ b, Fz X S.heap μ w b → F b) : ∃ d, x.get ρ = some d ∧ OwnK w F (.row t e) (μ β) d := by
  obtain ⟨h0, n, xs, ls, h1, h2, h3, h4, h5⟩ := h.blocks β _ hb
  exact ⟨_, h3, h0, n, xs, ls, h1, rfl, h4, h5.mono ⟨hF, fun _ _ => rfl⟩⟩

theorem argCell_ok (h : R X M w0 S μ ρ a w) {σ : List D} {pc : PC} {c : CV} {p : AR} {v : Value} {ρ' : List D} (hc : argCell S (ρ ++ σ).length pc c = .ok p) (hv : CVR w (Fz X S.heap μ w) S.heap.length μ ρ c v)
    (hp : pushAll p.pre (ρ ++ σ) = some ρ') : AOK X w S μ p ρ' (fun F ds hs => ∃ d, ds = [d] ∧ ArgC w F pc v d hs) := by
  unfold argCell at hc
  split at hc
  · rename_i t
    obtain ⟨x, h1, h2⟩ := bind_ok hc
    simp only [Except.ok.injEq] at h2
    subst h2
    simp only [pushAll, Option.some.injEq] at hp
    subst hp
    have key := fun (F : Nat → Prop) (f1 : ∀ b, Fz X S.heap μ w b → F b) (f2 : ∀ β ∈ rdsOf c, ∀ b, (μ β).own b → F b) => cellAtom_ok h f1 f2 h1 hv
    obtain ⟨d0, hd0, _⟩ := key (fun _ => True) (fun _ _ => trivial) (fun _ _ _ _ => trivial)
    refine ⟨[], trivial, by simp, fun y hy => ?_, fun β hb => ?_, fun F f1 f2 _ => ?_⟩
    · simp only [List.mem_singleton] at hy; subst hy; rw [Atom.get_append hd0]; simp
    · -- an own block that is read is there
      match c, hb with
      | .s (.own γ), hb =>
        simp only [rdsOf, List.mem_singleton] at hb
        subst hb
        simp only [cellAtom] at h1
        split at h1
        · rename_i e; exact ⟨_, e, by simp⟩
        · rename_i e; exact ⟨_, e, by simp⟩
        · cases h1
    · obtain ⟨d, hd, hr⟩ := key F f1 f2
      refine ⟨d, ?_, rfl, hr⟩
      simp [evs, Atom.ev_of_get (Atom.get_append (σ := σ) hd)]
  · rename_i k keep β
    split at hc
    · rename_i t e x t' e' hb
      split at hc
      · rename_i ht
        obtain ⟨rfl, rfl⟩ := ht
        simp only [Except.ok.injEq] at hc
        subst hc
        simp only [pushAll, Option.some.injEq] at hp
        subst hp
        obtain ⟨_, rfl, _⟩ := hv
        obtain ⟨d0, hd0, _⟩ := row_own h hb (fun b hb => hb)
        refine ⟨[⟨μ β, .row t e, keep⟩], ⟨⟨rfl, rfl, rfl, rfl⟩, trivial⟩, fun ma hm => ?_, fun y hy => ?_, by simp, fun F f1 _ _ => ?_⟩
        · simp only [List.mem_singleton] at hm; subst hm; exact ⟨_, hb, ⟨rfl, rfl⟩, fun e => absurd rfl e⟩
        · simp only [List.mem_singleton] at hy; subst hy; rw [Atom.get_append hd0]; simp
        · obtain ⟨d, hd, hr⟩ := row_own h hb f1
          exact ⟨d, by simp [evs, Atom.ev_of_get (Atom.get_append (σ := σ) hd)], _, rfl, rfl, hr⟩
      · cases hc
    · rename_i et f e ver x et' f' e' hb
      split at hc
      · rename_i ht
        obtain ⟨rfl, rfl, rfl⟩ := ht
        simp only [Except.ok.injEq] at hc
        subst hc
        simp only [pushAll, Option.some.injEq] at hp
        subst hp
        obtain ⟨_, rfl, _⟩ := hv
        obtain ⟨_, n, ls, h1, _, h3, h4, h5, h6⟩ := h.blocks β _ hb
        have hin : (MV.mk (μ β).v [(μ β).inner]).inner = (μ β).inner := rfl
        refine ⟨[⟨⟨(μ β).v, [(μ β).inner]⟩, .rows et f e, keep⟩], ⟨⟨rfl, rfl, rfl, hin⟩, trivial⟩, fun ma hm => ?_, fun y hy => ?_, by simp, fun F f1 _ _ => ?_⟩
        · simp only [List.mem_singleton] at hm; subst hm; exact ⟨_, hb, ⟨rfl, rfl, rfl⟩, fun e => absurd rfl e⟩
        · simp only [List.mem_singleton] at hy; subst hy; rw [Atom.get_append h3]; simp
        · exact ⟨rowsDat et.agg ls, by simp only [evs, List.map_cons, List.map_nil, Atom.ev_of_get (Atom.get_append (σ := σ) h3)], _, rfl, rfl, rfl, n, ls, h1, rfl, h4, h5, h6⟩
      · cases hc
    · cases hc
  · rename_i k keep β ver i
    split at hc
    · rename_i et f e v' x et' f' hb
      split at hc
      · rename_i ht
        obtain ⟨rfl, rfl, rfl, rfl⟩ := ht
        simp only [Except.ok.injEq] at hc
        subst hc
        obtain ⟨_, l, n, g1, g2, g3, g4, _⟩ := hv
        obtain ⟨h0, m, ls, h1, _, h3, h4, h5, h6⟩ := h.blocks β _ hb
        rw [MV.hist_last h0] at g1
        simp only [Option.some.injEq] at g1
        subst g1
        obtain ⟨d, hd, rfl⟩ := pushAll_one hp
        simp only [evs, List.map_cons, List.map_nil, Atom.ev_of_get (Atom.get_append (σ := σ) h3), Atom.ev_of_get (Atom.get_append (σ := σ) g2), rowsDat, Prim.ev, List.length_map] at hd
        split at hd
        · rename_i hlt
          simp only [List.getElem?_map, Option.map_eq_some_iff] at hd
          obtain ⟨l, hl, rfl⟩ := hd
          obtain ⟨k, ys, hk1, hk2, hk3⟩ := h5.2 n.toNat _ l g4 hl
          refine ⟨[⟨⟨v, []⟩, .row (.s1 et) f, true⟩], ⟨⟨rfl, rfl, rfl, rfl, n, Atom.get_append (Atom.get_append g2), g3, g4⟩, trivial⟩, fun ma hm => ?_, fun y hy => ?_, by simp, fun F f1 _ _ => ?_⟩
          · simp only [List.mem_singleton] at hm; subst hm; exact ⟨_, hb, ⟨rfl, rfl⟩, fun _ => rfl⟩
          · simp only [List.mem_singleton] at hy; subst hy; rw [get_new rfl]; simp
          · exact ⟨.lst (l.map (unflat et.agg)), by simp only [evs, List.map_cons, List.map_nil, Atom.ev_of_get (get_new (ρ := ρ ++ σ) (n := (ρ ++ σ).length) rfl)], _, rfl, rfl, rfl, k, ys, l, hk1, rfl, hk2, hk3⟩
        · cases hd
      · cases hc
    · cases hc
  · cases hc

theorem argCells_ok (h : R X M w0 S μ ρ a w) : ∀ {ts : List PC} {cs : List CV} {σ : List D} {p : AR} {vs : List Value} {ρ' : List D}, argCells S (ρ ++ σ).length ts cs = .ok p → CVRs w (Fz X S.heap μ w) S.heap.length μ ρ cs vs →
    pushAll p.pre (ρ ++ σ) = some ρ' → AOK X w S μ p ρ' (fun F ds hs => ArgCs w F ts vs ds hs)
  | [], [], σ, p, [], ρ', hc, _, _ => by
    simp only [argCells, Except.ok.injEq] at hc
    subst hc
    exact AOK.nil
  | t :: ts, c :: cs, σ, p, v :: vs, ρ', hc, ⟨h1, h2⟩, hp => by
    simp only [argCells] at hc
    obtain ⟨p1, g1, hc⟩ := bind_ok hc
    obtain ⟨p2, g2, hc⟩ := bind_ok hc
    simp only [Except.ok.injEq] at hc
    subst hc
    obtain ⟨σ1, q1, q2, q3⟩ := push_split hp
    have e : (ρ ++ σ).length + p1.pre.length = (ρ ++ (σ ++ σ1)).length := by simp [q2]; omega
    rw [e] at g2
    rw [List.append_assoc] at q3
    obtain ⟨σ2, rfl, _⟩ := pushAll_env q3
    have a1 := argCell_ok h g1 h1 q1
    have a2 := argCells_ok h g2 h2 q3
    rw [List.append_assoc] at a1
    exact (a1.app a2).imp fun F _ _ ds hs ⟨d1, d2, m1, m2, e1, e2, ⟨d, e3, e4⟩, e5⟩ => ⟨d, d2, m1, m2, by rw [e1, e3]; rfl, e2, e4, e5⟩
  | [], _ :: _, _, _, _, _, hc, _, _ => by simp [argCells] at hc
  | _ :: _, [], _, _, _, _, hc, _, _ => by simp [argCells] at hc

theorem ptr_ok (h : R X M w0 S μ ρ a w) {ts : List PC} {c : CV0} {l : List CV} {σ : List D} {p : AR} {v : Value} {ρ' : List D} (hl : ptrCells S c = .ok l) (hc : argCells S (ρ ++ σ).length ts l = .ok p) (hv : CVR0 w (Fz X S.heap μ w) S.heap.length μ ρ c v)
    (hp : pushAll p.pre (ρ ++ σ) = some ρ') : AOK X w S μ p ρ' (fun F ds hs => PtrR w F ts v ds hs) := by
  unfold ptrCells at hl
  split at hl
  · rename_i β
    split at hl
    · rename_i cs hcs
      simp only [Except.ok.injEq] at hl
      subst hl
      obtain ⟨_, b, hb, rfl⟩ := hv
      obtain ⟨h0, b', arr, T, hb', _, hheap, hC⟩ := h.blocks β _ hcs
      rw [hb] at hb'
      simp only [Value.pointer.injEq, Option.some.injEq, Addr.mk.injEq, and_true] at hb'
      subst hb'
      exact (argCells_ok h hc hC hp).imp fun F _ f3 ds hs hA => ⟨b, 0, arr.toList, rfl, f3 β cs hcs b (.inl (by rw [hb]; rfl)), fun j u hu => by rw [cell_of_cells hheap, Nat.zero_add]; simpa using hu, hA⟩
    · cases hl
  · rename_i cs
    simp only [Except.ok.injEq] at hl
    subst hl
    obtain ⟨b, o, rfl, hF, hcc⟩ := hv
    obtain ⟨us, hul, huc, hC⟩ := fvals_of (w := w) (F := Fz X S.heap μ w) (ρ := ρ) (cs := cs) (Pos := fun j u => w.cell? ⟨b, o + j, none⟩ = some u) (hl := S.heap.length) (μ := μ) hcc
    exact (argCells_ok h hc hC hp).imp fun F f1 _ ds hs hA => ⟨b, o, us, rfl, f1 b hF, huc, hA⟩
  · cases hl

theorem argCaps_ok (h : R X M w0 S μ ρ a w) : ∀ {tss : List (List PC)} {cs : List CV0} {σ : List D} {p : AR} {vs : List Value} {ρ' : List D}, argCaps S (ρ ++ σ).length tss cs = .ok p → vs.length = cs.length →
    (∀ (j : Nat) c u, cs[j]? = some c → vs[j]? = some u → CVR0 w (Fz X S.heap μ w) S.heap.length μ ρ c u) → pushAll p.pre (ρ ++ σ) = some ρ' → AOK X w S μ p ρ' (fun F ds hs => CapsR w F tss vs ds hs)
  | [], [], σ, p, [], ρ', hc, _, _, _ => by
    simp only [argCaps, Except.ok.injEq] at hc
    subst hc
    exact AOK.nil
  | ts :: tss, c :: cs, σ, p, v :: vs, ρ', hc, hl, hv, hp => by
    simp only [argCaps] at hc
    obtain ⟨l, g0, hc⟩ := bind_ok hc
    obtain ⟨p1, g1, hc⟩ := bind_ok hc
    obtain ⟨p2, g2, hc⟩ := bind_ok hc
    simp only [Except.ok.injEq] at hc
    subst hc
    obtain ⟨σ1, q1, q2, q3⟩ := push_split hp
    have e : (ρ ++ σ).length + p1.pre.length = (ρ ++ (σ ++ σ1)).length := by simp [q2]; omega
    rw [e] at g2
    rw [List.append_assoc] at q3
    obtain ⟨σ2, rfl, _⟩ := pushAll_env q3
    have a1 := ptr_ok h g0 g1 (hv 0 c v rfl rfl) q1
    have a2 := argCaps_ok h g2 (by simpa using hl) (fun j c u h1 h2 => hv (j + 1) c u (by simpa using h1) (by simpa using h2)) q3
    rw [List.append_assoc] at a1
    exact (a1.app a2).imp fun F _ _ ds hs hh => hh
  | [], [], _, _, _ :: _, _, _, hl, _, _ => by simp at hl
  | _ :: _, _ :: _, _, _, [], _, _, hl, _, _ => by simp at hl
  | [], _ :: _, _, _, _, _, hc, _, _, _ => by simp [argCaps] at hc
  | _ :: _, [], _, _, _, _, hc, _, _, _ => by simp [argCaps] at hc

theorem argOne_ok (h : R X M w0 S μ ρ a w) {k : PK} {s : SV} {σ : List D} {p : AR} {v : Value} {ρ' : List D} (hc : argOne S (ρ ++ σ).length k s = .ok p) (hv : SVR w (Fz X S.heap μ w) S.heap.length μ ρ s v)
    (hp : pushAll p.pre (ρ ++ σ) = some ρ') : AOK X w S μ p ρ' (fun F ds hs => ArgR w F k v ds hs) := by
  unfold argOne at hc
  split at hc
  · rename_i ag ts s
    split at hc
    · rename_i ag' cs hcs
      split at hc
      · rename_i hag
        subst hag
        unfold svCells at hcs
        split at hcs <;> simp only [Option.some.injEq, Prod.mk.injEq, reduceCtorEq] at hcs
        · obtain ⟨rfl, rfl⟩ := hcs
          exact argCells_ok h hc (vs := [v]) ⟨hv, trivial⟩ hp
        · obtain ⟨rfl, rfl⟩ := hcs
          obtain ⟨arr, rfl, hC⟩ := hv
          exact (argCells_ok h hc hC hp).imp fun F _ _ ds hs hh => ⟨arr, rfl, hh⟩
      · cases hc
    · cases hc
  · obtain ⟨l, g0, hc⟩ := bind_ok hc
    exact ptr_ok h g0 hc hv hp
  · rename_i f caps f' cs
    split at hc
    · rename_i hf
      subst hf
      obtain ⟨arr, rfl, hl, hcc⟩ := hv
      exact (argCaps_ok h hc (vs := arr.toList) (by simpa using hl) (fun j c u h1 h2 => hcc j c u h1 (by simpa using h2)) hp).imp fun F _ _ ds hs hh => ⟨arr, rfl, hh⟩
    · cases hc
  · cases hc

theorem argAll_ok (h : R X M w0 S μ ρ a w) : ∀ {ks : List PK} {ss : List SV} {σ : List D} {p : AR} {vs : List Value} {ρ' : List D}, argAll S (ρ ++ σ).length ks ss = .ok p → ss.length = vs.length →
    (∀ (j : Nat) s u, ss[j]? = some s → vs[j]? = some u → SVR w (Fz X S.heap μ w) S.heap.length μ ρ s u) → pushAll p.pre (ρ ++ σ) = some ρ' → AOK X w S μ p ρ' (fun F ds hs => ArgsR w F ks vs ds hs)
  | [], [], σ, p, [], ρ', hc, _, _, _ => by
    simp only [argAll, Except.ok.injEq] at hc
    subst hc
    exact AOK.nil
  | k :: ks, s :: ss, σ, p, v :: vs, ρ', hc, hl, hv, hp => by
    simp only [argAll] at hc
    obtain ⟨p1, g1, hc⟩ := bind_ok hc
    obtain ⟨p2, g2, hc⟩ := bind_ok hc
    simp only [Except.ok.injEq] at hc
    subst hc
    obtain ⟨σ1, q1, q2, q3⟩ := push_split hp
    have e : (ρ ++ σ).length + p1.pre.length = (ρ ++ (σ ++ σ1)).length := by simp [q2]; omega
    rw [e] at g2
    rw [List.append_assoc] at q3
    obtain ⟨σ2, rfl, _⟩ := pushAll_env q3
    have a1 := argOne_ok h g1 (hv 0 s v rfl rfl) q1
    have a2 := argAll_ok h g2 (by simpa using hl) (fun j s u h1 h2 => hv (j + 1) s u (by simpa using h1) (by simpa using h2)) q3
    rw [List.append_assoc] at a1
    exact (a1.app a2).imp fun F _ _ ds hs hh => hh
  | [], [], _, _, _ :: _, _, _, hl, _, _ => by simp at hl
  | _ :: _, _ :: _, _, _, [], _, _, hl, _, _ => by simp at hl
  | [], _ :: _, _, _, _, _, hc, _, _, _ => by simp [argAll] at hc
  | _ :: _, [], _, _, _, _, hc, _, _, _ => by simp [argAll] at hc

end
end Vs
