/-
  Results of a call, and what is handed back.
-/
import Derived.Test.YtfpmhmngebnphaaNs11
namespace Vs
open Go Go.RowKit

section
variable {w' : World} {F' : Nat → Prop} {hl' : Nat} {μ' : Mu} {ρ' : List D} {Mine : Nat → Prop}

theorem OwnK.blk {k : MK} {m : MV} {d : D} {x : Atom} (h : ∀ F, OwnK w' F k m d) (hx : x.get ρ' = some d) (hm : ∀ b, m.own b → Mine b) : BlkR Mine w' F' hl' μ' ρ' (k.sb 0 x) m := by
  have h := h F'
  cases k with
  | row t e =>
    obtain ⟨h0, n, xs, ls, h1, rfl, h4, h5⟩ := h
    exact ⟨h0, n, xs, ls, h1, hm, hx, h4, h5⟩
  | rows et e' e =>
    obtain ⟨h0, n, ls, h1, rfl, h4, h5, h6⟩ := h
    exact ⟨h0, n, ls, h1, hm, hx, h4, h5, h6⟩

theorem OwnK.slice {w : World} {F : Nat → Prop} {k : MK} {m : MV} {d : D} (h : OwnK w F k m d) : ∃ a len cap, m.v = .slice a len cap := by
  cases k with
  | row t e => obtain ⟨_, n, xs, ls, h1, _⟩ := h; obtain ⟨a, cap, e⟩ := ownsRow_slice h1; exact ⟨a, n, cap, e⟩
  | rows et e' e => obtain ⟨_, n, ls, h1, _⟩ := h; obtain ⟨a, cap, e⟩ := ownsRow_slice h1; exact ⟨a, n, cap, e⟩

theorem resCells_ok : ∀ {rks : List RK} {n h : Nat} {vs : List Value} {ds : List D} {os : List MV}, ResCs w' rks vs ds os → (∀ (i : Nat) d, ds[i]? = some d → ρ'[n + i]? = some d) →
    (∀ (j : Nat) u, os[j]? = some u → μ' (h + j) = u) → h + os.length ≤ hl' → (∀ u ∈ os, ∀ b, u.own b → Mine b) →
    CVRs w' F' hl' μ' ρ' (resCells rks n h).1 vs ∧ (resCells rks n h).2.length = os.length ∧ ds.length = rks.length ∧ ∀ (j : Nat) sb, (resCells rks n h).2[j]? = some sb → BlkR Mine w' F' hl' μ' ρ' sb (μ' (h + j))
  | [], n, h, [], [], [], _, _, _, _, _ => ⟨trivial, rfl, rfl, by simp [resCells]⟩
  | .cell t :: rs, n, h, v :: vs, d :: ds, os, ⟨h1, h2⟩, hd, ho, hl, hm => by
    obtain ⟨i1, i2, i3, i4⟩ := resCells_ok (n := n + 1) (h := h) h2 (fun i d' hi => by
      have := hd (i + 1) d' (by simpa using hi)
      rw [show n + 1 + i = n + (i + 1) from by omega]; exact this) ho hl hm
    refine ⟨⟨⟨d, ?_, h1⟩, i1⟩, i2, by simp [i3], i4⟩
    have := hd 0 d rfl
    simpa [Atom.get] using this
  | .own k :: rs, n, h, v :: vs, d :: ds, o :: os, ⟨h0, h1, h2⟩, hd, ho, hl, hm => by
    obtain ⟨i1, i2, i3, i4⟩ := resCells_ok (n := n + 1) (h := h + 1) h2 (fun i d' hi => by
      have := hd (i + 1) d' (by simpa using hi)
      rw [show n + 1 + i = n + (i + 1) from by omega]; exact this)
      (fun j u hj => by have := ho (j + 1) u (by simpa using hj); rw [show h + 1 + j = h + (j + 1) from by omega]; exact this) (by simp at hl; omega) (fun u hu => hm u (by simp [hu]))
    have hv : μ' h = o := by have := ho 0 o rfl; simpa using this
    have hdn : ρ'[n]? = some d := by have := hd 0 d rfl; simpa using this
    refine ⟨⟨⟨by simp at hl; omega, by rw [hv, h0], ?_⟩, i1⟩, by simp [resCells, i2], by simp [i3], ?_⟩
    · rw [hv]; exact (h1 (fun _ => True)).slice
    · intro j sb hj
      cases j with
      | zero =>
        simp only [resCells, List.getElem?_cons_zero, Option.some.injEq] at hj
        subst hj
        simp only [Nat.add_zero, hv]
        exact OwnK.blk h1 hdn (hm o (by simp))
      | succ j =>
        simp only [resCells, List.getElem?_cons_succ] at hj
        have := i4 j sb hj
        rw [show h + 1 + j = h + (j + 1) from by omega] at this
        exact this

theorem resAll_ok : ∀ {rs : List (Bool × List RK)} {n h : Nat} {vs : List Value} {ds : List D} {os : List MV}, ResAll w' rs vs ds os → (∀ (i : Nat) d, ds[i]? = some d → ρ'[n + i]? = some d) →
    (∀ (j : Nat) u, os[j]? = some u → μ' (h + j) = u) → h + os.length ≤ hl' → (∀ u ∈ os, ∀ b, u.own b → Mine b) →
    TVR w' F' hl' μ' ρ' (resAll rs n h).1 vs ∧ (resAll rs n h).2.length = os.length ∧ ds.length = resCount rs ∧ ∀ (j : Nat) sb, (resAll rs n h).2[j]? = some sb → BlkR Mine w' F' hl' μ' ρ' sb (μ' (h + j))
  | [], n, h, [], ds, os, ⟨h1, h2⟩, _, _, _, _ => by subst h1 h2; exact ⟨trivial, rfl, rfl, by simp [resAll]⟩
  | (ag, rks) :: r, n, h, v :: vs, ds, os, ⟨d1, d2, o1, o2, h1, h2, h3, h4⟩, hd, ho, hl, hm => by
    subst h1 h2
    have hd1 : ∀ (i : Nat) d, d1[i]? = some d → ρ'[n + i]? = some d := fun i d hi => hd i d (by
      rw [List.getElem?_append_left]; exact hi
      rcases Nat.lt_or_ge i d1.length with h' | h'
      · exact h'
      · rw [List.getElem?_eq_none h'] at hi; cases hi)
    have ho1 : ∀ (j : Nat) u, o1[j]? = some u → μ' (h + j) = u := fun j u hj => ho j u (by
      rw [List.getElem?_append_left]; exact hj
      rcases Nat.lt_or_ge j o1.length with h' | h'
      · exact h'
      · rw [List.getElem?_eq_none h'] at hj; cases hj)
    have hP : PVR w' F' hl' μ' ρ' ag (resCells rks n h).1 v ∧ (resCells rks n h).2.length = o1.length ∧ d1.length = rks.length ∧ ∀ (j : Nat) sb, (resCells rks n h).2[j]? = some sb → BlkR Mine w' F' hl' μ' ρ' sb (μ' (h + j)) := by
      have hl1 : h + o1.length ≤ hl' := by simp at hl; omega
      have hm1 : ∀ u ∈ o1, ∀ b, u.own b → Mine b := fun u hu => hm u (by simp [hu])
      cases ag with
      | true =>
        obtain ⟨arr, e, hc⟩ := h3
        obtain ⟨i1, i2, i3, i4⟩ := resCells_ok (F' := F') hc hd1 ho1 hl1 hm1
        exact ⟨⟨arr, e, i1⟩, i2, i3, i4⟩
      | false =>
        obtain ⟨hlen, hc⟩ := h3
        obtain ⟨i1, i2, i3, i4⟩ := resCells_ok (F' := F') hc hd1 ho1 hl1 hm1
        refine ⟨?_, i2, i3, i4⟩
        have hl1 := i1.length
        simp only [List.length_cons, List.length_nil] at hl1
        obtain ⟨c, hc⟩ := List.length_eq_one_iff.1 hl1
        rw [hc] at i1
        exact ⟨c, hc, i1.1⟩
    obtain ⟨p1, p2, p3, p4⟩ := hP
    obtain ⟨q1, q2, q4, q3⟩ := resAll_ok (n := n + rks.length) (h := h + (resCells rks n h).2.length) h4 (fun i d hi => by
        have := hd (d1.length + i) d (by rw [List.getElem?_append_right (by omega)]; simpa using hi)
        rw [← p3, Nat.add_assoc]; exact this)
      (fun j u hj => by
        have := ho (o1.length + j) u (by rw [List.getElem?_append_right (by omega)]; simpa using hj)
        rw [p2, Nat.add_assoc]; exact this) (by simp at hl; omega) (fun u hu => hm u (by simp [hu]))
    refine ⟨⟨p1, q1⟩, by show ((resCells rks n h).2 ++ (resAll r _ _).2).length = _; rw [List.length_append, q2, p2, List.length_append], ?_, ?_⟩
    · rw [List.length_append, p3, q4]; simp [resCount]
    intro j sb hj
    simp only [resAll] at hj
    rcases Nat.lt_or_ge j (resCells rks n h).2.length with hlt | hge
    · rw [List.getElem?_append_left hlt] at hj
      exact p4 j sb hj
    · rw [List.getElem?_append_right hge] at hj
      have := q3 _ sb hj
      rw [show h + (resCells rks n h).2.length + (j - (resCells rks n h).2.length) = h + j from by omega] at this
      exact this
end

/-! ### What is handed back -/
/-- The own blocks that a call has turned: what they are now. -/
def updMA (μ : Mu) : List MA → List MV → List (Nat × MV)
  | [], _ => []
  | a :: as, ks =>
    if a.keep = false then updMA μ as ks else
    match ks with
    | [] => []
    | k :: ks => (a.β, match a.at?, k.hist with | none, _ :: _ => ⟨(μ a.β).v, (μ a.β).hist ++ [k.inner]⟩ | _, _ => μ a.β) :: updMA μ as ks

section
variable {X : Nat → Prop} {M : Hand} {w0 w w' : World} {S : SS} {μ μ' : Mu} {ρ ρ1 : List D} {a : Act} {F' : Nat → Prop} {hl' : Nat} {Mine : Nat → Prop}

/-- What is known of a call's own arguments. -/
structure CallOk (X : Nat → Prop) (M : Hand) (w0 w w' : World) (S : SS) (μ : Mu) (ρ : List D) (a : Act) (ρ0 : List D) (masA : List MA) (hsA : List HM) : Prop where
  r : R X M w0 S μ ρ a w
  pre : ∃ σ, ρ0 = ρ ++ σ
  hms : HMs μ ρ0 masA hsA
  ok : ∀ ma ∈ masA, MAok S ma
  nd : (masA.map MA.β).Nodup
  same : ∀ b, b < w.heap.size → (∀ x ∈ hsA, ¬ x.m.own b) → w'.heap[b]? = w.heap[b]?
  size : w.heap.size ≤ w'.heap.size

theorem MAok.live {ma : MA} (h : MAok S ma) : live S.heap ma.β := by
  obtain ⟨sb, h1, h2, _⟩ := h
  exact ⟨sb, h1, fun e => by subst e; have := fit_mine h2; cases this⟩

theorem nodup_map_inj {α : Type} {g : α → Nat} : ∀ {l : List α}, (l.map g).Nodup → ∀ {i j : Nat} {x y : α}, l[i]? = some x → l[j]? = some y → g x = g y → i = j
  | [], _, i, _, _, _, hi, _, _ => by simp at hi
  | z :: l, h, i, j, x, y, hi, hj, e => by
    simp only [List.map_cons, List.nodup_cons, List.mem_map, not_exists, not_and] at h
    cases i with
    | zero =>
      cases j with
      | zero => rfl
      | succ j =>
        simp only [List.getElem?_cons_zero, Option.some.injEq, List.getElem?_cons_succ] at hi hj
        subst hi
        exact absurd e.symm (h.1 y (List.mem_of_getElem? hj))
    | succ i =>
      cases j with
      | zero =>
        simp only [List.getElem?_cons_zero, Option.some.injEq, List.getElem?_cons_succ] at hi hj
        subst hj
        exact absurd e (h.1 x (List.mem_of_getElem? hi))
      | succ j =>
        simp only [List.getElem?_cons_succ] at hi hj
        rw [nodup_map_inj h.2 hi hj e]

variable {ρ0 : List D} {masA : List MA} {hsA : List HM}

/-- Whoever owns a block that was handed over with 'x' is x's own block. -/
theorem CallOk.whose (c : CallOk X M w0 w w' S μ ρ a ρ0 masA hsA) {i : Nat} {ma : MA} (hi : masA[i]? = some ma) {x : HM} (hx : x ∈ hsA) {b : Nat} (hb : x.m.own b) (hβ : (μ ma.β).own b) : hsA[i]? = some x := by
  obtain ⟨j, hj⟩ := List.getElem?_of_mem hx
  obtain ⟨ma', hma', hok⟩ := c.hms.get hj
  have ho := hok.own hb
  by_cases he : ma'.β = ma.β
  · rw [nodup_map_inj c.nd hi hma' he.symm]; exact hj
  · exact absurd hβ (c.r.inj ma'.β ma.β (c.ok ma' (List.mem_of_getElem? hma')).live (c.ok ma (List.mem_of_getElem? hi)).live he b ho)

theorem afterMA_ok (c : CallOk X M w0 w w' S μ ρ a ρ0 masA hsA) (hMine : ∀ β sb, S.heap[β]? = some sb → mineB sb = true → ∀ b, (μ β).own b → Mine b) :
    ∀ {mas : List MA} {hs : List HM} {off n q : Nat} {h h' : List SB} {post : List Push} {ρ1 ρ2 : List D} {ks : List MV} {ds2 : List D},
      (∀ (i : Nat) ma, mas[i]? = some ma → masA[off + i]? = some ma) → (∀ (i : Nat) x, hs[i]? = some x → hsA[off + i]? = some x) → mas.length = hs.length →
      afterMA mas n q h = (h', post) → (∀ ma ∈ mas, h[ma.β]? = S.heap[ma.β]?) → KeptR w' hs ds2 ks → (∀ (j : Nat) d, ds2[j]? = some d → ρ1[n + j]? = some d) → (∃ σ, ρ1 = ρ0 ++ σ) → ρ1.length = q → pushAll post ρ1 = some ρ2 →
      (∀ k ∈ ks, ∀ b, k.own b → Mine b) →
      h'.length = h.length ∧ (∀ β, β ∉ mas.map MA.β → h'[β]? = h[β]?) ∧ (∀ ma ∈ mas, ma.keep = false → h'[ma.β]? = some .dead) ∧ (∀ ma ∈ mas, ma.keep = true → ∃ m, (ma.β, m) ∈ updMA μ mas ks) ∧
        ∀ p ∈ updMA μ mas ks, ∃ sb, h'[p.1]? = some sb ∧ BlkR Mine w' F' hl' μ' ρ2 sb p.2
  | [], hs, off, n, q, h, h', post, ρ1, ρ2, ks, ds2, _, _, _, ha, _, _, _, _, _, _, _ => by
    simp only [afterMA, Prod.mk.injEq] at ha
    obtain ⟨rfl, rfl⟩ := ha
    exact ⟨rfl, fun _ _ => rfl, by simp, by simp, by simp [updMA]⟩
  | ma :: mas, [], off, n, q, h, h', post, ρ1, ρ2, ks, ds2, _, _, hl, _, _, _, _, _, _, _, _ => by simp at hl
  | ma :: mas, x :: hs, off, n, q, h, h', post, ρ1, ρ2, ks, ds2, hA, hB, hl, ha, hh, hk, hd, hρ, hq, hp, hm => by
    have hA0 := hA 0 ma rfl
    have hB0 := hB 0 x rfl
    simp only [Nat.add_zero] at hA0 hB0
    have hA' : ∀ (i : Nat) ma', mas[i]? = some ma' → masA[off + 1 + i]? = some ma' := fun i ma' hi => by
      have := hA (i + 1) ma' (by simpa using hi); rw [show off + 1 + i = off + (i + 1) from by omega]; exact this
    have hB' : ∀ (i : Nat) y, hs[i]? = some y → hsA[off + 1 + i]? = some y := fun i y hi => by
      have := hB (i + 1) y (by simpa using hi); rw [show off + 1 + i = off + (i + 1) from by omega]; exact this
    have hll : mas.length = hs.length := by simpa using hl
    have hne : ∀ ma' ∈ mas, ma'.β ≠ ma.β := fun ma' hm' e => by
      obtain ⟨i, hi⟩ := List.getElem?_of_mem hm'
      have := nodup_map_inj c.nd (hA' i ma' hi) hA0 e
      omega
    obtain ⟨ma0, hma0, hok0⟩ := c.hms.get hB0
    rw [hA0] at hma0
    simp only [Option.some.injEq] at hma0
    subst hma0
    obtain ⟨hk1, hk2, hk3⟩ := hok0
    have hlive := (c.ok ma (List.mem_of_getElem? hA0)).live
    have hh0 := hh ma (by simp)
    have fin : ∀ {sb : SB} {m : MV} {h1 h1' : List SB} {n1 q1 : Nat} {post1 : List Push} {ρ11 : List D} {ks1 : List MV} {ds21 : List D}, h1 = h.set ma.β sb → afterMA mas n1 q1 h1 = (h1', post1) → h1' = h' → KeptR w' hs ds21 ks1 →
        (∀ (j : Nat) d, ds21[j]? = some d → ρ11[n1 + j]? = some d) → (∃ σ, ρ11 = ρ0 ++ σ) → ρ11.length = q1 → pushAll post1 ρ11 = some ρ2 → (∀ k ∈ ks1, ∀ b, k.own b → Mine b) →
        h'.length = h.length ∧ (∀ β, β ∉ (ma :: mas).map MA.β → h'[β]? = h[β]?) ∧ (∀ ma' ∈ mas, ma'.keep = false → h'[ma'.β]? = some .dead) ∧ (∀ ma' ∈ mas, ma'.keep = true → ∃ m, (ma'.β, m) ∈ updMA μ mas ks1) ∧
          (∀ p ∈ updMA μ mas ks1, ∃ sb, h'[p.1]? = some sb ∧ BlkR Mine w' F' hl' μ' ρ2 sb p.2) ∧ h'[ma.β]? = some sb := by
      intro sb m h1 h1' n1 q1 post1 ρ11 ks1 ds21 e1 e2 e3 e4 e5 e6 e7 e8 e9
      subst e1 e3
      obtain ⟨i1, i2, i3, i4, i5⟩ := afterMA_ok c hMine hA' hB' hll e2 (fun ma' hm' => by rw [List.getElem?_set_ne (fun e => hne ma' hm' e.symm)]; exact hh ma' (by simp [hm'])) e4 e5 e6 e7 e8 e9
      refine ⟨by simpa using i1, fun β hβ => ?_, i3, i4, i5, ?_⟩
      · simp only [List.map_cons, List.mem_cons, not_or] at hβ
        rw [i2 β hβ.2, List.getElem?_set_ne (fun e => hβ.1 e.symm)]
      · rw [i2 ma.β (fun e => ?_)]
        · rw [List.getElem?_set_self]
          have := live_lt hlive
          obtain ⟨sb', hs', _⟩ := hlive
          rw [← hh0] at hs'
          exact (List.getElem?_eq_some_iff.1 hs').1
        · obtain ⟨ma', h1, h2⟩ := List.mem_map.1 e
          exact hne ma' h1 h2
    unfold afterMA at ha
    cases hkeep : ma.keep with
    | false =>
      rw [if_pos hkeep] at ha
      have hk' : KeptR w' hs ds2 ks := by
        unfold KeptR at hk
        rw [hk2, hkeep] at hk
        simpa using hk
      obtain ⟨i1, i2, i3, i4, i5, i6⟩ := fin (m := μ ma.β) rfl ha rfl hk' hd hρ hq hp hm
      have hu : updMA μ (ma :: mas) ks = updMA μ mas ks := by rw [updMA.eq_def]; simp only [if_pos hkeep]
      rw [hu]
      refine ⟨i1, i2, fun ma' hm' hf => ?_, fun ma' hm' hf => ?_, i5⟩
      · rcases List.mem_cons.1 hm' with rfl | hm'
        · exact i6
        · exact i3 ma' hm' hf
      · rcases List.mem_cons.1 hm' with rfl | hm'
        · rw [hkeep] at hf; cases hf
        · exact i4 ma' hm' hf
    | true =>
      rw [if_neg (by rw [hkeep]; simp)] at ha
      have hk' := hk
      unfold KeptR at hk'
      rw [hk2, hkeep, if_pos rfl] at hk'
      obtain ⟨d, d2, k, k2, rfl, rfl, hkv, hko, hkr⟩ := hk'
      have hd0 : ρ1[n]? = some d := by have := hd 0 d rfl; simpa using this
      have hdn : ∀ (j : Nat) e, d2[j]? = some e → ρ1[n + 1 + j]? = some e := fun j e hj => by
        have := hd (j + 1) e (by simpa using hj); rw [show n + 1 + j = n + (j + 1) from by omega]; exact this
      have hm2 : ∀ u ∈ k2, ∀ b, u.own b → Mine b := fun u hu => hm u (by simp [hu])
      have hmk := hm k (by simp)
      have close : ∀ {sb : SB} {m : MV}, updMA μ (ma :: mas) (k :: k2) = (ma.β, m) :: updMA μ mas k2 → BlkR Mine w' F' hl' μ' ρ2 sb m →
          (h'.length = h.length ∧ (∀ β, β ∉ (ma :: mas).map MA.β → h'[β]? = h[β]?) ∧ (∀ ma' ∈ mas, ma'.keep = false → h'[ma'.β]? = some .dead) ∧ (∀ ma' ∈ mas, ma'.keep = true → ∃ m, (ma'.β, m) ∈ updMA μ mas k2) ∧
          (∀ p ∈ updMA μ mas k2, ∃ sb, h'[p.1]? = some sb ∧ BlkR Mine w' F' hl' μ' ρ2 sb p.2) ∧ h'[ma.β]? = some sb) →
          h'.length = h.length ∧ (∀ β, β ∉ (ma :: mas).map MA.β → h'[β]? = h[β]?) ∧ (∀ ma' ∈ ma :: mas, ma'.keep = false → h'[ma'.β]? = some .dead) ∧ (∀ ma' ∈ ma :: mas, ma'.keep = true → ∃ m, (ma'.β, m) ∈ updMA μ (ma :: mas) (k :: k2)) ∧
            ∀ p ∈ updMA μ (ma :: mas) (k :: k2), ∃ sb, h'[p.1]? = some sb ∧ BlkR Mine w' F' hl' μ' ρ2 sb p.2 := by
        intro sb m hu hbl ⟨i1, i2, i3, i4, i5, i6⟩
        rw [hu]
        refine ⟨i1, i2, fun ma' hm' hf => ?_, fun ma' hm' hf => ?_, fun p hp' => ?_⟩
        · rcases List.mem_cons.1 hm' with rfl | hm'
          · rw [hkeep] at hf; cases hf
          · exact i3 ma' hm' hf
        · rcases List.mem_cons.1 hm' with rfl | hm'
          · exact ⟨m, by simp⟩
          · obtain ⟨m', h1⟩ := i4 ma' hm' hf
            exact ⟨m', by simp [h1]⟩
        · rcases List.mem_cons.1 hp' with rfl | hp'
          · exact ⟨sb, i6, hbl⟩
          · exact i5 p hp'
      have getp : ∀ {post1 : List Push} {ρ11 : List D} {j : Nat} {e : D}, pushAll post1 ρ11 = some ρ2 → ρ11[j]? = some e → (Atom.v j).get ρ2 = some e := by
        intro post1 ρ11 j e h1 h2
        obtain ⟨σ, rfl, _⟩ := pushAll_env h1
        exact Atom.get_append (x := .v j) h2
      have hu : updMA μ (ma :: mas) (k :: k2) = (ma.β, match ma.at?, k.hist with | none, _ :: _ => ⟨(μ ma.β).v, (μ ma.β).hist ++ [k.inner]⟩ | _, _ => μ ma.β) :: updMA μ mas k2 := by
        rw [updMA.eq_def]; simp only [hkeep]; rfl
      obtain ⟨sbS, hsbS, hfit, _⟩ := c.ok ma (List.mem_of_getElem? hA0)
      have hblk := c.r.blocks ma.β sbS hsbS
      have hmn := hMine ma.β sbS hsbS (fit_mine hfit)
      rw [hh0, hsbS] at ha
      rw [hk1] at hko
      cases hat : ma.at? with
      | none =>
        rw [hat] at ha hk3 hu hfit
        dsimp only at ha
        obtain ⟨hv, hin⟩ := hk3
        have hkv' : k.v = (μ ma.β).v := hkv.trans hv
        cases hkk : ma.k with
        | rows et f e =>
          rw [hkk] at hfit hko
          cases sbS <;> first | exact hfit.elim | skip
          rename_i et' f' e' ver y
          obtain ⟨rfl, rfl, rfl⟩ := hfit
          obtain ⟨hh1, m, ls, h1, rfl, h4, h5, h6⟩ := hko (fun _ => True)
          obtain ⟨h0, _⟩ := hblk
          obtain ⟨l0, hl0⟩ := List.length_eq_one_iff.1 hh1
          have hinn : (MV.mk (μ ma.β).v ((μ ma.β).hist ++ [k.inner])).inner = k.inner := by simp [MV.inner]
          rw [hl0] at hu
          refine close (sb := .rows et f e (ver + 1) (.v n)) hu ?_ (fin (m := μ ma.β) rfl ha rfl hkr hdn hρ hq hp hm2)
          refine ⟨by simp [h0], m, ls, ?_, fun b hb => hmk b ?_, getp hp hd0, h4, ?_, ?_⟩
          · rw [hinn]; rw [← hkv']; exact h1
          · rcases hb with hb | hb
            · exact .inl (by rw [hkv']; exact hb)
            · exact .inr (by rw [hinn] at hb; exact hb)
          · rw [hinn]; exact h5
          · rw [hinn]; rw [← hkv']; exact h6
        | row t e =>
          rw [hkk] at hfit hko
          cases sbS <;> first | exact hfit.elim | skip
          rename_i t' e' y
          obtain ⟨rfl, rfl⟩ := hfit
          obtain ⟨hh1, _⟩ := hko (fun _ => True)
          obtain ⟨h0, _⟩ := hblk
          have hkm : k = μ ma.β := by
            cases k with
            | mk kv kh =>
              simp only at hh1 hkv'
              subst hh1 hkv'
              have : (μ ma.β) = ⟨(μ ma.β).v, (μ ma.β).hist⟩ := rfl
              rw [this, h0]
          rw [hh1] at hu
          refine close (sb := (MK.row t e).sb 0 (.v n)) hu ?_ (fin (m := μ ma.β) rfl (by rw [← hkk]; exact ha) rfl hkr hdn hρ hq hp hm2)
          have hb := OwnK.blk (F' := F') (hl' := hl') (μ' := μ') (x := .v n) hko (getp hp hd0) hmk
          rw [hkm] at hb
          exact hb
      | some i =>
        rw [hat] at ha hk3 hu hfit
        dsimp only at ha
        obtain ⟨_, hxh, nn, hi, hnn, hrow⟩ := hk3
        cases hkk : ma.k with
        | rows et f e => rw [hkk] at hfit; exact hfit.elim
        | row t f =>
          rw [hkk] at hfit hko
          cases sbS <;> first | exact hfit.elim | skip
          rename_i et f' e ver y
          obtain ⟨rfl, rfl⟩ := hfit
          dsimp only at ha
          cases hrec : afterMA mas (n + 1) (q + 1) (h.set ma.β (.rows et f e ver (.v q))) with
          | mk hr pr =>
          rw [hrec] at ha
          simp only [Prod.mk.injEq] at ha
          obtain ⟨rfl, rfl⟩ := ha
          obtain ⟨h0, m, ls, h1, _, h3, h4, h5, h6, h7⟩ := hblk
          obtain ⟨kh0, kn, kxs, kl, g1, rfl, g3, g4⟩ := hko (fun _ => True)
          obtain ⟨σ1, rfl⟩ := hρ
          obtain ⟨σ0, rfl⟩ := c.pre
          have hy : y.get (ρ ++ σ0 ++ σ1) = some (rowsDat et.agg ls) := Atom.get_append (Atom.get_append h3)
          have hi' := Atom.get_append (σ := σ1) hi
          have hnl : nn.toNat < ls.length := by rw [← h5.1]; exact (List.getElem?_eq_some_iff.1 hrow).1
          simp only [pushAll, evs, List.map_cons, List.map_nil, Atom.ev_of_get hy, Atom.ev_of_get hi', Atom.ev_of_get (x := .v n) hd0, rowsDat, Prim.ev, List.length_map] at hp
          rw [if_pos ⟨hnn, by omega⟩] at hp
          simp only at hp
          have hset : (ls.map fun l => D.lst (l.map (unflat et.agg))).set nn.toNat (.lst (kl.map (unflat (rowAgg (.s1 et))))) = (ls.set nn.toNat kl).map fun l => D.lst (l.map (unflat et.agg)) := by
            rw [List.map_set]; rfl
          rw [hset] at hp
          have hkh : k.hist = [] := kh0
          rw [hkh] at hu
          have hq1 : (ρ ++ σ0 ++ σ1 ++ [D.lst ((ls.set nn.toNat kl).map fun l => D.lst (l.map (unflat et.agg)))]).length = q + 1 := by simp at hq ⊢; omega
          have hnew : (ρ ++ σ0 ++ σ1 ++ [D.lst ((ls.set nn.toNat kl).map fun l => D.lst (l.map (unflat et.agg)))])[q]? = some (rowsDat et.agg (ls.set nn.toNat kl)) := by
            have := get_new (ρ := ρ ++ σ0 ++ σ1) (n := q) (d := D.lst ((ls.set nn.toNat kl).map fun l => D.lst (l.map (unflat et.agg)))) hq
            exact this
          refine close (sb := .rows et f e ver (.v q)) hu ?_ (fin (m := μ ma.β) rfl hrec rfl hkr (fun j e hj => ?_) ⟨σ1 ++ [D.lst ((ls.set nn.toNat kl).map fun l => D.lst (l.map (unflat et.agg)))], by simp⟩ hq1 hp hm2)
          · -- the rows behind the call
            have hxin : x ∈ hsA := List.mem_of_getElem? hB0
            have hxown : ∀ b, x.m.own b ↔ blkOf x.m.v = some b := fun b => MV.own_flat hxh
            have other : ∀ b, (μ ma.β).own b → blkOf x.m.v ≠ some b → w'.heap[b]? = w.heap[b]? := by
              intro b hb hne
              refine c.same b (c.r.own_lt hlive hb) fun z hz hzb => hne ?_
              have := c.whose hA0 hz hzb hb
              rw [hB0] at this
              simp only [Option.some.injEq] at this
              subst this
              exact (hxown b).1 hzb
            have hkx : k.v = x.m.v := hkv
            refine ⟨h0, m, ls.set nn.toNat kl, ownsRow_kept h1 (fun b hb => other b (.inl hb) fun e => h7 _ (List.mem_of_getElem? hrow) b e hb), hmn, getp hp hnew, by simpa using h4, ⟨by simpa using h5.1, fun i' u l hu' hl' => ?_⟩, h6, h7⟩
            rw [List.getElem?_set] at hl'
            split at hl'
            · rename_i he
              subst he
              simp only [Option.some.injEq] at hl'
              subst hl'
              rw [hrow] at hu'
              simp only [Option.some.injEq] at hu'
              subst hu'
              rw [← hkx]
              exact ⟨kn, kxs, g1, g3, g4⟩
            · rename_i he
              obtain ⟨n', xs', r1, r2⟩ := h5.2 i' u l hu' hl'
              refine ⟨n', xs', ownsRow_kept r1 fun b hb => other b (.inr ⟨u, List.mem_of_getElem? hu', hb⟩) fun e => ?_, r2⟩
              exact h6 i' nn.toNat u _ hu' hrow (fun e => he e.symm) b hb e
          · rw [List.getElem?_append_left]
            · exact hdn j e hj
            · rcases Nat.lt_or_ge (n + 1 + j) (ρ ++ σ0 ++ σ1).length with h' | h'
              · exact h'
              · have := hdn j e hj; rw [List.getElem?_eq_none h'] at this; cases this

end
end Vs
