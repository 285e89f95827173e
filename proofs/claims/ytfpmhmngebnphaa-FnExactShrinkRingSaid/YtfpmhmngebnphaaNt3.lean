/-
  A call of a function with a contract.
-/
import Derived.Test.YtfpmhmngebnphaaNt2
namespace Vs
open Go Go.RowKit

section
variable {P : Program} {X : Nat → Prop} {M : Hand} {w0 w w' : World} {S : SS} {μ μ' : Mu} {ρ : List D} {a : Act}

theorem resAll_length : ∀ (rs : List (Bool × List RK)) (n h : Nat), (resAll rs n h).1.length = rs.length
  | [], _, _ => rfl
  | (_, rks) :: r, n, h => by simp [resAll, resAll_length r]

theorem updMA_mem {p : Nat × MV} : ∀ {mas : List MA} {ks : List MV}, p ∈ updMA μ mas ks → (∃ ma ∈ mas, ma.β = p.1 ∧ ma.keep = true) ∧ p.2.v = (μ p.1).v ∧ (∃ ext, p.2.hist = (μ p.1).hist ++ ext) ∧
      ∃ k, (p.2 = μ p.1 ∨ (k ∈ ks ∧ p.2.inner = k.inner))
  | [], ks, h => by simp [updMA] at h
  | ma :: mas, ks, h => by
    rw [updMA.eq_def] at h
    simp only at h
    split at h
    · obtain ⟨⟨m, h1, h2⟩, h3⟩ := updMA_mem h
      exact ⟨⟨m, by simp [h1], h2⟩, h3⟩
    · rename_i hk
      have hk : ma.keep = true := by simpa using hk
      cases ks with
      | nil => simp at h
      | cons k ks =>
        simp only [List.mem_cons] at h
        rcases h with rfl | h
        · refine ⟨⟨ma, by simp, rfl, hk⟩, ?_⟩
          dsimp only
          split
          · exact ⟨rfl, ⟨_, rfl⟩, k, .inr ⟨by simp, by simp [MV.inner]⟩⟩
          · exact ⟨rfl, ⟨[], by simp⟩, k, .inl rfl⟩
        · obtain ⟨⟨m, h1, h2⟩, h3, h4, k', h5⟩ := updMA_mem h
          refine ⟨⟨m, by simp [h1], h2⟩, h3, h4, k', ?_⟩
          rcases h5 with h5 | ⟨h5, h6⟩
          · exact .inl h5
          · exact .inr ⟨by simp [h5], h6⟩

def cntK (mas : List MA) (i : Nat) : Nat := ((mas.take i).filter (·.keep)).length
theorem cntK_lt {mas : List MA} : ∀ {i i' : Nat} {ma : MA}, i < i' → mas[i]? = some ma → ma.keep = true → i' ≤ mas.length → cntK mas i < cntK mas i' := by
  induction mas with
  | nil => intro i i' ma _ h; simp at h
  | cons a as ih =>
    intro i i' ma hlt h hk hl
    cases i' with
    | zero => omega
    | succ i' =>
      cases i with
      | zero =>
        simp only [List.getElem?_cons_zero, Option.some.injEq] at h
        subst h
        simp [cntK, hk]
      | succ i =>
        simp only [List.getElem?_cons_succ] at h
        have := ih (i := i) (i' := i') (by omega) h hk (by simpa using hl)
        simp only [cntK, List.take_succ_cons, List.filter_cons] at this ⊢
        split <;> simp <;> omega
theorem cntK_inj {mas : List MA} {i i' : Nat} {ma ma' : MA} (h : mas[i]? = some ma) (h' : mas[i']? = some ma') (hk : ma.keep = true) (hk' : ma'.keep = true) (he : cntK mas i = cntK mas i') : i = i' := by
  have l1 := (List.getElem?_eq_some_iff.1 h).1
  have l2 := (List.getElem?_eq_some_iff.1 h').1
  rcases Nat.lt_trichotomy i i' with h1 | h1 | h1
  · have := cntK_lt h1 h hk (by omega); omega
  · exact h1
  · have := cntK_lt h1 h' hk' (by omega); omega

/-- Which thing handed back belongs to an own block that a call turned. -/
theorem updMA_kept {ρ0 : List D} {masA : List MA} {hsA : List HM} (c : CallOk X M w0 w w' S μ ρ a ρ0 masA hsA) {p : Nat × MV} :
    ∀ {mas : List MA} {hs : List HM} {off : Nat} {ks : List MV} {ds : List D}, (∀ (i : Nat) ma, mas[i]? = some ma → masA[off + i]? = some ma) → (∀ (i : Nat) x, hs[i]? = some x → hsA[off + i]? = some x) → mas.length = hs.length →
      KeptR w' hs ds ks → p ∈ updMA μ mas ks → ∃ (i : Nat) (ma : MA) (x : HM) (j : Nat) (k : MV), mas[i]? = some ma ∧ hs[i]? = some x ∧ ma.β = p.1 ∧ ks[j]? = some k ∧ (ma.keep = true ∧ j = cntK mas i) ∧
        ∀ b, p.2.own b → k.own b ∨ (ma.at? ≠ none ∧ (μ p.1).own b ∧ ¬ x.m.own b)
  | [], hs, off, ks, ds, _, _, _, _, h => by simp [updMA] at h
  | ma :: mas, [], off, ks, ds, _, _, hl, _, _ => by simp at hl
  | ma :: mas, x :: hs, off, ks, ds, hA, hB, hl, hk, h => by
    have hA0 := hA 0 ma rfl
    have hB0 := hB 0 x rfl
    simp only [Nat.add_zero] at hA0 hB0
    have hA' : ∀ (i : Nat) ma', mas[i]? = some ma' → masA[off + 1 + i]? = some ma' := fun i ma' hi => by
      have := hA (i + 1) ma' (by simpa using hi); rw [show off + 1 + i = off + (i + 1) from by omega]; exact this
    have hB' : ∀ (i : Nat) y, hs[i]? = some y → hsA[off + 1 + i]? = some y := fun i y hi => by
      have := hB (i + 1) y (by simpa using hi); rw [show off + 1 + i = off + (i + 1) from by omega]; exact this
    have hll : mas.length = hs.length := by simpa using hl
    obtain ⟨ma0, hma0, hok0⟩ := c.hms.get hB0
    rw [hA0] at hma0
    simp only [Option.some.injEq] at hma0
    subst hma0
    obtain ⟨hk1, hk2, hk3⟩ := hok0
    rw [updMA.eq_def] at h
    simp only at h
    split at h
    · rename_i hkeep
      have hk' : KeptR w' hs ds ks := by
        unfold KeptR at hk
        rw [hk2, hkeep] at hk
        simpa using hk
      obtain ⟨i, ma', x', j, k, e1, e2, e3, e4, ⟨e5, e6⟩, e7⟩ := updMA_kept c hA' hB' hll hk' h
      exact ⟨i + 1, ma', x', j, k, by simpa using e1, by simpa using e2, e3, e4, ⟨e5, by simp [cntK, hkeep] at e6 ⊢; exact e6⟩, e7⟩
    · rename_i hkeep
      have hkeep : ma.keep = true := by simpa using hkeep
      unfold KeptR at hk
      rw [hk2, hkeep, if_pos rfl] at hk
      obtain ⟨d, d2, k, k2, rfl, rfl, hkv, hko, hkr⟩ := hk
      simp only [List.mem_cons] at h
      rcases h with rfl | h
      · refine ⟨0, ma, x, 0, k, rfl, rfl, rfl, rfl, ⟨hkeep, by simp [cntK]⟩, fun b hb => ?_⟩
        rw [hk1] at hko
        obtain ⟨sb, hsb, hfit, _⟩ := c.ok ma (List.mem_of_getElem? hA0)
        have hko0 := hko (fun _ => True)
        cases hat : ma.at? with
        | none =>
          rw [hat] at hk3 hb hfit
          obtain ⟨g1, g2⟩ := hk3
          left
          cases hkk : ma.k with
          | rows et f e =>
            rw [hkk] at hko0
            obtain ⟨hh1, _⟩ := hko0
            obtain ⟨l0, hl0⟩ := List.length_eq_one_iff.1 hh1
            rw [hl0] at hb
            rcases hb with hb | hb
            · left; rw [hkv, g1]; exact hb
            · right; simpa [MV.inner] using hb
          | row t e =>
            rw [hkk] at hko0 hfit
            obtain ⟨hh1, _⟩ := hko0
            rw [hh1] at hb
            have hblk := c.r.blocks ma.β sb hsb
            cases sb <;> first | exact hfit.elim | skip
            have h0 := hblk.1
            left
            rw [hkv, g1]
            exact (MV.own_flat h0).1 hb
        | some i =>
          rw [hat] at hk3 hb
          obtain ⟨_, hxh, n, _, _, hrow⟩ := hk3
          by_cases hx : x.m.own b
          · left; left; rw [hkv]; exact (MV.own_flat hxh).1 hx
          · exact .inr ⟨by simp, hb, hx⟩
      · obtain ⟨i, ma', x', j, k', e1, e2, e3, e4, ⟨e5, e6⟩, e7⟩ := updMA_kept c hA' hB' hll hkr h
        exact ⟨i + 1, ma', x', j + 1, k', by simpa using e1, by simpa using e2, e3, by simpa using e4, ⟨e5, by simp [cntK, hkeep] at e6 ⊢; exact e6⟩, e7⟩

theorem keptR_len : ∀ {hs : List HM} {ds : List D} {ks : List MV}, KeptR w' hs ds ks → ds.length = (hs.filter (·.keep)).length
  | [], ds, ks, h => by rw [h.1]; rfl
  | x :: hs, ds, ks, h => by
    unfold KeptR at h
    split at h
    · rename_i hk
      obtain ⟨d, d2, k, k2, rfl, rfl, _, _, h5⟩ := h
      simp [hk, keptR_len h5]
    · rename_i hk
      simp [hk, keptR_len h]

theorem call_ok {f : FuncId} {sg : Sig} {G : List D → Option (List D)} {o : Oper} {g : Guard} {ss : List SV} {vs : List Value} {ar : AR} {hE : List SB} {post : List Push} (hs : SoundCall P f sg G)
    (ho : (execOp a.eval o).run P w = ((callFunc f vs.toArray).run P w)) (h : R X M w0 S μ ρ a w) (hg : g.ok ρ = true) (hgg : ∀ x want, g = some (x, want) → x.get ρ ≠ none)
    (hvs : ss.length = vs.length) (hss : ∀ (j : Nat) s u, ss[j]? = some s → vs[j]? = some u → SVR w (Fz X S.heap μ w) S.heap.length μ ρ s u)
    (h2 : argAll S S.n sg.params ss = .ok ar) (haft : afterMA ar.mas (S.n + ar.pre.length + resCount sg.results) (S.n + ar.pre.length + (resCount sg.results + sg.keeps.length)) S.heap = (hE, post))
    (hnd : (ar.mas.map MA.β).Nodup) (hrd : ∀ β ∈ ar.rds, β ∉ ar.mas.map MA.β)
    {v : SV} (hv : resSV (resAll sg.results (S.n + ar.pre.length) S.heap.length).1 = some v) {slots : List SV} (hp : put S o.dst (wrapG g v) = .ok slots) {σ1 : List D} {ds : List D} {ρ2 : List D} (hpre : pushAll ar.pre ρ = some (ρ ++ σ1))
    (hG : G (evs (ρ ++ σ1) ar.xs) = some ds) (hcount : ds.length = resCount sg.results + sg.keeps.length) (hpost : pushAll post (ρ ++ σ1 ++ ds) = some ρ2) :
    StepOk P X M w0 S μ { n := ρ2.length, slots, heap := hE ++ (resAll sg.results (S.n + ar.pre.length) S.heap.length).2 } o (ar.mas.map MA.β) a w ρ2 := by
  intro K Q hK
  have hpl : σ1.length = ar.pre.length := by
    obtain ⟨σ, e, hl⟩ := pushAll_env hpre
    rw [List.append_cancel_left e]; exact hl
  have hargs0 := argAll_ok (σ := []) h (by simpa [h.len] using h2) hvs hss (by simpa using hpre)
  obtain ⟨hms, b1, b2, b3, b4, b5⟩ := hargs0
  have hlen0 : (ρ ++ σ1).length = S.n + ar.pre.length := by rw [List.length_append, h.len, hpl]
  -- the own blocks of what is handed over
  have hown : ∀ x ∈ hms, ∀ b, x.m.own b → ∃ ma ∈ ar.mas, (μ ma.β).own b := by
    intro x hx b hb
    obtain ⟨i, hi⟩ := List.getElem?_of_mem hx
    obtain ⟨ma, hma, hok⟩ := b1.get hi
    exact ⟨ma, List.mem_of_getElem? hma, hok.own hb⟩
  have hFz : ∀ b, Fz X S.heap μ w b → Fm w hms b := fun b hb => ⟨hb.1.1, fun x hx ho => by
    obtain ⟨ma, h1, h2⟩ := hown x hx b ho
    exact hb.2 ma.β (b2 ma h1).live h2⟩
  have hdis : ∀ β, live S.heap β → β ∉ ar.mas.map MA.β → ∀ b, (μ β).own b → Fm w hms b := fun β hl hn b hb => ⟨h.own_lt hl hb, fun x hx ho => by
    obtain ⟨ma, h1, h2⟩ := hown x hx b ho
    exact h.inj β ma.β hl (b2 ma h1).live (fun e => hn (by rw [e]; exact List.mem_map.2 ⟨ma, h1, rfl⟩)) b hb h2⟩
  have hargs := b5 (Fm w hms) hFz (fun β hβ => hdis β (b4 β hβ) (hrd β hβ)) (fun β cs hcs => hdis β ⟨_, hcs, by simp⟩ (fun hm => by
    obtain ⟨ma, h1, h2⟩ := List.mem_map.1 hm
    obtain ⟨sb, e1, e2, _⟩ := b2 ma h1
    rw [h2, hcs] at e1
    simp only [Option.some.injEq] at e1
    subst e1
    cases hat : ma.at? <;> cases hk : ma.k <;> rw [hat, hk] at e2 <;> exact e2.elim))
  have hmap : MApart (hms.map HM.m) := by
    intro i j m m' hi hj hne b hb hb'
    rw [List.getElem?_map] at hi hj
    obtain ⟨x, hx, rfl⟩ := map_some_eq hi
    obtain ⟨y, hy, rfl⟩ := map_some_eq hj
    obtain ⟨ma, hma, hok⟩ := b1.get hx
    obtain ⟨mb, hmb, hok'⟩ := b1.get hy
    refine h.inj ma.β mb.β (b2 ma (List.mem_of_getElem? hma)).live (b2 mb (List.mem_of_getElem? hmb)).live (fun e => hne ?_) b (hok.own hb) (hok'.own hb')
    exact nodup_map_inj hnd hma hmb e
  have hc := hs.calls vs _ hms w ds hargs hmap hG
  unfold Oper.wp
  rw [ho, hs.enter]
  refine hc.mono fun e w' ⟨u, he, hkeep, us, os, ks, d1, d2, hshape, hds, hres, hkept, hnewown, hapart⟩ => ?_
  subst he hds
  have c : CallOk X M w0 w w' S μ ρ a (ρ ++ σ1) ar.mas hms := ⟨h, ⟨σ1, rfl⟩, b1, b2, hnd, fun b hb hn => hkeep.block b hb (fun ⟨x, hx, ho⟩ => hn x hx ho), hkeep.size⟩
  -- the new own things
  generalize hupd : updMA μ ar.mas ks = upd at *
  obtain ⟨μ', hμold, hμnew⟩ : ∃ μ' : Mu, (∀ β, β < S.heap.length → μ' β = ((upd.find? fun p => p.1 == β).map (·.2)).getD (μ β)) ∧ ∀ (j : Nat) o, os[j]? = some o → μ' (S.heap.length + j) = o :=
    ⟨fun β => if β < S.heap.length then ((upd.find? fun p => p.1 == β).map (·.2)).getD (μ β) else (os[β - S.heap.length]?).getD (MV.one Go.undef), fun β hb => by simp [hb], fun j o hj => by
      show (if _ then _ else _) = _
      rw [if_neg (by omega), show S.heap.length + j - S.heap.length = j from by omega, hj]; rfl⟩
  have hfind : ∀ {β : Nat}, β < S.heap.length → (μ' β = μ β ∧ ∀ p ∈ upd, p.1 ≠ β) ∨ ∃ p ∈ upd, p.1 = β ∧ μ' β = p.2 := by
    intro β hb
    rw [hμold β hb]
    cases hf : upd.find? fun p => p.1 == β with
    | none =>
      left
      refine ⟨by simp, fun p hp e => ?_⟩
      have := List.find?_eq_none.1 hf p hp
      simp [e] at this
    | some p =>
      right
      have h1 := List.find?_some hf
      simp only [beq_iff_eq] at h1
      exact ⟨p, List.mem_of_find?_eq_some hf, h1, by simp⟩
  have hmaLt : ∀ ma ∈ ar.mas, ma.β < S.heap.length := fun ma hm => live_lt (b2 ma hm).live
  have hnl : ∀ (i : Nat) d, (d1 ++ d2)[i]? = some d → (ρ ++ σ1 ++ (d1 ++ d2))[S.n + ar.pre.length + i]? = some d := fun i d hi => by
    rw [List.getElem?_append_right (by omega), hlen0, show S.n + ar.pre.length + i - (S.n + ar.pre.length) = i from by omega]; exact hi
  obtain ⟨σ3, hρ2, _⟩ := pushAll_env hpost
  have hext2 : ∀ {i : Nat} {d : D}, (ρ ++ σ1 ++ (d1 ++ d2))[i]? = some d → ρ2[i]? = some d := by
    intro i d hi
    rw [hρ2, List.getElem?_append_left (List.getElem?_eq_some_iff.1 hi).1]; exact hi
  have hd1len : d1.length = resCount sg.results := (resAll_ok (F' := fun _ => True) (hl' := S.heap.length + os.length) (μ' := μ') (ρ' := ρ ++ σ1 ++ (d1 ++ d2)) (Mine := fun _ => True) (n := S.n + ar.pre.length) (h := S.heap.length) hres
    (fun i d hi => hnl i d (by rw [List.getElem?_append_left (List.getElem?_eq_some_iff.1 hi).1]; exact hi)) hμnew (Nat.le_refl _) (fun _ _ _ _ => trivial)).2.2.1
  have hblen : (resAll sg.results (S.n + ar.pre.length) S.heap.length).2.length = os.length := (resAll_ok (F' := fun _ => True) (hl' := S.heap.length + os.length) (μ' := μ') (ρ' := ρ ++ σ1 ++ (d1 ++ d2)) (Mine := fun _ => True) (n := S.n + ar.pre.length) (h := S.heap.length) hres
    (fun i d hi => hnl i d (by rw [List.getElem?_append_left (List.getElem?_eq_some_iff.1 hi).1]; exact hi)) hμnew (Nat.le_refl _) (fun _ _ _ _ => trivial)).2.1
  have hfromT : ∀ b, (∃ x ∈ hms, x.m.own b) → ∃ γ, γ ∈ ar.mas.map MA.β ∧ (μ γ).own b := fun b ⟨x, hx, hb⟩ => by
    obtain ⟨ma, h1, h2⟩ := hown x hx b hb
    exact ⟨ma.β, List.mem_map.2 ⟨ma, h1, rfl⟩, h2⟩
  have hMine : ∀ β sb, S.heap[β]? = some sb → mineB sb = true → ∀ b, (μ β).own b → (w0.heap.size ≤ b ∨ M b) := fun β sb h1 h2 b hb => h.mine h1 h2 hb
  have hmineNew : ∀ u ∈ os ++ ks, ∀ b, u.own b → (w0.heap.size ≤ b ∨ M b) := fun u hu b hb => by
    rcases hnewown u hu b hb with h1 | h1
    · exact .inl (Nat.le_trans h.keeps.size h1)
    · obtain ⟨x, hx, hxb⟩ := h1
      obtain ⟨ma, h3, h4⟩ := hown x hx b hxb
      obtain ⟨sb, e1, e2, _⟩ := b2 ma h3
      exact hMine ma.β sb e1 (fit_mine e2) b h4
  have hEs := fun (F' : Nat → Prop) (hl' : Nat) => afterMA_ok (F' := F') (hl' := hl') (μ' := μ') (Mine := fun b => w0.heap.size ≤ b ∨ M b) c hMine (mas := ar.mas) (hs := hms) (off := 0) (ρ1 := ρ ++ σ1 ++ (d1 ++ d2)) (ρ2 := ρ2) (ks := ks) (ds2 := d2)
    (fun i ma hi => by simpa using hi) (fun i x hi => by simpa using hi) b1.length haft (fun _ _ => rfl) hkept
    (fun j d hj => by
      have := hnl (d1.length + j) d (by rw [List.getElem?_append_right (by omega)]; simpa using hj)
      rw [← hd1len, Nat.add_assoc]; exact this)
    ⟨d1 ++ d2, rfl⟩ (by rw [List.length_append, hlen0, hcount]) hpost (fun k hk b hb => hmineNew k (by simp [hk]) b hb)
  have hE0 := hEs (fun _ => True) 0
  rw [hupd] at hE0
  obtain ⟨e1, e2, e3, e4, _⟩ := hE0
  -- which live old blocks the call turned
  have hturn : ∀ {β : Nat}, live (hE ++ (resAll sg.results (S.n + ar.pre.length) S.heap.length).2) β → β ∈ ar.mas.map MA.β → ∃ p ∈ upd, p.1 = β ∧ μ' β = p.2 := by
    intro β hl hm
    obtain ⟨ma, h1, h2⟩ := List.mem_map.1 hm
    have hlt := hmaLt ma h1
    rw [h2] at hlt
    cases hkp : ma.keep with
    | false =>
      obtain ⟨sb, hsb, hd⟩ := hl
      rw [List.getElem?_append_left (by rw [e1]; exact hlt), ← h2, e3 ma h1 hkp] at hsb
      simp only [Option.some.injEq] at hsb
      exact absurd hsb.symm hd
    | true =>
      obtain ⟨m, hm'⟩ := e4 ma h1 hkp
      rcases hfind hlt with ⟨_, h5⟩ | h5
      · exact absurd h2 (h5 _ hm')
      · exact h5
  have hnewat : ∀ {β : Nat}, live (hE ++ (resAll sg.results (S.n + ar.pre.length) S.heap.length).2) β → S.heap.length ≤ β → ∃ o, os[β - S.heap.length]? = some o ∧ μ' β = o := by
    intro β hl hge
    have hlt := live_lt hl
    rw [List.length_append, e1, hblen] at hlt
    have hj : β - S.heap.length < os.length := by omega
    refine ⟨_, List.getElem?_eq_getElem hj, ?_⟩
    have := hμnew _ _ (List.getElem?_eq_getElem hj)
    rw [show S.heap.length + (β - S.heap.length) = β from by omega] at this
    exact this
  have hkeptOf : ∀ {p : Nat × MV}, p ∈ upd → ∃ (i : Nat) (ma : MA) (x : HM) (j : Nat) (k : MV), ar.mas[i]? = some ma ∧ hms[i]? = some x ∧ ma.β = p.1 ∧ ks[j]? = some k ∧ (ma.keep = true ∧ j = cntK ar.mas i) ∧
        ∀ b, p.2.own b → k.own b ∨ (ma.at? ≠ none ∧ (μ p.1).own b ∧ ¬ x.m.own b) := by
    intro p hp'
    rw [← hupd] at hp'
    exact updMA_kept c (mas := ar.mas) (hs := hms) (off := 0) (fun i ma hi => by simpa using hi) (fun i x hi => by simpa using hi) b1.length hkept hp'
  have hupdMem : ∀ {p : Nat × MV}, p ∈ upd → p.1 ∈ ar.mas.map MA.β ∧ p.2.v = (μ p.1).v ∧ ∃ ext, p.2.hist = (μ p.1).hist ++ ext := by
    intro p hp'
    rw [← hupd] at hp'
    obtain ⟨⟨ma, h1, h2, _⟩, h3, h4, _⟩ := updMA_mem hp'
    exact ⟨List.mem_map.2 ⟨ma, h1, h2⟩, h3, h4⟩
  have m : Move S μ w (ar.mas.map MA.β) (hE ++ (resAll sg.results (S.n + ar.pre.length) S.heap.length).2) μ' w' := by
    refine ⟨fun γ hγ => ?_, by simp [e1], fun β hβ hn => ⟨?_, ?_⟩, fun β hβ => ?_, hkeep.os, hkeep.tape, hkeep.output, hkeep.size, fun b hb hn => ?_, fun β hl ht b hb => ?_, fun β γ hβ hγ tβ tγ hne b hb hb' => ?_⟩
    · obtain ⟨ma, h1, h2⟩ := List.mem_map.1 hγ
      obtain ⟨sb, g1, g2, _⟩ := b2 ma h1
      exact ⟨sb, by rw [← h2]; exact g1, fit_mine g2⟩
    · rw [List.getElem?_append_left (by rw [e1]; exact hβ), e2 β hn]
    · rcases hfind hβ with ⟨h5, _⟩ | ⟨p, h5, h6, _⟩
      · exact h5
      · exact absurd (by rw [← h6]; exact (hupdMem h5).1) hn
    · rcases hfind hβ with ⟨h5, _⟩ | ⟨p, h5, h6, h7⟩
      · rw [h5]; exact ⟨rfl, [], by simp⟩
      · rw [h7, ← h6]; exact (hupdMem h5).2
    · refine hkeep.block b hb fun ⟨x, hx, ho⟩ => ?_
      obtain ⟨γ, h5, h6⟩ := hfromT b ⟨x, hx, ho⟩
      exact hn γ h5 h6
    · rcases ht with ht | ht
      · obtain ⟨p, h5, h6, h7⟩ := hturn hl ht
        rw [h7] at hb
        obtain ⟨i, ma, x, j, k, g1, g2, g3, g4, g5, g6⟩ := hkeptOf h5
        rcases g6 b hb with h8 | ⟨_, h8, _⟩
        · rcases hnewown k (by simp [List.mem_of_getElem? g4]) b h8 with h9 | h9
          · exact .inl h9
          · exact .inr (hfromT b h9)
        · exact .inr ⟨p.1, (hupdMem h5).1, h8⟩
      · obtain ⟨o, h5, h6⟩ := hnewat hl ht
        rw [h6] at hb
        rcases hnewown o (by simp [List.mem_of_getElem? h5]) b hb with h9 | h9
        · exact .inl h9
        · exact .inr (hfromT b h9)
    · -- no block belongs to two
      have ofT : ∀ {β : Nat}, live (hE ++ (resAll sg.results (S.n + ar.pre.length) S.heap.length).2) β → (β ∈ ar.mas.map MA.β ∨ S.heap.length ≤ β) → ∀ b, (μ' β).own b →
          (∃ (q : Nat) (z : MV), (os ++ ks)[q]? = some z ∧ z.own b ∧ ((S.heap.length ≤ β ∧ q = β - S.heap.length ∧ q < os.length) ∨ (β < S.heap.length ∧ ∃ j, q = os.length + j ∧ ∃ (i : Nat) (ma : MA) (x : HM), ar.mas[i]? = some ma ∧ hms[i]? = some x ∧ ma.β = β ∧ ks[j]? = some z ∧ (ma.keep = true ∧ j = cntK ar.mas i)))) ∨
          (∃ (i : Nat) (ma : MA) (x : HM) (j : Nat) (k : MV), ar.mas[i]? = some ma ∧ hms[i]? = some x ∧ ma.β = β ∧ (μ β).own b ∧ ¬ x.m.own b) := by
        intro β hl ht b hb
        rcases ht with ht | ht
        · obtain ⟨p, h5, h6, h7⟩ := hturn hl ht
          rw [h7] at hb
          obtain ⟨i, ma, x, j, k, g1, g2, g3, g4, g5, g6⟩ := hkeptOf h5
          have hlt : β < S.heap.length := by rw [← h6, ← g3]; exact hmaLt ma (List.mem_of_getElem? g1)
          rcases g6 b hb with h8 | ⟨_, h8, h9⟩
          · exact .inl ⟨os.length + j, k, by rw [List.getElem?_append_right (by omega)]; simpa using g4, h8, .inr ⟨hlt, j, rfl, i, ma, x, g1, g2, g3.trans h6, g4, g5⟩⟩
          · exact .inr ⟨i, ma, x, j, k, g1, g2, g3.trans h6, by rw [← h6]; exact h8, h9⟩
        · obtain ⟨o, h5, h6⟩ := hnewat hl ht
          rw [h6] at hb
          have hj := (List.getElem?_eq_some_iff.1 h5).1
          exact .inl ⟨β - S.heap.length, o, by rw [List.getElem?_append_left hj]; exact h5, hb, .inl ⟨ht, rfl, hj⟩⟩
      have key : ∀ {β γ : Nat}, β ≠ γ → (∃ (q : Nat) (z : MV), (os ++ ks)[q]? = some z ∧ z.own b ∧ ((S.heap.length ≤ γ ∧ q = γ - S.heap.length ∧ q < os.length) ∨ (γ < S.heap.length ∧ ∃ j, q = os.length + j ∧ ∃ (i : Nat) (ma : MA) (x : HM), ar.mas[i]? = some ma ∧ hms[i]? = some x ∧ ma.β = γ ∧ ks[j]? = some z ∧ (ma.keep = true ∧ j = cntK ar.mas i)))) →
          (∃ (i : Nat) (ma : MA) (x : HM) (j : Nat) (k : MV), ar.mas[i]? = some ma ∧ hms[i]? = some x ∧ ma.β = β ∧ (μ β).own b ∧ ¬ x.m.own b) → False := by
        intro β γ hne ⟨q, z, hz, hzb, _⟩ ⟨i, ma, x, j, k, g1, g2, g3, g4, g5⟩
        have hl : live S.heap ma.β := (b2 ma (List.mem_of_getElem? g1)).live
        rw [← g3] at g4
        rcases hnewown z (List.mem_of_getElem? hz) b hzb with h9 | ⟨y, hy, hyb⟩
        · have := h.own_lt hl g4; omega
        · have := c.whose g1 hy hyb g4
          rw [g2] at this
          simp only [Option.some.injEq] at this
          subst this
          exact g5 hyb
      rcases ofT hβ tβ b hb with A | B
      · rcases ofT hγ tγ b hb' with A' | B'
        · obtain ⟨q, z, hz, hzb, hq⟩ := A
          obtain ⟨q', z', hz', hzb', hq'⟩ := A'
          by_cases hqq : q = q'
          · subst hqq
            rcases hq with ⟨p1, p2, p3⟩ | ⟨p1, j, p2, i, ma, x, p3, p4, p5, p6, p7⟩
            · rcases hq' with ⟨r1, r2, r3⟩ | ⟨r1, j', r2, _⟩
              · exact hne (by omega)
              · omega
            · rcases hq' with ⟨r1, r2, r3⟩ | ⟨r1, j', r2, i', ma', x', r3, r4, r5, r6, r7⟩
              · omega
              · -- the same thing handed back for two
                refine hne ?_
                rw [← p5, ← r5]
                have := cntK_inj p3 r3 p7.1 r7.1 (by rw [← p7.2, ← r7.2]; omega)
                subst this
                rw [p3] at r3
                simp only [Option.some.injEq] at r3
                rw [r3]
          · exact hapart q q' z z' hz hz' hqq b hzb hzb'
        · exact key hne.symm A B'
      · rcases ofT hγ tγ b hb' with A' | B'
        · exact key hne A' B
        · obtain ⟨i, ma, x, j, k, g1, g2, g3, g4, g5⟩ := B
          obtain ⟨i', ma', x', j', k', g1', g2', g3', g4', g5'⟩ := B'
          exact h.inj β γ (by rw [← g3]; exact (b2 ma (List.mem_of_getElem? g1)).live) (by rw [← g3']; exact (b2 ma' (List.mem_of_getElem? g1')).live) hne b g4 g4'
  -- the state behind the call
  have hlen2 : ρ2.length = (ρ ++ σ1 ++ (d1 ++ d2) ++ σ3).length := by rw [hρ2]
  obtain ⟨τ, hτ⟩ : ∃ τ, ρ2 = ρ ++ τ := ⟨σ1 ++ (d1 ++ d2) ++ σ3, by rw [hρ2]; simp⟩
  have hR1 := R_env h τ
  rw [← hτ] at hR1
  have hn2 : S.n + τ.length = ρ2.length := by rw [hτ, List.length_append, h.len]
  rw [hn2] at hR1
  have m1 : Move { S with n := ρ2.length } μ w (ar.mas.map MA.β) (hE ++ (resAll sg.results (S.n + ar.pre.length) S.heap.length).2) μ' w' := ⟨m.tlive, m.len, m.same, m.mu, m.os, m.tape, m.output, m.size, m.blk, m.own, m.inj⟩
  generalize hheap : hE ++ (resAll sg.results (S.n + ar.pre.length) S.heap.length).2 = heap' at *
  have hl' : heap'.length = S.heap.length + (resAll sg.results (S.n + ar.pre.length) S.heap.length).2.length := by rw [← hheap, List.length_append, e1]
  obtain ⟨r1, r2, _, r3⟩ := resAll_ok (F' := Fz X heap' μ' w') (hl' := heap'.length) (μ' := μ') (ρ' := ρ2) (Mine := fun b => w0.heap.size ≤ b ∨ M b) (n := S.n + ar.pre.length) (h := S.heap.length) hres
    (fun i d hi => hext2 (hnl i d (by rw [List.getElem?_append_left (List.getElem?_eq_some_iff.1 hi).1]; exact hi))) hμnew (by rw [hl', hblen]; exact Nat.le_refl _) (fun u hu b hb => hmineNew u (by simp [hu]) b hb)
  have hR2 := R_move hR1 m1 (fun _ β sb hb ht => by
    rcases Nat.lt_or_ge β S.heap.length with hlt | hge
    · have hβ : β ∈ ar.mas.map MA.β := by
        rcases ht with ht | ht
        · exact ht
        · exact absurd ht (by simpa using hlt)
      by_cases hd : sb = .dead
      · subst hd; trivial
      · obtain ⟨p, h5, h6, h7⟩ := hturn ⟨sb, hb, hd⟩ hβ
        have hE1 := hEs (Fz X heap' μ' w') heap'.length
        rw [hupd] at hE1
        obtain ⟨_, _, _, _, e5⟩ := hE1
        obtain ⟨sb', g1, g2⟩ := e5 p h5
        rw [h6] at g1
        rw [← hheap, List.getElem?_append_left (by rw [e1]; exact hlt), g1] at hb
        simp only [Option.some.injEq] at hb
        subst hb
        rw [h7]
        exact g2
    · rw [← hheap, List.getElem?_append_right (by rw [e1]; exact hge), e1] at hb
      have := r3 _ sb hb
      rw [show S.heap.length + (β - S.heap.length) = β from by omega] at this
      exact this)
  have hR3 := R_put (dst := o.dst) (v := wrapG g v) (u := u) (slots := slots) hR2 (by exact hp) (by
    have hgg' : ∀ x want, g = some (x, want) → x.get ρ2 ≠ none := fun x want e => by
      have := hgg x want e
      cases hx : x.get ρ with
      | none => exact absurd hx this
      | some d => rw [hτ, Atom.get_append hx]; simp
    refine wrapG_ok hgg' (by rw [hτ, guard_append hgg]; exact hg) ?_
    unfold resSV at hv
    have hrl := resAll_length sg.results (S.n + ar.pre.length) S.heap.length
    split at hv
    · rename_i ag cs e
      rw [e] at hrl r1
      have hrl1 : sg.results.length = 1 := hrl.symm
      rw [if_pos hrl1] at hshape
      subst hshape
      have hPV := r1.1
      unfold mkSV at hv
      cases ag with
      | true => simp only [if_true, Option.some.injEq] at hv; subst hv; exact hPV
      | false =>
        obtain ⟨c', rfl, hc'⟩ := hPV
        simp only [Bool.false_eq_true, if_false, Option.some.injEq] at hv
        subst hv
        exact hc'
    · rename_i hne
      have hrl2 : sg.results.length ≠ 1 := by
        intro e
        rw [e] at hrl
        obtain ⟨⟨ag, cs⟩, hq⟩ := List.length_eq_one_iff.1 hrl
        exact hne ag cs hq
      rw [if_neg hrl2] at hshape
      simp only [Option.some.injEq] at hv
      subst hv hshape
      exact ⟨_, rfl, by simpa using r1⟩)
  exact hK _ _ _ hR3 ⟨⟨u, rfl⟩, m⟩

end
end Vs
