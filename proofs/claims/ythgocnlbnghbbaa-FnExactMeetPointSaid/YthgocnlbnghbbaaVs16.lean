/-
  Functions: from a function's text to its contract.
-/
import Derived.Test.YthgocnlbnghbbaaVs15
import Derived.Conc.MuLone
namespace Vs
open Go Go.RowKit

def cellsAt (n : Nat) : List CT → List (CT × Atom)
  | [] => []
  | t :: ts => (t, .v n) :: cellsAt (n + 1) ts

def initSlots : List PK → Nat → List SV
  | [], _ => []
  | .val ag ts :: ps, n => (if ag then .agg ((cellsAt n ts).map fun (c, x) => .s (.dat c x)) else match cellsAt n ts with | [(c, x)] => dat c x | _ => SV.undef) :: initSlots ps (n + ts.length)
  | .ptr ts :: ps, n => .c (.s (.fcel (cellsAt n ts) 0)) :: initSlots ps (n + ts.length)
def initCount : List PK → Nat
  | [] => 0
  | .val _ ts :: ps => ts.length + initCount ps
  | .ptr ts :: ps => ts.length + initCount ps
def initSS (ps : List PK) (ntmps : Nat) : SS := { n := initCount ps, slots := initSlots ps 0 ++ List.replicate (ntmps - ps.length) SV.undef, heap := [] }

def isS1 : CT → Bool
  | .s1 _ => true
  | _ => false
/-- The atom of a result's cell, and the own block that it hands over. -/
def resCell (S : SS) : RK → CV → Res (Atom × Option Nat)
  | .cell t, .s (.dat t' x) => if t' = .b t then .ok (x, none) else .error "result cell"
  | .own t e, .s (.own β) =>
    match S.heap[β]? with
    | some (.row t' e' x) => if t = t' ∧ e = e' ∧ isS1 t = true then .ok (x, some β) else .error "result row"
    | _ => .error "result block"
  | .own (.s1 _) _, .s .nils => .ok (.c (.lst []), none)
  | _, _ => .error "result"
def resCellsA (S : SS) : List RK → List CV → Res (List Atom × List (Option Nat))
  | [], [] => .ok ([], [])
  | r :: rs, c :: cs => do
    let (x, o) ← resCell S r c
    let (xs, os) ← resCellsA S rs cs
    .ok (x :: xs, (match r with | .own _ _ => o :: os | .cell _ => os))
  | _, _ => .error "results"
def resVarS (P : Program) (S : SS) : ResultVar → Res (Bool × List CV)
  | .tmp t => do
    let s ← need S.slots[t]? "result slot"
    need (svCells s) "result value"
  | .cell p t => do
    let agg ← need (isAggB P t) "result type"
    let sz ← need (sizeB P t) "result size"
    match S.slots[p]? with
    | some (.c (.s (.vptr β off))) =>
      match S.heap[β]? with
      | some (.var cs) =>
        let part := (cs.drop off).take sz
        if part.length = sz ∧ 0 < sz ∧ (agg = true ∨ sz = 1) then .ok (agg, part) else .error "result part"
      | _ => .error "result variable"
    | _ => .error "result pointer"
def retAll (P : Program) (S : SS) : List (Bool × List RK) → List ResultVar → Res (List Atom × List (Option Nat))
  | [], [] => .ok ([], [])
  | (ag, rks) :: rs, r :: vs => do
    let (ag', cs) ← resVarS P S r
    if ag = ag' then do
      let (xs, os) ← resCellsA S rks cs
      let (ys, ps) ← retAll P S rs vs
      .ok (xs ++ ys, os ++ ps)
    else .error "result shape"
  | _, _ => .error "number of results"
def retAtoms (P : Program) (S : SS) (rs : List (Bool × List RK)) (vs : List ResultVar) : Res (List Atom) := do
  let (xs, os) ← retAll P S rs vs
  if (os.filterMap id).Nodup then .ok xs else .error "an own row twice in a result"

def symFun (E : Env) (fn : Func) (c : Code) (sg : Sig) (h : H) : Res T :=
  symCode E c h (initSS sg.params fn.ntmps) (fun e S => match e with | .ret => (do let xs ← retAtoms E.P S sg.results fn.results.toList; .ok (0, xs)) | .exit _ => .error "exit")
    (fun S => do let xs ← retAtoms E.P S sg.results fn.results.toList; .ok (.out 0 xs))

section
variable {P : Program} {X M : Nat → Prop} {w0 w : World} {S : SS} {μ : Mu} {ρ : List D} {a : Act}

theorem cellsAt_length : ∀ (n : Nat) (ts : List CT), (cellsAt n ts).length = ts.length
  | _, [] => rfl
  | n, t :: ts => by simp [cellsAt, cellsAt_length (n + 1) ts]

theorem cellsAt_ok {F : Nat → Prop} {hl : Nat} : ∀ {ts : List CT} {vs : List Value} {d1 d0 d2 : List D}, RdCs (RdC w F) ts vs d1 → CVRs w F hl μ (d0 ++ d1 ++ d2) ((cellsAt d0.length ts).map fun (c, x) => .s (.dat c x)) vs
  | [], [], [], _, _, _ => trivial
  | t :: ts, v :: vs, d :: d1, d0, d2, ⟨h1, h2⟩ => by
    refine ⟨⟨d, by simp [Atom.get], h1⟩, ?_⟩
    have := cellsAt_ok (hl := hl) (d0 := d0 ++ [d]) (d2 := d2) h2
    simpa using this

theorem initSlots_ok {F : Nat → Prop} {hl : Nat} : ∀ {ps : List PK} {vs : List Value} {d0 ds : List D}, ArgsR w F ps vs ds → (initSlots ps d0.length).length = ps.length ∧ vs.length = ps.length ∧ ds.length = initCount ps ∧
    ∀ (i : Nat) s, (initSlots ps d0.length)[i]? = some s → ∃ v, vs[i]? = some v ∧ SVR w F hl μ (d0 ++ ds) s v
  | [], [], d0, ds, h => by simp only [ArgsR] at h; subst h; simp [initSlots, initCount]
  | .val ag ts :: ps, v :: vs, d0, ds, ⟨d1, d2, e, hv, hr⟩ => by
    subst e
    have hlen : d1.length = ts.length := by
      cases ag with
      | true => obtain ⟨arr, _, hc⟩ := hv; exact hc.length.2
      | false => obtain ⟨t, d, rfl, rfl, _⟩ := hv; rfl
    obtain ⟨i1, i2, i3, i4⟩ := initSlots_ok (hl := hl) (d0 := d0 ++ d1) hr
    rw [List.length_append, hlen] at i1 i4
    refine ⟨by simp [initSlots, i1], by simp [i2], by simp [initCount, i3, hlen], fun i s hi => ?_⟩
    cases i with
    | zero =>
      simp only [initSlots, List.getElem?_cons_zero, Option.some.injEq] at hi
      subst hi
      refine ⟨v, rfl, ?_⟩
      cases ag with
      | true =>
        obtain ⟨arr, rfl, hc⟩ := hv
        have := cellsAt_ok (hl := hl) (μ := μ) (d0 := d0) (d2 := d2) hc
        exact ⟨arr, rfl, by simpa using this⟩
      | false =>
        obtain ⟨t, d, rfl, rfl, hc⟩ := hv
        exact ⟨d, by simp [Atom.get], hc⟩
    | succ i =>
      simp only [initSlots, List.getElem?_cons_succ] at hi ⊢
      obtain ⟨u, hu, hs⟩ := i4 i s hi
      exact ⟨u, hu, by simpa using hs⟩
  | .ptr ts :: ps, v :: vs, d0, ds, ⟨d1, d2, e, hv, hr⟩ => by
    subst e
    obtain ⟨b, o, us, rfl, hb, hcell, hc⟩ := hv
    have hlen := hc.length
    obtain ⟨i1, i2, i3, i4⟩ := initSlots_ok (hl := hl) (d0 := d0 ++ d1) hr
    rw [List.length_append, hlen.2] at i1 i4
    refine ⟨by simp [initSlots, i1], by simp [i2], by simp [initCount, i3, hlen.2], fun i s hi => ?_⟩
    cases i with
    | zero =>
      simp only [initSlots, List.getElem?_cons_zero, Option.some.injEq] at hi
      subst hi
      refine ⟨_, rfl, b, o, rfl, hb, fun j t x hj => ?_⟩
      have := cellsAt_ok (hl := hl) (μ := μ) (d0 := d0) (d2 := d2) hc
      obtain ⟨u, hu, hr⟩ := this.get (j := j) (c := .s (.dat t x)) (by rw [List.getElem?_map, hj]; rfl)
      obtain ⟨d, hd, hrd⟩ := hr
      exact ⟨u, d, hcell j u hu, by simpa using hd, hrd⟩
    | succ i =>
      simp only [initSlots, List.getElem?_cons_succ] at hi ⊢
      obtain ⟨u, hu, hs⟩ := i4 i s hi
      exact ⟨u, hu, by simpa using hs⟩

theorem init_ok {ps : List PK} {vs : List Value} {ds : List D} {ntmps : Nat} (h : ArgsR w (fun b => b < w.heap.size) ps vs ds) :
    R (fun _ => False) (fun _ => False) w (initSS ps ntmps) (fun _ => Go.undef) ds { tmps := vs.toArray ++ Array.replicate (ntmps - vs.toArray.size) Go.undef, defers := [] } w := by
  have hF : Fz (fun _ => False) [] (fun _ => Go.undef) w = fun b => b < w.heap.size := by
    funext b
    simp only [Fz, not_false_eq_true, and_true, eq_iff_iff, and_iff_left_iff_imp]
    intro _ β hl
    exact absurd (live_lt hl) (by simp)
  obtain ⟨i1, i2, i3, i4⟩ := initSlots_ok (hl := 0) (μ := fun _ => Go.undef) (d0 := []) h
  simp only [List.length_nil] at i1 i4
  refine ⟨Keeps.refl _ _, i3, by simp [initSS, i1, i2], rfl, fun i s hi => ?_, fun β sb hb => (by simp [initSS] at hb), fun _ h => h.elim, fun β γ hl => absurd (live_lt hl) (by simp [initSS])⟩
  rw [show (initSS ps ntmps).heap = [] from rfl, hF]
  simp only [initSS] at hi
  rcases Nat.lt_or_ge i (initSlots ps 0).length with hlt | hge
  · rw [List.getElem?_append_left hlt] at hi
    obtain ⟨v, hv, hs⟩ := i4 i s hi
    have hlv : i < vs.length := by omega
    have : (vs.toArray ++ Array.replicate (ntmps - vs.toArray.size) Go.undef).getD i Go.undef = v := by
      have e : vs[i] = v := by rw [List.getElem?_eq_getElem hlv] at hv; simpa using hv
      simp [Array.getD, hlv, e]
      intro h'
      omega
    rw [this]
    simpa using hs
  · rw [List.getElem?_append_right hge] at hi
    have := List.mem_of_getElem? hi
    rw [List.eq_of_mem_replicate this]
    trivial

/-! ### Results -/
theorem rowRd_s1 {F F' : Nat → Prop} {t : CT} {xs : List Value} {ls : List (List D)} (ht : isS1 t = true) (h : rowRd w F t xs ls) : rowRd w F' t xs ls := by
  cases t with
  | s1 _ => exact h
  | _ => cases ht

theorem resCell_ok (h : R X M w0 S μ ρ a w) {r : RK} {c : CV} {x : Atom} {o : Option Nat} {v : Value} (hc : resCell S r c = .ok (x, o)) (hv : CVR w (Fz X S.heap μ w) S.heap.length μ ρ c v) :
    (∃ t, r = .cell t ∧ RdB t v (x.ev ρ)) ∨ (∃ t e, r = .own t e ∧ (∀ F, OwnD w F t e v (x.ev ρ)) ∧ ((o = none ∧ blkOf v = none) ∨ ∃ β, o = some β ∧ live S.heap β ∧ v = μ β ∧ ∀ b, blkOf v = some b → w0.heap.size ≤ b ∨ M b)) := by
  unfold resCell at hc
  split at hc
  · split at hc
    · rename_i ht
      subst ht
      simp only [Except.ok.injEq, Prod.mk.injEq] at hc
      obtain ⟨rfl, rfl⟩ := hc
      obtain ⟨d, hx, hd⟩ := hv
      exact .inl ⟨_, rfl, by rw [Atom.ev_of_get hx]; exact hd⟩
    · cases hc
  · split at hc
    · rename_i β t' e' y hrow
      split at hc
      · rename_i hte
        obtain ⟨ht0, ht1, ht⟩ := hte
        subst ht0 ht1
        simp only [Except.ok.injEq, Prod.mk.injEq] at hc
        obtain ⟨rfl, rfl⟩ := hc
        obtain ⟨_, rfl, _⟩ := hv
        obtain ⟨n, xs, ls, g1, g2, g3, g4, g5⟩ := h.blocks _ _ hrow
        refine .inr ⟨_, _, rfl, fun F => ⟨n, xs, ls, g1, by rw [Atom.ev_of_get g3], g4, ?_⟩, .inr ⟨_, rfl, ⟨_, hrow, by simp⟩, rfl, g2⟩⟩
        exact rowRd_s1 ht g5
      · cases hc
    · cases hc
  · simp only [Except.ok.injEq, Prod.mk.injEq] at hc
    obtain ⟨rfl, rfl⟩ := hc
    simp only [CVR, CVR0] at hv
    subst hv
    exact .inr ⟨_, _, rfl, fun F => ⟨0, [], [], ⟨by simp, .inl ⟨rfl, rfl⟩⟩, rfl, rfl, rfl⟩, .inl ⟨rfl, rfl⟩⟩
  · cases hc

/-- What is told of the own slices of a result. -/
def OwnsOk (M : Nat → Prop) (w0 : World) (S : SS) (μ : Mu) (os : List (Option Nat)) (vs : List Value) : Prop :=
  os.length = vs.length ∧ ∀ (j : Nat) o v, os[j]? = some o → vs[j]? = some v → (o = none ∧ blkOf v = none) ∨ ∃ β, o = some β ∧ live S.heap β ∧ v = μ β ∧ ∀ b, blkOf v = some b → w0.heap.size ≤ b ∨ M b

theorem OwnsOk.append {os ps : List (Option Nat)} {vs us : List Value} (h : OwnsOk M w0 S μ os vs) (k : OwnsOk M w0 S μ ps us) : OwnsOk M w0 S μ (os ++ ps) (vs ++ us) := by
  refine ⟨by simp [h.1, k.1], fun j o v ho hv => ?_⟩
  rcases Nat.lt_or_ge j os.length with hj | hj
  · rw [List.getElem?_append_left hj] at ho
    rw [List.getElem?_append_left (by rw [← h.1]; exact hj)] at hv
    exact h.2 j o v ho hv
  · rw [List.getElem?_append_right hj] at ho
    rw [List.getElem?_append_right (by rw [← h.1]; exact hj), ← h.1] at hv
    exact k.2 _ o v ho hv

theorem resCellsA_ok (h : R X M w0 S μ ρ a w) : ∀ {rks : List RK} {cs : List CV} {xs : List Atom} {os : List (Option Nat)} {vs : List Value}, resCellsA S rks cs = .ok (xs, os) → CVRs w (Fz X S.heap μ w) S.heap.length μ ρ cs vs →
    ∃ us, (∀ F, ResCs w F rks vs (evs ρ xs) us) ∧ OwnsOk M w0 S μ os us
  | [], [], xs, os, [], hx, _ => by
    simp only [resCellsA, Except.ok.injEq, Prod.mk.injEq] at hx
    obtain ⟨rfl, rfl⟩ := hx
    exact ⟨[], fun _ => trivial, rfl, by simp⟩
  | r :: rs, c :: cs, xs, os, v :: vs, hx, ⟨h1, h2⟩ => by
    simp only [resCellsA] at hx
    obtain ⟨⟨x, o⟩, g1, g2⟩ := bind_ok hx
    obtain ⟨⟨ys, ps⟩, g3, g4⟩ := bind_ok g2
    simp only [Except.ok.injEq, Prod.mk.injEq] at g4
    obtain ⟨rfl, rfl⟩ := g4
    obtain ⟨us, k1, k2⟩ := resCellsA_ok h g3 h2
    rcases resCell_ok h g1 h1 with ⟨t, rfl, hr⟩ | ⟨t, e, rfl, hr, ho⟩
    · exact ⟨us, fun F => ⟨hr, k1 F⟩, k2⟩
    · refine ⟨v :: us, fun F => ⟨rfl, hr F, k1 F⟩, by simp [k2.1], fun j o' u ho' hu => ?_⟩
      cases j with
      | zero =>
        simp only [List.getElem?_cons_zero, Option.some.injEq] at ho' hu
        subst ho' hu
        exact ho
      | succ j => simp only [List.getElem?_cons_succ] at ho' hu; exact k2.2 j o' u ho' hu
  | [], _ :: _, _, _, _, hx, _ => by simp [resCellsA] at hx
  | _ :: _, [], _, _, _, hx, _ => by simp [resCellsA] at hx

def resVarRun (tmps : Array Value) : ResultVar → Sem Value
  | .tmp t => pure (tmps.getD t Go.undef)
  | .cell a t => do loadVar t (← asAddr (tmps.getD a Go.undef))

theorem resVarS_ok (h : R X M w0 S μ ρ a w) {r : ResultVar} {ag : Bool} {cs : List CV} (hr : resVarS P S r = .ok (ag, cs)) : ∃ v, (resVarRun a.tmps r).run P w = .ok v w ∧ PVR w (Fz X S.heap μ w) S.heap.length μ ρ ag cs v := by
  cases r with
  | tmp t =>
    simp only [resVarS] at hr
    obtain ⟨s, g1, g2⟩ := bind_ok hr
    have hs := h.slots t s (need_ok g1)
    have hc := need_ok g2
    refine ⟨_, rfl, ?_⟩
    unfold svCells at hc
    split at hc <;> simp only [Option.some.injEq, Prod.mk.injEq, reduceCtorEq] at hc
    · obtain ⟨rfl, rfl⟩ := hc; exact ⟨_, rfl, hs⟩
    · obtain ⟨rfl, rfl⟩ := hc; exact hs
  | cell p t =>
    simp only [resVarS] at hr
    obtain ⟨agg, g1, g2⟩ := bind_ok hr
    obtain ⟨sz, g3, g4⟩ := bind_ok g2
    split at g4
    · rename_i β off hs
      split at g4
      · rename_i cs' hcs
        split at g4
        · rename_i hlen
          simp only [Except.ok.injEq, Prod.mk.injEq] at g4
          obtain ⟨rfl, rfl⟩ := g4
          obtain ⟨_, b, hb, hp⟩ := h.slots p _ hs
          obtain ⟨b', arr, T, hb', _, hheap, hC⟩ := h.blocks β _ hcs
          rw [hb] at hb'
          simp only [Value.pointer.injEq, Option.some.injEq, Addr.mk.injEq, and_true] at hb'
          subst hb'
          have hC' := (hC.drop off).take sz
          have hvl : ((arr.toList.drop off).take sz).length = sz := by rw [← hC'.length]; exact hlen.1
          have hl := loadVar_ok (P := P) (w := w) (b := b) (o := off) (need_ok g1) (need_ok g3) hvl (fun j u hu => by rw [cell_of_cells hheap]; exact list_of_arr hu) hlen.2.1 w rfl
          refine ⟨if agg then .agg ((arr.toList.drop off).take sz).toArray else ((arr.toList.drop off).take sz).headD Go.undef, ?_, ?_⟩
          · simp only [resVarRun, hp, asAddr, Sem.run_bind, Sem.run_pure, Result.andThen_ok]
            exact hl
          · cases agg with
            | true => exact ⟨_, rfl, by simpa using hC'⟩
            | false =>
              rcases hlen.2.2 with h' | h'
              · cases h'
              · obtain ⟨c, hc⟩ := List.length_eq_one_iff.1 (hlen.1.trans h')
                rw [hc] at hC' ⊢
                obtain ⟨u, hu⟩ := List.length_eq_one_iff.1 (hvl.trans h')
                rw [hu] at hC' ⊢
                exact ⟨c, rfl, hC'.1⟩
        · cases g4
      · cases g4
    · cases g4

theorem retAll_ok (h : R X M w0 S μ ρ a w) : ∀ {rs : List (Bool × List RK)} {rvs : List ResultVar} {xs : List Atom} {os : List (Option Nat)}, retAll P S rs rvs = .ok (xs, os) →
    ∃ vs us, (rvs.mapM (resVarRun a.tmps)).run P w = .ok vs w ∧ (∀ F, ResAll w F rs vs (evs ρ xs) us) ∧ OwnsOk M w0 S μ os us ∧ vs.length = rvs.length ∧ rs.length = rvs.length
  | [], [], xs, os, hx => by
    simp only [retAll, Except.ok.injEq, Prod.mk.injEq] at hx
    obtain ⟨rfl, rfl⟩ := hx
    exact ⟨[], [], rfl, fun _ => ⟨rfl, rfl⟩, ⟨rfl, by simp⟩, rfl, rfl⟩
  | (ag, rks) :: rs, r :: rvs, xs, os, hx => by
    simp only [retAll] at hx
    obtain ⟨⟨ag', cs⟩, g1, g2⟩ := bind_ok hx
    dsimp only at g2
    split at g2
    · rename_i hag
      subst hag
      obtain ⟨⟨ys, ps⟩, g3, g4⟩ := bind_ok g2
      dsimp only at g4
      obtain ⟨⟨zs, qs⟩, g5, g6⟩ := bind_ok g4
      simp only [Except.ok.injEq, Prod.mk.injEq] at g6
      obtain ⟨rfl, rfl⟩ := g6
      obtain ⟨v, k1, k2⟩ := resVarS_ok (P := P) h g1
      obtain ⟨vs, us, m1, m2, m3, m4, m5⟩ := retAll_ok h g5
      have hP : ∃ us', (∀ F, PRes w F ag rks v (evs ρ ys) us') ∧ OwnsOk M w0 S μ ps us' := by
        cases ag with
        | true =>
          obtain ⟨arr, rfl, hc⟩ := k2
          obtain ⟨us', n1, n2⟩ := resCellsA_ok h g3 hc
          exact ⟨us', fun F => ⟨arr, rfl, n1 F⟩, n2⟩
        | false =>
          obtain ⟨c, rfl, hc⟩ := k2
          obtain ⟨us', n1, n2⟩ := resCellsA_ok h (vs := [v]) g3 ⟨hc, trivial⟩
          refine ⟨us', fun F => ⟨?_, n1 F⟩, n2⟩
          match rks, g3 with
          | [], g3 => simp [resCellsA] at g3
          | [_], _ => rfl
          | r1 :: r2 :: _, g3 =>
            simp only [resCellsA] at g3
            obtain ⟨_, _, g3⟩ := bind_ok g3
            obtain ⟨_, g3, _⟩ := bind_ok g3
            cases g3
      obtain ⟨us', n1, n2⟩ := hP
      refine ⟨v :: vs, us' ++ us, ?_, fun F => ⟨evs ρ ys, evs ρ zs, us', us, by simp [evs], rfl, n1 F, m2 F⟩, n2.append m3, by simp [m4], by simp [m5]⟩
      simp [List.mapM_cons, k1, m1]
    · cases g2
  | [], _ :: _, _, _, hx => by simp [retAll] at hx
  | _ :: _, [], _, _, hx => by simp [retAll] at hx

end
end Vs
