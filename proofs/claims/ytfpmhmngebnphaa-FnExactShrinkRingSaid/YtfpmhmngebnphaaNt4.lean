/-
  Slices that are written out or made.
-/
import Derived.Test.YtfpmhmngebnphaaNt3
import Derived.Great.BuildSlice
namespace Vs
open Go Go.RowKit

section
variable {P : Program} {X : Nat → Prop} {M : Hand} {w0 w w' : World} {S : SS} {μ μ' : Mu} {ρ : List D} {a : Act}

structure ElemOk (P : Program) (e : TypeId) (et : ET) (i : TypeInfo) (z : Value) : Prop where
  info : P.info? e = some i
  ety : etOf P e = some et
  size : i.size = et.cells.length
  pos : 0 < i.size
  few : i.size ≤ 64
  bytes : i.bytes ≤ 64
  zero : i.zero = some z
  zs : z.cells.size = i.size

theorem elemOk_ok {e : TypeId} {et : ET} (h : elemOk P e et = true) : ∃ i z, ElemOk P e et i z := by
  unfold elemOk at h
  split at h
  · rename_i i hi
    simp only [Bool.and_eq_true, decide_eq_true_eq] at h
    obtain ⟨⟨⟨⟨h1, h2⟩, h3⟩, h4⟩, h5⟩ := h
    split at h5
    · rename_i z hz
      exact ⟨i, z, hi, h1, h2, h3.1, h3.2, h4, hz, by simpa using h5⟩
    · cases h5
  · cases h

structure ElemSl (P : Program) (e : TypeId) (et : ET) (e' : TypeId) (i : TypeInfo) : Prop where
  info : P.info? e = some i
  und : P.underlying e = some (.slice e')
  size : i.size = 1
  bytes : i.bytes ≤ 64
  zero : i.zero = some (.slice none 0 0)
  el : elemOk P e' et = true

theorem elemSl_ok {e e' : TypeId} {et : ET} (h : elemSl P e et e' = true) : ∃ i, ElemSl P e et e' i := by
  unfold elemSl at h
  split at h
  · rename_i i hi
    simp only [Bool.and_eq_true, decide_eq_true_eq] at h
    obtain ⟨⟨⟨⟨h1, h2⟩, h3⟩, h4⟩, h5⟩ := h
    refine ⟨i, hi, ?_, h2, h3, ?_, h5⟩
    · split at h1
      · rename_i x hx; simp only [beq_iff_eq] at h1; rw [hx, h1]
      · cases h1
    · split at h4
      · assumption
      · cases h4
  · cases h

theorem mkOf_ok {t : TypeId} {k : MK} (h : mkOf P t = some k) : (∃ et e, k = .row (.s1 et) e ∧ P.underlying t = some (.slice e) ∧ elemOk P e et = true) ∨ (∃ et e' e, k = .rows et e' e ∧ P.underlying t = some (.slice e) ∧ elemSl P e et e' = true) := by
  unfold mkOf at h
  split at h
  · rename_i e he
    split at h
    · split at h
      · split at h
        · rename_i hs; simp only [Option.some.injEq] at h; exact .inr ⟨_, _, _, h.symm, he, hs⟩
        · cases h
      · cases h
    · split at h
      · split at h
        · rename_i hs; simp only [Option.some.injEq] at h; exact .inl ⟨_, _, h.symm, he, hs⟩
        · cases h
      · cases h
  · cases h

/-! ### Elements -/
theorem cellAtoms0_ok {F : Nat → Prop} {hl : Nat} : ∀ {ts : List BT} {cs : List CV} {xs : List Atom} {vs : List Value}, elemPush.cellAtoms0 ts cs = .ok xs → CVRs w F hl μ ρ cs vs →
    cs.all plainCV = true ∧ (∀ x ∈ xs, x.get ρ ≠ none) ∧ RdCs RdB ts vs (evs ρ xs)
  | [], [], xs, [], h, _ => by simp only [elemPush.cellAtoms0, Except.ok.injEq] at h; subst h; exact ⟨rfl, by simp, trivial⟩
  | t :: ts, c :: cs, xs, v :: vs, h, ⟨h1, h2⟩ => by
    unfold elemPush.cellAtoms0 at h
    split at h
    · rename_i heq _; cases heq
    · rename_i t0 ts0 t' x cs0 heq heq2
      simp only [List.cons.injEq] at heq heq2
      obtain ⟨rfl, rfl⟩ := heq
      obtain ⟨rfl, rfl⟩ := heq2
      split at h
      · rename_i ht
        subst ht
        obtain ⟨ys, g1, g2⟩ := bind_ok h
        simp only [Except.ok.injEq] at g2
        subst g2
        obtain ⟨i1, i2, i3⟩ := cellAtoms0_ok g1 h2
        obtain ⟨d, hx, hd⟩ := h1
        refine ⟨by simp [plainCV, i1], fun y hy => ?_, ?_⟩
        · rcases List.mem_cons.1 hy with rfl | hy
          · rw [hx]; simp
          · exact i2 y hy
        · refine ⟨?_, i3⟩
          show RdB t v (x.ev ρ)
          rw [Atom.ev_of_get hx]
          exact hd
      · cases h
    · cases h
  | [], _ :: _, _, _, h, _ => by simp [elemPush.cellAtoms0] at h
  | _ :: _, [], _, _, h, _ => by simp [elemPush.cellAtoms0] at h

theorem elemPush_ok {F : Nat → Prop} {hl : Nat} {et : ET} {cs : List CV} {x : Atom} {ps : List Push} {vs : List Value} {σ ρ' : List D} (h : elemPush (ρ ++ σ).length et cs = .ok (x, ps)) (hc : CVRs w F hl μ ρ cs vs) (hp : pushAll ps (ρ ++ σ) = some ρ') :
    cs.all plainCV = true ∧ ∃ l, RdCs RdB et.cells vs l ∧ x.get ρ' = some (unflat et.agg l) := by
  unfold elemPush at h
  obtain ⟨xs, g1, g2⟩ := bind_ok h
  obtain ⟨i1, i2, i3⟩ := cellAtoms0_ok g1 hc
  refine ⟨i1, evs ρ xs, i3, ?_⟩
  split at g2
  · rename_i ha
    simp only [Except.ok.injEq, Prod.mk.injEq] at g2
    obtain ⟨rfl, rfl⟩ := g2
    obtain ⟨d, hd, rfl⟩ := pushAll_one hp
    rw [evs_app i2] at hd
    simp only [Prim.ev, Option.some.injEq] at hd
    subst hd
    rw [get_new rfl]
    simp [unflat, ha]
  · rename_i ha
    split at g2
    · rename_i y
      simp only [Except.ok.injEq, Prod.mk.injEq] at g2
      obtain ⟨rfl, rfl⟩ := g2
      simp only [pushAll, Option.some.injEq] at hp
      subst hp
      cases e : y.get ρ with
      | none => exact absurd e (i2 y (by simp))
      | some d => rw [Atom.get_append e]; simp [unflat, ha, evs, Atom.ev_of_get e]
    · cases g2

theorem elemsPush_ok {F : Nat → Prop} {hl : Nat} {et : ET} : ∀ {ss : List SV} {us : List Value} {σ : List D} {xs : List Atom} {ps : List Push} {ρ' : List D}, elemsPush et (ρ ++ σ).length ss = .ok (xs, ps) → ss.length = us.length →
    (∀ (j : Nat) s u, ss[j]? = some s → us[j]? = some u → SVR w F hl μ ρ s u) → pushAll ps (ρ ++ σ) = some ρ' →
    (∀ x ∈ xs, x.get ρ' ≠ none) ∧ (∀ u ∈ us, u.cells.size = et.cells.length) ∧ ∃ ls, evs ρ' xs = ls.map (unflat et.agg) ∧ ls.length = us.length ∧ RdRow RdB et.cells (us.flatMap fun v => v.cells.toList) ls
  | [], [], σ, xs, ps, ρ', h, _, _, hp => by
    simp only [elemsPush, Except.ok.injEq, Prod.mk.injEq] at h
    obtain ⟨rfl, rfl⟩ := h
    exact ⟨by simp, by simp, [], rfl, rfl, rfl⟩
  | s :: ss, u :: us, σ, xs, ps, ρ', h, hl', hs, hp => by
    simp only [elemsPush] at h
    split at h
    · rename_i ag cs hcs
      split at h
      · rename_i hag
        obtain ⟨⟨x, p⟩, g1, h⟩ := bind_ok h
        dsimp only at h
        obtain ⟨⟨ys, q⟩, g2, h⟩ := bind_ok h
        simp only [Except.ok.injEq, Prod.mk.injEq] at h
        obtain ⟨rfl, rfl⟩ := h
        obtain ⟨σ1, q1, q2, q3⟩ := push_split hp
        have e : (ρ ++ σ).length + p.length = (ρ ++ (σ ++ σ1)).length := by simp [q2]; omega
        rw [e] at g2
        rw [List.append_assoc] at q3
        obtain ⟨σ2, rfl, _⟩ := pushAll_env q3
        have hu := hs 0 s u rfl rfl
        obtain ⟨cl, hcells⟩ : ∃ cl, elemPush.cellAtoms0 et.cells cs = .ok cl := by
          unfold elemPush at g1
          obtain ⟨xs, k1, _⟩ := bind_ok g1
          exact ⟨xs, k1⟩
        have hplain : cs.all plainCV = true := by
          have : ∀ {ts : List BT} {cs : List CV} {xs : List Atom}, elemPush.cellAtoms0 ts cs = .ok xs → cs.all plainCV = true := by
            intro ts
            induction ts with
            | nil => intro cs xs h; cases cs with
              | nil => rfl
              | cons c cs => simp [elemPush.cellAtoms0] at h
            | cons t ts ih =>
              intro cs xs h
              cases cs with
              | nil => simp [elemPush.cellAtoms0] at h
              | cons c cs =>
                unfold elemPush.cellAtoms0 at h
                split at h
                · rename_i heq _; cases heq
                · rename_i heq heq2
                  simp only [List.cons.injEq] at heq heq2
                  obtain ⟨rfl, rfl⟩ := heq
                  obtain ⟨rfl, rfl⟩ := heq2
                  split at h
                  · obtain ⟨ys, g1, _⟩ := bind_ok h
                    simp [plainCV, ih g1]
                  · cases h
                · cases h
          exact this hcells
        have hC := svCells_ok hcs hplain hu
        obtain ⟨_, l, hl1, hl2⟩ := elemPush_ok g1 hC q1
        obtain ⟨i1, i2, ls, i3, i4, i5⟩ := elemsPush_ok g2 (by simpa using hl') (fun j s u h1 h2 => hs (j + 1) s u (by simpa using h1) (by simpa using h2)) q3
        have hxg : x.get (ρ ++ (σ ++ σ1) ++ σ2) = some (unflat et.agg l) := by
          have := Atom.get_append (σ := σ2) hl2
          simpa using this
        refine ⟨fun y hy => ?_, fun v hv => ?_, l :: ls, ?_, by simp [i4], ?_⟩
        · rcases List.mem_cons.1 hy with rfl | hy
          · rw [hxg]; simp
          · exact i1 y hy
        · rcases List.mem_cons.1 hv with rfl | hv
          · have := hl1.length.1; simpa using this
          · exact i2 v hv
        · have e2 : evs (ρ ++ (σ ++ σ1) ++ σ2) (x :: ys) = x.ev (ρ ++ (σ ++ σ1) ++ σ2) :: evs (ρ ++ (σ ++ σ1) ++ σ2) ys := rfl
          rw [e2, i3, Atom.ev_of_get hxg]
          rfl
        · exact ⟨_, _, by simp, hl1, i5⟩
      · cases h
    · cases h
  | [], _ :: _, _, _, _, _, _, hl, _, _ => by simp at hl
  | _ :: _, [], _, _, _, _, _, hl, _, _ => by simp at hl

/-! ### A new own block -/
/-- A new own row of new memory. -/
theorem fresh_row {o : Oper} {σ : List D} {et : ET} {e : TypeId} {x : Atom} {u : Value} {n : Nat} {xs : List Value} {ls : List (List D)} (hR : R X M w0 S μ ρ a w) (hr : (execOp a.eval o).run P w = .ok (.value u) w')
    (h1 : w'.os = w.os) (h2 : w'.tape = w.tape) (h3 : w'.output = w.output) (hsz : w.heap.size ≤ w'.heap.size) (hblk : ∀ b, b < w.heap.size → w'.heap[b]? = w.heap[b]?) (hfr : ∀ b, blkOf u = some b → w.heap.size ≤ b)
    (hown : w'.ownsRow 0 e et.cells.length u n xs) (hn : ls.length = n) (hrd : RdRow RdB et.cells xs ls) (hx : x.get (ρ ++ σ) = some (.lst (ls.map (unflat et.agg)))) :
    HopOk P X M w0 S μ o a w (ρ ++ σ) (.c (.s (.own S.heap.length))) (S.heap ++ [.row (.s1 et) e x]) [] := by
  have m : Move S μ w [] (S.heap ++ [.row (.s1 et) e x]) (fun β => if β < S.heap.length then μ β else MV.one u) w' :=
    Move.fresh (by simp) rfl (fun _ _ => rfl) (by simp) h1 h2 h3 hsz (fun b hb _ => hblk b hb) (fun b hb => by
      rcases hb with hb | ⟨u, hu, _⟩
      · exact .inl (hfr b hb)
      · simp [MV.one, MV.inner] at hu)
  refine ⟨_, _, _, _, hr, .inl rfl, m, fun β sb hb h => ?_, ?_⟩
  · have hge : S.heap.length ≤ β := by
      rcases h with h | h
      · simp at h
      · exact h
    rw [List.getElem?_append_right hge] at hb
    have hβ : β = S.heap.length := by
      have := (List.getElem?_eq_some_iff.1 hb).1
      simp at this; omega
    subst hβ
    simp only [Nat.sub_self, List.getElem?_cons_zero, Option.some.injEq] at hb
    subst hb
    simp only [Nat.lt_irrefl, if_false]
    refine ⟨rfl, n, xs, ls, hown, fun b hb => .inl (Nat.le_trans hR.keeps.size (hfr b ((MV.own_flat rfl).1 hb))), hx, hn, hrd⟩
  · obtain ⟨ad, cap, e'⟩ := ownsRow_slice hown
    exact ⟨by simp, by simp [MV.one], ad, n, cap, by simp [MV.one, e']⟩

theorem alloc_old {o : Obj} {b : Nat} (hb : b < w.heap.size) : (w.alloc o).heap[b]? = w.heap[b]? := by
  rw [show (w.alloc o).heap = w.heap.push o from rfl, Array.getElem?_push, if_neg (by omega)]

/-- Own rows, one by one. -/
theorem ownRows_ok (hR : R X M w0 S μ ρ a w) {et : ET} {e' : TypeId} : ∀ {ss : List SV} {bs : List Nat} {xs : List Atom} {us : List Value}, ownRows S et e' ss = .ok (bs, xs) → ss.length = us.length →
    (∀ (j : Nat) s u, ss[j]? = some s → us[j]? = some u → SVR w (Fz X S.heap μ w) S.heap.length μ ρ s u) →
    (∀ β ∈ bs, ∃ sb, S.heap[β]? = some sb ∧ mineB sb = true) ∧ bs.length = us.length ∧ (∀ (j : Nat) u, us[j]? = some u → ∃ β, bs[j]? = some β ∧ (u = (μ β).v ∧ (μ β).hist = []) ∧ ∃ a len cap, u = .slice a len cap) ∧
      ∃ ls : List (List (List D)), evs ρ xs = ls.map (fun l => D.lst (l.map (unflat et.agg))) ∧ ls.length = us.length ∧ RowsD w et e' us ls
  | [], bs, xs, [], h, _, _ => by
    simp only [ownRows, Except.ok.injEq, Prod.mk.injEq] at h
    obtain ⟨rfl, rfl⟩ := h
    exact ⟨by simp, rfl, by simp, [], rfl, rfl, rfl, by simp⟩
  | s :: ss, bs, xs, u :: us, h, hl, hs => by
    unfold ownRows at h
    split at h
    · rename_i heq; cases heq
    · rename_i β vs heq
      simp only [List.cons.injEq] at heq
      obtain ⟨rfl, rfl⟩ := heq
      split at h
      · rename_i t e x hb
        split at h
        · rename_i ht
          obtain ⟨rfl, rfl⟩ := ht
          obtain ⟨⟨bs', xs'⟩, g1, g2⟩ := bind_ok h
          simp only [Except.ok.injEq, Prod.mk.injEq] at g2
          obtain ⟨rfl, rfl⟩ := g2
          obtain ⟨i1, i2, i3, ls, i4, i5, i6⟩ := ownRows_ok hR g1 (us := us) (by simpa using hl) (fun j s u h1 h2 => hs (j + 1) s u (by simpa using h1) (by simpa using h2))
          obtain ⟨_, rfl, hsl⟩ := hs 0 _ u rfl rfl
          obtain ⟨h0, n, ys, l, k1, k2, k3, k4, k5⟩ := hR.blocks β _ hb
          refine ⟨fun γ hγ => ?_, by simp [i2], fun j u hj => ?_, l :: ls, ?_, by simp [i5], by simpa using i6.1, fun j u' l' hj hl' => ?_⟩
          · rcases List.mem_cons.1 hγ with rfl | hγ
            · exact ⟨_, hb, rfl⟩
            · exact i1 γ hγ
          · cases j with
            | zero => simp only [List.getElem?_cons_zero, Option.some.injEq] at hj; subst hj; exact ⟨β, rfl, ⟨rfl, h0⟩, hsl⟩
            | succ j => simp only [List.getElem?_cons_succ] at hj ⊢; exact i3 j u hj
          · show x.ev ρ :: evs ρ xs' = _
            rw [i4, Atom.ev_of_get k3]; rfl
          · cases j with
            | zero =>
              simp only [List.getElem?_cons_zero, Option.some.injEq] at hj hl'
              subst hj hl'
              exact ⟨n, ys, k1, k4, k5⟩
            | succ j => simp only [List.getElem?_cons_succ] at hj hl'; exact i6.2 j u' l' hj hl'
        · cases h
      · cases h
    · cases h
  | [], _, _, _ :: _, _, hl, _ => by simp at hl
  | _ :: _, _, _, [], _, hl, _ => by simp at hl

theorem killAll_get : ∀ {bs : List Nat} {h : List SB}, (killAll h bs).length = h.length ∧ (∀ β, β ∉ bs → (killAll h bs)[β]? = h[β]?) ∧ (∀ β, β ∈ bs → β < h.length → (killAll h bs)[β]? = some .dead)
  | [], h => ⟨rfl, fun _ _ => rfl, by simp⟩
  | b :: bs, h => by
    obtain ⟨i1, i2, i3⟩ := killAll_get (bs := bs) (h := h.set b .dead)
    refine ⟨by simp [killAll] at i1 ⊢; exact i1, fun β hβ => ?_, fun β hβ hlt => ?_⟩
    · simp only [List.mem_cons, not_or] at hβ
      have := i2 β hβ.2
      rw [List.getElem?_set_ne (fun e => hβ.1 e.symm)] at this
      exact this
    · by_cases hm : β ∈ bs
      · exact i3 β hm (by simpa using hlt)
      · have := i2 β hm
        rcases List.mem_cons.1 hβ with rfl | h'
        · rw [List.getElem?_set_self hlt] at this; exact this
        · exact absurd h' hm

/-- New own rows out of own rows (or out of nothing). -/
theorem fresh_rows {o : Oper} {σ : List D} {et : ET} {e' e : TypeId} {x : Atom} {u : Value} {n : Nat} {us : List Value} {ls : List (List (List D))} {bs : List Nat} (hR : R X M w0 S μ ρ a w) (hr : (execOp a.eval o).run P w = .ok (.value u) w')
    (ht : ∀ β ∈ bs, ∃ sb, S.heap[β]? = some sb ∧ mineB sb = true) (hnd : bs.Nodup)
    (hus : ∀ (j : Nat) u, us[j]? = some u → blkOf u = none ∨ ∃ β, bs[j]? = some β ∧ (u = (μ β).v ∧ (μ β).hist = []) ∧ ∃ a len cap, u = .slice a len cap)
    (h1 : w'.os = w.os) (h2 : w'.tape = w.tape) (h3 : w'.output = w.output) (hsz : w.heap.size ≤ w'.heap.size) (hblk : ∀ b, b < w.heap.size → (∀ β ∈ bs, ¬ (μ β).own b) → w'.heap[b]? = w.heap[b]?) (hfr : (∀ b, blkOf u = some b → w.heap.size ≤ b) ∨ False)
    (hown : w'.ownsRow 0 e 1 u n us) (hn : ls.length = n) (hrd : RowsD w et e' us ls) (hx : x.get (ρ ++ σ) = some (.lst (ls.map fun l => D.lst (l.map (unflat et.agg))))) (hall : ∀ b, b < w.heap.size → w'.heap[b]? = w.heap[b]? := by exact fun b hb => alloc_old hb) :
    HopOk P X M w0 S μ o a w (ρ ++ σ) (.c (.s (.own S.heap.length))) (killAll S.heap bs ++ [.rows et e' e 0 x]) bs := by
  obtain ⟨k1, k2, k3⟩ := killAll_get (bs := bs) (h := S.heap)
  have hfr : ∀ b, blkOf u = some b → w.heap.size ≤ b := by rcases hfr with h | h; exact h; exact h.elim
  have hbown : ∀ (j : Nat) v, us[j]? = some v → ∀ b, blkOf v = some b → ∃ β, bs[j]? = some β ∧ (μ β).own b := fun j v hj b hb => by
    rcases hus j v hj with h0 | ⟨β, g1, ⟨g2, g3⟩, _⟩
    · rw [h0] at hb; cases hb
    · exact ⟨β, g1, .inl (by rw [← g2]; exact hb)⟩
  have hold : ∀ β ∈ bs, ∀ b, (μ β).own b → b < w.heap.size := fun β hβ b hb => by
    obtain ⟨sb, g1, g2⟩ := ht β hβ
    exact hR.own_lt ⟨sb, g1, fun e => by subst e; cases g2⟩ hb
  have m : Move S μ w bs (killAll S.heap bs ++ [.rows et e' e 0 x]) (fun β => if β < S.heap.length then μ β else ⟨u, [us]⟩) w' :=
    Move.fresh ht k1 k2 (fun γ hγ => k3 γ hγ (by obtain ⟨sb, g1, _⟩ := ht γ hγ; exact (List.getElem?_eq_some_iff.1 g1).1)) h1 h2 h3 hsz hblk (fun b hb => by
      rcases hb with hb | ⟨v, hv, hb⟩
      · exact .inl (hfr b hb)
      · obtain ⟨j, hj⟩ := List.getElem?_of_mem hv
        obtain ⟨β, g1, g2⟩ := hbown j v hj b hb
        exact .inr ⟨β, List.mem_of_getElem? g1, g2⟩)
  have hin : (MV.mk u [us]).inner = us := rfl
  refine ⟨_, _, _, _, hr, .inl rfl, m, fun β sb hb h => ?_, ?_⟩
  · have hβ : β = S.heap.length ∨ (β ∈ bs ∧ sb = .dead) := by
      have hlt := (List.getElem?_eq_some_iff.1 hb).1
      simp only [List.length_append, k1, List.length_cons, List.length_nil] at hlt
      rcases h with h | h
      · have hlt2 : β < S.heap.length := by obtain ⟨sb, g1, _⟩ := ht β h; exact (List.getElem?_eq_some_iff.1 g1).1
        rw [List.getElem?_append_left (by omega), k3 β h hlt2] at hb
        simp only [Option.some.injEq] at hb
        exact .inr ⟨h, hb.symm⟩
      · left; omega
    rcases hβ with rfl | ⟨_, rfl⟩
    · rw [List.getElem?_append_right (by omega), k1, Nat.sub_self] at hb
      simp only [List.getElem?_cons_zero, Option.some.injEq] at hb
      subst hb
      simp only [Nat.lt_irrefl, if_false]
      refine ⟨rfl, n, ls, hown, fun b hb => ?_, hx, hn, ?_, ?_, ?_⟩
      · rcases hb with hb | ⟨v, hv, hb⟩
        · exact .inl (Nat.le_trans hR.keeps.size (hfr b hb))
        · obtain ⟨j, hj⟩ := List.getElem?_of_mem hv
          obtain ⟨β, g1, g2⟩ := hbown j v hj b hb
          obtain ⟨sb, g3, g4⟩ := ht β (List.mem_of_getElem? g1)
          exact hR.mine g3 g4 g2
      · refine hrd.kept fun v hv b hb => hall b ?_
        obtain ⟨j, hj⟩ := List.getElem?_of_mem hv
        obtain ⟨β, g1, g2⟩ := hbown j v hj b hb
        exact hold β (List.mem_of_getElem? g1) b g2
      · intro i j v v' hi hj hne b hb hb'
        obtain ⟨β, g1, g2⟩ := hbown i v hi b hb
        obtain ⟨γ, g3, g4⟩ := hbown j v' hj b hb'
        obtain ⟨s1, g5, g6⟩ := ht β (List.mem_of_getElem? g1)
        obtain ⟨s2, g7, g8⟩ := ht γ (List.mem_of_getElem? g3)
        refine hR.inj β γ ⟨s1, g5, fun e => by subst e; cases g6⟩ ⟨s2, g7, fun e => by subst e; cases g8⟩ (fun e => hne ?_) b g2 g4
        subst e
        exact nodup_map_inj (g := fun x => x) (by simpa using hnd) g1 g3 rfl
      · intro v hv b hb he
        obtain ⟨j, hj⟩ := List.getElem?_of_mem hv
        obtain ⟨β, g1, g2⟩ := hbown j v hj b hb
        have := hold β (List.mem_of_getElem? g1) b g2
        have := hfr b he
        omega
    · trivial
  · obtain ⟨ad, cap, e'⟩ := ownsRow_slice hown
    exact ⟨by simp [k1], by simp, ad, n, cap, by simp [e']⟩

theorem run_buildSlice0 (t e : TypeId) (hu : P.underlying t = some (.slice e)) {i : TypeInfo} (hi : P.info? e = some i) : (Instr.buildSlice t 0 #[]).run P w = .ok (.slice (some ⟨w.heap.size, 0, none⟩) 0 0) (w.alloc (.cells #[] e)) := by
  simp [Instr.buildSlice, run_underlying hu, Go.sizeOf, typeInfo, hi, newRow, Instr.fill]
  congr 2
  exact Array.eq_empty_of_size_eq_zero (by simp)

/-- A slice written out: the run. -/
theorem run_lit {t e : TypeId} {i : TypeInfo} {z : Value} {us : List Value} (hu : P.underlying t = some (.slice e)) (hi : P.info? e = some i) (hz : i.zero = some z) (hpos : 0 < i.size) (hlen : us.length * i.size ≤ 2 ^ 24) (hus : ∀ u ∈ us, u.cells.size = i.size) :
    (Instr.buildSlice t us.length ((us.zipIdx 0).map fun x => (x.2, x.1)).toArray).run P w = .ok (.slice (some ⟨w.heap.size, 0, none⟩) us.length us.length) (w.alloc (.cells (us.flatMap fun v => v.cells.toList).toArray e)) := by
  by_cases h0 : us.length = 0
  · have : us = [] := List.eq_nil_of_length_eq_zero h0
    subst this
    exact run_buildSlice0 t e hu hi
  · refine run_buildSlice w t e us.length _ _ i z hu hi hz (by omega) (fun e => ?_) ?_
    · rcases Nat.mul_eq_zero.1 e with h | h <;> omega
    · refine Go.Great.fill_whole hpos us _ hus ?_
      simp

theorem parts_zip {S : SS} {g : Guard} : ∀ {parts : List (Nat × Operand)} {l : List (Nat × SV)}, svParts S g parts = .ok l → l.map (·.1) = parts.map (·.1) ∧ l.length = parts.length
  | [], l, h => by simp only [svParts, Except.ok.injEq] at h; subst h; simp
  | (i, o) :: ps, l, h => by
    simp only [svParts] at h
    obtain ⟨a, h1, h2⟩ := bind_ok h
    obtain ⟨r, h3, h4⟩ := bind_ok h2
    simp only [Except.ok.injEq] at h4
    subst h4
    obtain ⟨i1, i2⟩ := parts_zip h3
    exact ⟨by simp [i1], by simp [i2]⟩

theorem zip_range {us : List Value} : ∀ {parts : List (Nat × Value)} {k : Nat}, parts.map (·.1) = List.range' k parts.length → us = parts.map (·.2) → parts = (us.zipIdx k).map fun x => (x.2, x.1)
  | [], k, _, h => by subst h; rfl
  | (i, v) :: ps, k, h1, h2 => by
    subst h2
    simp only [List.map_cons, List.length_cons, List.range'_succ, List.cons.injEq] at h1
    obtain ⟨rfl, h1⟩ := h1
    simp only [List.map_cons, List.zipIdx_cons, List.cons.injEq, true_and]
    exact zip_range h1 rfl

theorem PartsR.get {F : Nat → Prop} {hl : Nat} : ∀ {l : List (Nat × SV)} {q : List (Nat × Value)}, PartsR w F hl μ ρ l q → l.map (·.1) = q.map (·.1) ∧ l.length = q.length ∧ ∀ (j : Nat) s u, (l.map (·.2))[j]? = some s → (q.map (·.2))[j]? = some u → SVR w F hl μ ρ s u
  | [], [], _ => ⟨rfl, rfl, by simp⟩
  | (i, s) :: l, (j, v) :: q, ⟨h1, h2, h3⟩ => by
    obtain ⟨i1, i2, i3⟩ := PartsR.get h3
    refine ⟨by simp [h1, i1], by simp [i2], fun k s' u' hs hu => ?_⟩
    cases k with
    | zero => simp only [List.map_cons, List.getElem?_cons_zero, Option.some.injEq] at hs hu; subst hs hu; exact h2
    | succ k => simp only [List.map_cons, List.getElem?_cons_succ] at hs hu; exact i3 k s' u' hs hu

theorem build_hop {o : Oper} {t : TypeId} {len : Nat} {parts : Array (Nat × Operand)} {l : List (Nat × SV)} {v : SV} {ps : List Push} {heap' : List SB} {tch : List Nat} {ρ' : List D} (ho : o.op = .buildSlice t len parts) (hR : R X M w0 S μ ρ a w)
    (hl : svParts S none parts.toList = .ok l) (h : hopBuildSlice P S t len l = .ok (v, ps, heap', tch)) (hp : pushAll ps ρ = some ρ') : HopOk P X M w0 S μ o a w ρ' v heap' tch := by
  unfold hopBuildSlice at h
  obtain ⟨k, hk, h⟩ := bind_ok h
  have hk := need_ok hk
  split at h
  · rename_i hpar
    have hpr := svParts_ok (g := none) rfl hR.slots hl
    obtain ⟨q1, q2, q3⟩ := hpr.get
    generalize hus : (parts.toList.map fun (i, x) => (i, a.eval x)) = vals at *
    have hvl : vals.length = len := by
      have := congrArg List.length hpar.1
      rw [← q2]; simpa using this
    have hzip : vals = ((vals.map (·.2)).zipIdx 0).map fun x => (x.2, x.1) := by
      refine zip_range ?_ rfl
      rw [← q1, hpar.1, hvl, List.range_eq_range']
    have hrun0 : (execOp a.eval o).run P w = ((Instr.buildSlice t len vals.toArray).run P w).andThen fun v w' => .ok (.value v) w' := by
      have : (parts.map fun (i, x) => (i, a.eval x)) = vals.toArray := by apply Array.ext'; rw [← hus]; simp
      simp [execOp, ho, this]
    rcases mkOf_ok hk with ⟨et, e, rfl, ht, hel⟩ | ⟨et, e', e, rfl, ht, hel⟩
    · -- plain elements
      dsimp only at h
      obtain ⟨⟨xs, pe⟩, g1, g2⟩ := bind_ok h
      dsimp only at g2
      simp only [Except.ok.injEq, Prod.mk.injEq] at g2
      obtain ⟨rfl, rfl, rfl, rfl⟩ := g2
      obtain ⟨i, z, hE⟩ := elemOk_ok hel
      obtain ⟨σ1, p1, p2, p3⟩ := push_split hp
      have g1' : elemsPush et (ρ ++ []).length (l.map (·.2)) = .ok (xs, pe) := by simpa [hR.len] using g1
      obtain ⟨i1, i2, ls, i3, i4, i5⟩ := elemsPush_ok (us := vals.map (·.2)) g1' (by simp [q2]) q3 (by simpa using p1)
      obtain ⟨d, hd, rfl⟩ := pushAll_one p3
      rw [i3] at hd
      simp only [Prim.ev, Option.some.injEq] at hd
      subst hd
      have hlen : (vals.map (·.2)).length = len := by simpa using hvl
      have hrun := run_lit (P := P) (w := w) (us := vals.map (·.2)) ht hE.info hE.zero hE.pos (by
          rw [hlen]
          have h1 := hpar.2
          have h2 : i.size ≤ 4096 := Nat.le_trans hE.few (by decide)
          calc len * i.size ≤ 4096 * 4096 := Nat.mul_le_mul h1 h2
            _ ≤ 2 ^ 24 := by decide) (fun u hu => by rw [hE.size]; exact i2 u hu)
      rw [hlen, ← hzip] at hrun
      rw [hrun, Result.andThen_ok] at hrun0
      have hp2 : σ1.length = pe.length := p2
      rw [List.append_assoc]
      refine fresh_row (n := len) (xs := _) (ls := ls) hR hrun0 rfl rfl rfl (by simp) (fun b hb => alloc_old hb) (fun b hb => by simp only [blkOf, Option.some.injEq] at hb; omega) ?_ (by rw [i4, hlen]) i5 ?_
      · have hown := World.ownsRow_lit (base := 0) (e := e) (size := et.cells.length) w ((vals.map (·.2)).flatMap fun v => v.cells.toList).toArray len (Nat.zero_le _) (by simp only [maxLen]; omega) (by
          have := i5.length
          rw [i4, hlen] at this
          simpa using this)
        simpa using hown
      · rw [← List.append_assoc]
        have := get_new (ρ := ρ ++ σ1) (n := S.n + pe.length) (d := D.lst (ls.map (unflat et.agg))) (by rw [List.length_append, hR.len, hp2])
        exact this
    · -- own rows
      dsimp only at h
      obtain ⟨⟨bs, xs⟩, g1, g2⟩ := bind_ok h
      dsimp only at g2
      split at g2
      · rename_i hnd
        simp only [Except.ok.injEq, Prod.mk.injEq] at g2
        obtain ⟨rfl, rfl, rfl, rfl⟩ := g2
        obtain ⟨i, hE⟩ := elemSl_ok hel
        obtain ⟨i1, i2, i3, ls, i4, i5, i6⟩ := ownRows_ok hR g1 (us := vals.map (·.2)) (by simp [q2]) q3
        obtain ⟨d, hd, rfl⟩ := pushAll_one hp
        rw [i4] at hd
        simp only [Prim.ev, Option.some.injEq] at hd
        subst hd
        have hlen : (vals.map (·.2)).length = len := by simpa using hvl
        have hcell : ∀ u ∈ vals.map (·.2), u.cells = #[u] := by
          intro u hu
          obtain ⟨j, hj⟩ := List.getElem?_of_mem hu
          obtain ⟨β, hβ, e⟩ := i3 j u hj
          obtain ⟨a', l', c', e'⟩ := e.2
          rw [e']; rfl
        have hus1 : ∀ u ∈ vals.map (·.2), u.cells.size = i.size := fun u hu => by rw [hcell u hu, hE.size]; rfl
        have hrun := run_lit (P := P) (w := w) (us := vals.map (·.2)) ht hE.info hE.zero (by rw [hE.size]; decide) (by
            rw [hlen, hE.size]
            have h1 := hpar.2
            calc len * 1 ≤ 4096 * 1 := Nat.mul_le_mul h1 (Nat.le_refl _)
              _ ≤ 2 ^ 24 := by decide) hus1
        rw [hlen, ← hzip] at hrun
        rw [hrun, Result.andThen_ok] at hrun0
        have hflat : ((vals.map (·.2)).flatMap fun v => v.cells.toList) = vals.map (·.2) := by
          have : ∀ (us : List Value), (∀ u ∈ us, u.cells = #[u]) → (us.flatMap fun v => v.cells.toList) = us := by
            intro us
            induction us with
            | nil => intro _; rfl
            | cons u us ih => intro h; simp only [List.flatMap_cons, h u (by simp)]; rw [ih fun v hv => h v (by simp [hv])]; rfl
          exact this _ hcell
        rw [hflat] at hrun0
        refine fresh_rows hR hrun0 i1 hnd (fun j u hj => .inr (i3 j u hj)) rfl rfl rfl (by simp) (fun b hb _ => alloc_old hb) (.inl fun b hb => by simp only [blkOf, Option.some.injEq] at hb; omega) ?_ (by rw [i5, hlen]) i6 (get_new hR.len)
        have hown := World.ownsRow_lit (base := 0) (e := e) (size := 1) w (vals.map (·.2)).toArray len (Nat.zero_le _) (by simp only [maxLen]; omega) (by simp [hvl])
        simpa using hown
      · cases g2
  · cases h

/-! ### Slices that are made -/
theorem zeroD_ok (w : World) {e : TypeId} {et : ET} {i : TypeInfo} {z : Value} {d : D} (hE : ElemOk P e et i z) (h : zeroD P e et = some d) : ∃ l, RdCs RdB et.cells z.cells.toList l ∧ d = unflat et.agg l := by
  unfold zeroD at h
  rw [hE.info] at h
  simp only [hE.zero] at h
  split at h
  · rename_i cs hcs
    have key : ∀ {ts : List BT} {cs : List CV} {vs : List Value} {l : List D}, litCells vs = some cs → zeroD.zs ts cs = some l → RdCs RdB ts vs l := by
      intro ts
      induction ts with
      | nil =>
        intro cs vs l h1 h2
        cases cs with
        | nil =>
          simp only [zeroD.zs, Option.some.injEq] at h2
          subst h2
          cases vs with
          | nil => trivial
          | cons v vs =>
            simp only [litCells] at h1
            split at h1 <;> simp at h1
        | cons c cs => simp [zeroD.zs] at h2
      | cons t ts ih =>
        intro cs vs l h1 h2
        cases cs with
        | nil => simp [zeroD.zs] at h2
        | cons c cs =>
          cases vs with
          | nil => simp [litCells] at h1
          | cons v vs =>
            have hR := litCells_ok (w := w) (F := fun _ => True) (hl := 0) (μ := fun _ => MV.one Go.undef) (ρ := []) h1
            obtain ⟨hv, _⟩ := hR
            simp only [litCells] at h1
            split at h1
            · rename_i c0 cs0 e1 e2
              simp only [Option.some.injEq, List.cons.injEq] at h1
              obtain ⟨rfl, rfl⟩ := h1
              unfold zeroD.zs at h2
              split at h2
              · rename_i heq _; cases heq
              · rename_i t0 ts0 t' d' cs1 heq heq2
                simp only [List.cons.injEq] at heq heq2
                obtain ⟨rfl, rfl⟩ := heq
                obtain ⟨heq3, rfl⟩ := heq2
                split at h2
                · rename_i ht
                  subst ht
                  simp only [Option.map_eq_some_iff] at h2
                  obtain ⟨l', h3, rfl⟩ := h2
                  rw [heq3] at hv
                  obtain ⟨d, hd, hr⟩ := hv
                  simp only [Atom.get, Option.some.injEq] at hd
                  subst hd
                  exact ⟨hr, ih e2 h3⟩
                · cases h2
              · cases h2
            · cases h1
    simp only [Option.map_eq_some_iff] at h
    obtain ⟨l, h1, rfl⟩ := h
    exact ⟨l, key hcs h1, rfl⟩
  · cases h

theorem made_row {et : ET} {z : Array Value} {l : List D} (hr : RdCs RdB et.cells z.toList l) : ∀ (n : Nat), RdRow RdB et.cells ((List.replicate n z.toList).flatten) (List.replicate n l)
  | 0 => rfl
  | n + 1 => ⟨z.toList, (List.replicate n z.toList).flatten, by simp [List.replicate_succ], hr, made_row hr n⟩

theorem madeCells_flat (z : Array Value) : ∀ (n : Nat), (madeCells z (n * z.size)).toList = (List.replicate n z.toList).flatten := by
  intro n
  apply List.ext_getElem?
  intro k
  by_cases hz : z.size = 0
  · have : z = #[] := Array.eq_empty_of_size_eq_zero hz
    subst this
    have : (List.replicate n ([] : List Value)).flatten = [] := by induction n with | zero => rfl | succ n ih => simp [List.replicate_succ]
    simp [madeCells]
  · have hpos : 0 < z.size := Nat.pos_of_ne_zero hz
    have get : ∀ (n k : Nat), ((List.replicate n z.toList).flatten)[k]? = if k < n * z.size then z.toList[k % z.size]? else none := by
      intro n
      induction n with
      | zero => intro k; simp
      | succ n ih =>
        intro k
        rw [List.replicate_succ, List.flatten_cons]
        by_cases hk : k < z.size
        · rw [List.getElem?_append_left (by simpa using hk), if_pos (by rw [Nat.add_mul]; omega), Nat.mod_eq_of_lt hk]
        · rw [List.getElem?_append_right (by simpa using Nat.le_of_not_lt hk), ih]
          have e : (k - z.size) % z.size = k % z.size := by rw [← Nat.mod_eq_sub_mod (by omega)]
          simp only [Array.length_toList, e, Nat.add_mul, Nat.one_mul]
          by_cases h : k < n * z.size + z.size
          · rw [if_pos h, if_pos (by omega)]
          · rw [if_neg h, if_neg (by omega)]
    rw [get]
    by_cases hk : k < n * z.size
    · rw [if_pos hk]
      simp [madeCells, hk, Nat.mod_lt _ hpos]
    · rw [if_neg hk]
      simp [madeCells]
      omega

theorem same_get {x y : Atom} {σ : List D} {d d' : D} (h : Atom.same x y = true) (hx : x.get σ = some d) (hy : y.get σ = some d') : d = d' := by
  unfold Atom.same at h
  split at h
  · simp only [beq_iff_eq] at h
    subst h
    rw [hx] at hy
    simpa using hy
  · simp only [beq_iff_eq] at h
    subst h
    simp only [Atom.get, Option.some.injEq] at hx hy
    rw [← hx, ← hy]
  · cases h

theorem make_hop {o : Oper} {t : TypeId} {lo co : Operand} {sa sb v : SV} {ps : List Push} {heap' : List SB} {tch : List Nat} {ρ' : List D} (ho : o.op = .makeSlice t lo co) (hR : R X M w0 S μ ρ a w)
    (h1 : getSV S lo = .ok sa) (h2 : getSV S co = .ok sb) (h : hopMakeSlice P S t sa sb = .ok (v, ps, heap', tch)) (hp : pushAll ps ρ = some ρ') : HopOk P X M w0 S μ o a w ρ' v heap' tch := by
  unfold hopMakeSlice at h
  obtain ⟨k, hk, h⟩ := bind_ok h
  have hk := need_ok hk
  split at h
  · rename_i x y
    obtain ⟨n, en, hn⟩ := rd_int (getSV_ok h1 hR.slots)
    obtain ⟨n', en', hn'⟩ := rd_int (getSV_ok h2 hR.slots)
    split at h
    · rename_i hsame
      have := same_get hsame hn hn'
      simp only [D.int.injEq] at this
      subst this
      have hrunOf : ∀ {e : TypeId} {i : TypeInfo} {z : Value}, P.underlying t = some (.slice e) → P.info? e = some i → i.zero = some z → i.bytes ≤ 64 → 0 ≤ n → n ≤ 1099511627776 →
          ∃ w', (execOp a.eval o).run P w = .ok (.value (.slice (some ⟨w.heap.size, 0, none⟩) n.toNat n.toNat)) w' ∧ w'.ownsRow 0 e i.size (.slice (some ⟨w.heap.size, 0, none⟩) n.toNat n.toNat) n.toNat (madeCells z.cells (n.toNat * i.size)).toList ∧ w.grownBy w' none := by
        intro e i z ht hi hz hb h0 hmax
        obtain ⟨w', r1, r2, r3⟩ := run_make_full (P := P) w 0 t e i z i.size ht hi hz rfl .i64 .i64 n.toNat (by
          have : n.toNat ≤ 1099511627776 := by omega
          calc i.bytes * n.toNat ≤ 64 * 1099511627776 := Nat.mul_le_mul hb this
            _ ≤ 281474976710656 := by decide) (by simp only [maxLen]; omega) (Nat.zero_le _)
        refine ⟨w', ?_, r2, r3⟩
        rw [Int.toNat_of_nonneg h0] at r1
        simp [execOp, ho, en, en', r1]
      rcases mkOf_ok hk with ⟨et, e, rfl, ht, hel⟩ | ⟨et, e', e, rfl, ht, hel⟩
      · dsimp only at h
        obtain ⟨z, g1, g2⟩ := bind_ok h
        simp only [Except.ok.injEq, Prod.mk.injEq] at g2
        obtain ⟨rfl, rfl, rfl, rfl⟩ := g2
        obtain ⟨i, zv, hE⟩ := elemOk_ok hel
        obtain ⟨l, hl, rfl⟩ := zeroD_ok w hE (need_ok g1)
        obtain ⟨d, hd, rfl⟩ := pushAll_one hp
        simp only [evs, List.map_cons, List.map_nil, Atom.ev_of_get hn, Atom.ev_of_get (x := .c (unflat et.agg l)) (ρ := ρ) rfl, Prim.ev] at hd
        split at hd
        · rename_i hb
          simp only [Option.some.injEq] at hd
          subst hd
          obtain ⟨w', r1, r2, r3⟩ := hrunOf ht hE.info hE.zero hE.bytes hb.1 hb.2
          have hrow : RdRow RdB et.cells (madeCells zv.cells (n.toNat * i.size)).toList (List.replicate n.toNat l) := by
            rw [← hE.zs, madeCells_flat]; exact made_row hl _
          rw [hE.size] at r2 hrow
          refine fresh_row (σ := [_]) hR r1 r3.os r3.tape r3.output r3.size (fun b hb => r3.block b hb (by simp)) (fun b hb => by simp only [blkOf, Option.some.injEq] at hb; omega) r2 (by simp) hrow ?_
          rw [List.map_replicate]
          exact get_new hR.len
        · cases hd
      · dsimp only at h
        simp only [Except.ok.injEq, Prod.mk.injEq] at h
        obtain ⟨rfl, rfl, rfl, rfl⟩ := h
        obtain ⟨i, hE⟩ := elemSl_ok hel
        obtain ⟨d, hd, rfl⟩ := pushAll_one hp
        simp only [evs, List.map_cons, List.map_nil, Atom.ev_of_get hn, Atom.ev_of_get (x := .c (.lst [])) (ρ := ρ) rfl, Prim.ev] at hd
        split at hd
        · rename_i hb
          simp only [Option.some.injEq] at hd
          subst hd
          obtain ⟨w', r1, r2, r3⟩ := hrunOf ht hE.info hE.zero hE.bytes hb.1 hb.2
          rw [hE.size, Nat.mul_one] at r2
          have hone : (madeCells (Value.slice none 0 0).cells n.toNat).toList = List.replicate n.toNat (.slice none 0 0) := toList_madeCells_one _ _
          rw [hone] at r2
          have hrows : RowsD w et e' (List.replicate n.toNat (.slice none 0 0)) (List.replicate n.toNat []) := ⟨by simp, fun i u l hi hl => by
            rw [List.getElem?_replicate] at hi hl
            split at hi <;> simp only [Option.some.injEq, reduceCtorEq] at hi
            rename_i hlt
            rw [if_pos hlt] at hl
            simp only [Option.some.injEq] at hl
            subst hi hl
            exact ⟨0, [], ⟨by simp, .inl ⟨rfl, rfl⟩⟩, rfl, rfl⟩⟩
          refine fresh_rows (σ := [_]) (bs := []) (us := List.replicate n.toNat (.slice none 0 0)) (ls := List.replicate n.toNat []) (n := n.toNat) hR r1 (by simp) (by simp) (fun j u hj => .inl ?_) r3.os r3.tape r3.output r3.size (fun b hb _ => r3.block b hb (by simp))
            (.inl fun b hb => by simp only [blkOf, Option.some.injEq] at hb; omega) r2 (by simp) hrows ?_ (fun b hb => r3.block b hb (by simp))
          · rw [List.getElem?_replicate] at hj
            split at hj <;> simp only [Option.some.injEq, reduceCtorEq] at hj
            subst hj; rfl
          · rw [List.map_replicate]
            exact get_new hR.len
        · cases hd
    · cases h
  · cases h

end
end Vs
