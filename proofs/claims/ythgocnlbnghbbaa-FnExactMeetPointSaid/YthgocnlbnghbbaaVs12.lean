/-
  One operation in the order of the text: all of them together.
-/
import Derived.Test.YthgocnlbnghbbaaVs11
namespace Vs
open Go Go.RowKit

section
variable {w' : World} {F F' : Nat → Prop} {hl' : Nat} {μ' : Mu} {ρ' : List D} {Mine : Nat → Prop}

theorem resCells_ok (hF : ∀ b, F b → F' b) : ∀ {rks : List RK} {n h : Nat} {vs : List Value} {ds : List D} {os : List Value}, ResCs w' F rks vs ds os → (∀ (i : Nat) d, ds[i]? = some d → ρ'[n + i]? = some d) →
    (∀ (j : Nat) u, os[j]? = some u → μ' (h + j) = u) → h + os.length ≤ hl' → (∀ u ∈ os, ∀ b, blkOf u = some b → Mine b) →
    CVRs w' F' hl' μ' ρ' (resCells rks n h).1 vs ∧ (resCells rks n h).2.length = os.length ∧ ds.length = rks.length ∧ ∀ (j : Nat) sb, (resCells rks n h).2[j]? = some sb → BlkR Mine w' F' hl' μ' ρ' sb (μ' (h + j))
  | [], n, h, [], [], [], _, _, _, _, _ => ⟨trivial, rfl, rfl, by simp [resCells]⟩
  | .cell t :: rs, n, h, v :: vs, d :: ds, os, ⟨h1, h2⟩, hd, ho, hl, hm => by
    obtain ⟨i1, i2, i3, i4⟩ := resCells_ok hF (n := n + 1) (h := h) h2 (fun i d' hi => by
      have := hd (i + 1) d' (by simpa using hi)
      rw [show n + 1 + i = n + (i + 1) from by omega]; exact this) ho hl hm
    refine ⟨⟨⟨d, ?_, h1⟩, i1⟩, i2, by simp [i3], i4⟩
    have := hd 0 d rfl
    simpa [Atom.get] using this
  | .own t e :: rs, n, h, v :: vs, d :: ds, o :: os, ⟨h0, h1, h2⟩, hd, ho, hl, hm => by
    subst h0
    obtain ⟨i1, i2, i3, i4⟩ := resCells_ok hF (n := n + 1) (h := h + 1) h2 (fun i d' hi => by
      have := hd (i + 1) d' (by simpa using hi)
      rw [show n + 1 + i = n + (i + 1) from by omega]; exact this)
      (fun j u hj => by have := ho (j + 1) u (by simpa using hj); rw [show h + 1 + j = h + (j + 1) from by omega]; exact this) (by simp at hl; omega) (fun u hu => hm u (by simp [hu]))
    have hv : μ' h = o := by have := ho 0 o rfl; simpa using this
    obtain ⟨m, xs, ls, g1, g2, g3, g4⟩ := h1
    have hdn : ρ'[n]? = some d := by have := hd 0 d rfl; simpa using this
    refine ⟨⟨⟨by simp at hl; omega, hv.symm, ?_⟩, i1⟩, by simp [resCells, i2], by simp [i3], ?_⟩
    · rw [hv]
      rcases g1.2 with ⟨e1, _⟩ | ⟨g, cap, cur, e1, _⟩
      · exact ⟨_, _, _, e1⟩
      · exact ⟨_, _, _, e1⟩
    · intro j sb hj
      cases j with
      | zero =>
        simp only [resCells, List.getElem?_cons_zero, Option.some.injEq] at hj
        subst hj
        simp only [Nat.add_zero, hv]
        refine ⟨m, xs, ls, g1, fun b hb => hm o (by simp) b hb, ?_, g3, g4.mono ⟨hF, fun _ _ => rfl⟩⟩
        rw [← g2]; exact hdn
      | succ j =>
        simp only [resCells, List.getElem?_cons_succ] at hj
        have := i4 j sb hj
        rw [show h + 1 + j = h + (j + 1) from by omega] at this
        exact this

theorem resAll_ok (hF : ∀ b, F b → F' b) : ∀ {rs : List (Bool × List RK)} {n h : Nat} {vs : List Value} {ds : List D} {os : List Value}, ResAll w' F rs vs ds os → (∀ (i : Nat) d, ds[i]? = some d → ρ'[n + i]? = some d) →
    (∀ (j : Nat) u, os[j]? = some u → μ' (h + j) = u) → h + os.length ≤ hl' → (∀ u ∈ os, ∀ b, blkOf u = some b → Mine b) →
    TVR w' F' hl' μ' ρ' (resAll rs n h).1 vs ∧ (resAll rs n h).2.length = os.length ∧ ∀ (j : Nat) sb, (resAll rs n h).2[j]? = some sb → BlkR Mine w' F' hl' μ' ρ' sb (μ' (h + j))
  | [], n, h, [], ds, os, ⟨_, h2⟩, _, _, _, _ => by subst h2; exact ⟨trivial, rfl, by simp [resAll]⟩
  | (ag, rks) :: r, n, h, v :: vs, ds, os, ⟨d1, d2, o1, o2, h1, h2, h3, h4⟩, hd, ho, hl, hm => by
    subst h1 h2
    have hd1 : ∀ (i : Nat) d, d1[i]? = some d → ρ'[n + i]? = some d := fun i d hi => hd i d (by
      rw [List.getElem?_append_left]; exact hi
      rcases Nat.lt_or_ge i d1.length with h' | h'
      · exact h'
      · rw [List.getElem?_eq_none h'] at hi; cases hi)
    have ho1 : ∀ (j : Nat) u, o1[j]? = some u → μ' (h + j) = u := fun j u hj => ho j u (by
      rw [List.getElem?_append_left]; exact hj
      rcases Nat.lt_or_ge j o1.length with h' | h'
      · exact h'
      · rw [List.getElem?_eq_none h'] at hj; cases hj)
    have hP : PVR w' F' hl' μ' ρ' ag (resCells rks n h).1 v ∧ (resCells rks n h).2.length = o1.length ∧ d1.length = rks.length ∧ ∀ (j : Nat) sb, (resCells rks n h).2[j]? = some sb → BlkR Mine w' F' hl' μ' ρ' sb (μ' (h + j)) := by
      have hl1 : h + o1.length ≤ hl' := by simp at hl; omega
      have hm1 : ∀ u ∈ o1, ∀ b, blkOf u = some b → Mine b := fun u hu => hm u (by simp [hu])
      cases ag with
      | true =>
        obtain ⟨arr, e, hc⟩ := h3
        obtain ⟨i1, i2, i3, i4⟩ := resCells_ok hF hc hd1 ho1 hl1 hm1
        exact ⟨⟨arr, e, i1⟩, i2, i3, i4⟩
      | false =>
        obtain ⟨hlen, hc⟩ := h3
        obtain ⟨i1, i2, i3, i4⟩ := resCells_ok hF hc hd1 ho1 hl1 hm1
        refine ⟨?_, i2, i3, i4⟩
        have hl1 := i1.length
        simp only [List.length_cons, List.length_nil] at hl1
        obtain ⟨c, hc⟩ := List.length_eq_one_iff.1 hl1
        rw [hc] at i1
        exact ⟨c, hc, i1.1⟩
    obtain ⟨p1, p2, p3, p4⟩ := hP
    obtain ⟨q1, q2, q3⟩ := resAll_ok hF (n := n + rks.length) (h := h + (resCells rks n h).2.length) h4 (fun i d hi => by
        have := hd (d1.length + i) d (by rw [List.getElem?_append_right (by omega)]; simpa using hi)
        rw [← p3, Nat.add_assoc]; exact this)
      (fun j u hj => by
        have := ho (o1.length + j) u (by rw [List.getElem?_append_right (by omega)]; simpa using hj)
        rw [p2, Nat.add_assoc]; exact this) (by simp at hl; omega) (fun u hu => hm u (by simp [hu]))
    refine ⟨⟨p1, q1⟩, by show ((resCells rks n h).2 ++ (resAll r _ _).2).length = _; rw [List.length_append, q2, p2, List.length_append], ?_⟩
    intro j sb hj
    simp only [resAll] at hj
    rcases Nat.lt_or_ge j (resCells rks n h).2.length with hlt | hge
    · rw [List.getElem?_append_left hlt] at hj
      exact p4 j sb hj
    · rw [List.getElem?_append_right hge] at hj
      have := q3 _ sb hj
      rw [show h + (resCells rks n h).2.length + (j - (resCells rks n h).2.length) = h + j from by omega] at this
      exact this
end

section
variable {P : Program} {X M : Nat → Prop} {w0 w w' : World} {S : SS} {μ μ' : Mu} {ρ : List D} {a : Act}

/-- The cells of one own block have turned. -/
theorem R_change (h : R X M w0 S μ ρ a w) {β : Nat} {sb : SB} (hβ : live S.heap β) (hos : w'.os = w.os) (htape : w'.tape = w.tape) (hout : w'.output = w.output) (hsize : w'.heap.size = w.heap.size)
    (hblk : ∀ k, blkOf (μ β) ≠ some k → w'.heap[k]? = w.heap[k]?) (hmine : ∀ b, blkOf (μ β) = some b → w0.heap.size ≤ b ∨ M b)
    (hnew : Grows (Fz X S.heap μ w) (Fz X (S.heap.set β sb) μ w') S.heap.length (S.heap.set β sb).length μ μ ρ ρ w w' → BlkR (fun b => w0.heap.size ≤ b ∨ M b) w' (Fz X (S.heap.set β sb) μ w') (S.heap.set β sb).length μ ρ sb (μ β)) :
    R X M w0 { S with heap := S.heap.set β sb } μ ρ a w' := by
  have hlt := live_lt hβ
  have hlive : ∀ {γ}, live (S.heap.set β sb) γ → live S.heap γ := by
    intro γ ⟨s, hs, hd⟩
    by_cases he : β = γ
    · subst he; exact hβ
    · rw [List.getElem?_set_ne he] at hs; exact ⟨s, hs, hd⟩
  have hg : Grows (Fz X S.heap μ w) (Fz X (S.heap.set β sb) μ w') S.heap.length (S.heap.set β sb).length μ μ ρ ρ w w' := by
    refine ⟨⟨fun b hb => ⟨⟨by rw [hsize]; exact hb.1.1, hb.1.2⟩, fun γ hγ => hb.2 γ (hlive hγ)⟩, fun b hb => hblk b (hb.2 β hβ)⟩, ⟨[], by simp⟩, by simp, fun _ _ => rfl⟩
  refine ⟨⟨hos.trans h.keeps.os, htape.trans h.keeps.tape, hout.trans h.keeps.output, by rw [hsize]; exact h.keeps.size, fun k hk hm => ?_⟩, h.len, h.size, h.defers,
    fun i s hs => (h.slots i s hs).mono hg, fun γ s hs => ?_, fun b hb => by rw [hsize]; exact h.ex b hb, fun γ δ h1 h2 => h.inj γ δ (hlive h1) (hlive h2)⟩
  · rw [hblk k (fun e => by rcases hmine k e with h' | h' <;> first | omega | exact hm h')]
    exact h.keeps.block k hk hm
  · by_cases he : β = γ
    · subst he
      rw [List.getElem?_set_self hlt] at hs
      simp only [Option.some.injEq] at hs
      subst hs
      exact hnew hg
    · rw [List.getElem?_set_ne he] at hs
      by_cases hd : s = .dead
      · subst hd; trivial
      · exact (h.blocks γ s hs).grow hg (by rw [hsize]; exact Nat.le_refl _) (fun b hb => hblk b (h.inj γ β ⟨s, hs, hd⟩ hβ (Ne.symm he) b hb))

theorem lop_place {XE : FuncId → Option Ext} {g : Guard} {o : Oper} {r : Loc} {v : SV} {ps : List Push} {ρ' : List D} (hX : ExtOk P XE) (h : lop P XE S g o = .ok r) (he : ownPlace S.n g r = (v, ps)) (hR : R X M w0 S μ ρ a w)
    (hg : g.ok ρ = true) (hp : pushAll ps ρ = some ρ') : ∃ u w', (execOp a.eval o).run P w = .ok (.value u) w' ∧ Quiet w w' ∧ SVR w (Fz X S.heap μ w) S.heap.length μ ρ' v u := by
  obtain ⟨v0, ps0⟩ := r
  unfold ownPlace at he
  split at he
  · rename_i t x e
    simp only [Prod.mk.injEq] at he e
    obtain ⟨rfl, rfl⟩ := he
    obtain ⟨rfl, rfl⟩ := e
    obtain ⟨u, w', h1, h2, d, hx, hd⟩ := lop_ok hX h hR hg (ρ' := ρ) rfl
    obtain ⟨d', hd', rfl⟩ := pushAll_one hp
    simp only [evs, List.map_cons, List.map_nil, Atom.ev_of_get hx, Prim.ev, Option.some.injEq] at hd'
    subst hd'
    exact ⟨u, w', h1, h2, _, get_new hR.len, hd⟩
  · simp only [Prod.mk.injEq] at he
    obtain ⟨rfl, rfl⟩ := he
    exact lop_ok hX h hR hg hp

theorem put_slots {dst : Option Nat} {v : SV} {S S' : SS} (h : S'.slots = S.slots) : put S' dst v = put S dst v := by
  unfold put; rw [h]

/-- What a step leaves as it was: all slots but its own, all blocks but the one that it touches. -/
structure Fr (S : SS) (μ : Mu) (w : World) (a : Act) (dst tch : Option Nat) (S' : SS) (μ' : Mu) (a' : Act) (w' : World) : Prop where
  act : ∃ u, a' = a.put dst u
  mu : ∀ β, β < S.heap.length → μ' β = μ β
  blk : ∀ b, b < w.heap.size → (∀ β, tch = some β → blkOf (μ β) ≠ some b) → w'.heap[b]? = w.heap[b]?
  fresh : ∀ β, S.heap.length ≤ β → live S'.heap β → ∀ b, blkOf (μ' β) = some b → w.heap.size ≤ b
  size : w.heap.size ≤ w'.heap.size

/-- The own block that an operation writes. -/
def touchOf (S : SS) (o : Oper) : Option Nat :=
  match o.op with
  | .store _ p _ => match getSV S p with | .ok (.c (.s (.vptr β _))) => some β | _ => none
  | _ => none

/-- What a step leaves. -/
def StepOk (P : Program) (X M : Nat → Prop) (w0 : World) (S : SS) (μ : Mu) (S' : SS) (o : Oper) (a : Act) (w : World) (ρ' : List D) : Prop :=
  ∀ (K : Act → World → Prop) (Q : Exit → Act → World → Prop), (∀ μ' a' w', R X M w0 S' μ' ρ' a' w' → Fr S μ w a o.dst (touchOf S o) S' μ' a' w' → K a' w') → o.wp P a w K Q

theorem step_value {S' : SS} {o : Oper} {ρ' : List D} {u : Value} (hr : (execOp a.eval o).run P w = .ok (.value u) w') (hR : R X M w0 S' μ' ρ' (a.put o.dst u) w')
    (hf : Fr S μ w a o.dst (touchOf S o) S' μ' (a.put o.dst u) w') : StepOk P X M w0 S μ S' o a w ρ' := by
  intro K Q hK
  unfold Oper.wp
  rw [hr]
  exact hK _ _ _ hR hf

theorem step_skip {S' : SS} {o : Oper} {ρ' : List D} (hr : (execOp a.eval o).run P w = .ok .skip w') (hR : R X M w0 S' μ' ρ' (a.put o.dst Go.undef) w')
    (hf : Fr S μ w a o.dst (touchOf S o) S' μ' (a.put o.dst Go.undef) w') : StepOk P X M w0 S μ S' o a w ρ' := by
  intro K Q hK
  unfold Oper.wp
  rw [hr]
  exact hK _ _ _ hR hf

theorem Fr.quiet {S' : SS} {dst tch : Option Nat} {u : Value} (hh : S'.heap = S.heap) (q : Quiet w w') : Fr S μ w a dst tch S' μ (a.put dst u) w' :=
  ⟨⟨u, rfl⟩, fun _ _ => rfl, fun b _ _ => by rw [q.heap], fun β hβ hl => by rw [hh] at hl; have := live_lt hl; omega, by rw [q.heap]; exact Nat.le_refl _⟩

theorem some_of_need {α : Type} {o : Option α} {why : String} {x : α} (h : need o why = .ok x) : o = some x := need_ok h

/-- A new variable. -/
theorem R_box (h : R X M w0 S μ ρ a w) {cs : List CV} {arr : Array Value} {T : TypeId} (hc : CVRs w (Fz X S.heap μ w) S.heap.length μ ρ cs arr.toList) {dst : Option Nat} {slots : List SV}
    (hp : put S dst (.c (.s (.vptr S.heap.length 0))) = .ok slots) :
    ∃ μ', R X M w0 { S with slots, heap := S.heap ++ [.var cs] } μ' ρ (a.put dst (.pointer (some ⟨w.heap.size, 0, none⟩))) { w with heap := w.heap.push (.cells arr T) } ∧
      ∀ tch, Fr S μ w a dst tch { S with slots, heap := S.heap ++ [.var cs] } μ' (a.put dst (.pointer (some ⟨w.heap.size, 0, none⟩))) { w with heap := w.heap.push (.cells arr T) } := by
  let μ' : Mu := fun β => if β < S.heap.length then μ β else .pointer (some ⟨w.heap.size, 0, none⟩)
  have hμ : ∀ β, β < S.heap.length → μ' β = μ β := fun β hb => by simp [μ', hb]
  have hμn : ∀ j, μ' (S.heap.length + j) = .pointer (some ⟨w.heap.size, 0, none⟩) := fun j => by simp only [μ']; rw [if_neg (by omega)]
  let w1 : World := { w with heap := w.heap.push (.cells arr T) }
  have hk : Keeps (fun _ => False) w w1 := ⟨rfl, rfl, rfl, by simp [w1], fun k hk _ => by simp only [w1]; rw [Array.getElem?_push, if_neg (by omega)]⟩
  have hR1 : R X M w0 { S with heap := S.heap ++ [.var cs] } μ' ρ a w1 := by
    refine R_extend h hk [.var cs] hμ (fun j hj b hb => ?_) (fun i j hi hj hne => ?_) (fun j sb hj => ?_)
    · rw [hμn] at hb
      simp only [blkOf, Option.some.injEq] at hb
      omega
    · simp at hi hj; omega
    · cases j with
      | succ j => simp at hj
      | zero =>
        simp only [List.getElem?_cons_zero, Option.some.injEq] at hj
        subst hj
        refine ⟨w.heap.size, arr, T, hμn 0, .inl h.keeps.size, by simp [w1], ?_⟩
        refine CVRs.mono ⟨⟨fun b hb => ⟨⟨Nat.lt_of_lt_of_le hb.1.1 hk.size, hb.1.2⟩, fun β hl => ?_⟩, fun b hb => hk.block b hb.1.1 (fun h => h)⟩, ⟨[], by simp⟩, by simp, hμ⟩ hc
        by_cases hlt : β < S.heap.length
        · rw [hμ β hlt]
          refine hb.2 β ?_
          obtain ⟨s, hs, hd⟩ := hl
          rw [List.getElem?_append_left hlt] at hs
          exact ⟨s, hs, hd⟩
        · have : μ' β = .pointer (some ⟨w.heap.size, 0, none⟩) := by simp [μ', hlt]
          rw [this]
          simp only [blkOf, ne_eq, Option.some.injEq]
          have := hb.1.1
          omega
  refine ⟨μ', R_put (dst := dst) (v := .c (.s (.vptr S.heap.length 0))) hR1 (by exact hp) ⟨by simp, w.heap.size, ?_, rfl⟩, fun tch => ⟨⟨_, rfl⟩, hμ, fun b hb _ => hk.block b hb (fun h => h), fun β hβ _ b hb => ?_, hk.size⟩⟩
  · have := hμn 0
    simpa using this
  · have : μ' β = .pointer (some ⟨w.heap.size, 0, none⟩) := by simp only [μ']; rw [if_neg (by omega)]
    rw [this] at hb
    simp only [blkOf, Option.some.injEq] at hb
    omega

/-- A call of a function with a contract. -/
theorem call_ok {f : FuncId} {sg : Sig} {G : List D → Option (List D)} {o : Oper} {args : Array Operand} {ats : Array TypeId} (hs : SoundCall P f sg G) (ho : o.op = .call { callee := .value (.func f), args, argTypes := ats })
    (h : R X M w0 S μ ρ a w) {g : Guard} (hg : g.ok ρ = true) (hgg : ∀ x want, g = some (x, want) → x.get ρ ≠ none) {ss : List SV} {xs : List Atom} (h1 : getSVs S g args.toList = .ok ss) (h2 : paramAtoms S sg.params ss = .ok xs)
    {v : SV} (hv : resSV (resAll sg.results S.n S.heap.length).1 = some v) {slots : List SV} (hp : put S o.dst (wrapG g v) = .ok slots) {ds : List D} (hG : G (evs ρ xs) = some ds) (hcount : ds.length = resCount sg.results) :
    StepOk P X M w0 S μ { n := S.n + resCount sg.results, slots, heap := S.heap ++ (resAll sg.results S.n S.heap.length).2 } o a w (ρ ++ ds) := by
  intro K Q hK
  obtain ⟨hl, hx⟩ := getSVs_ok hg h.slots h1
  have hargs := paramAtoms_ok h h2 (by simpa using hl) hx
  have hc := hs.calls _ _ w ds hargs hG
  have e1 : execOp a.eval o = callFunc f (#[] ++ args.map a.eval ++ #[]) := by
    obtain ⟨dst, op, ty, pos, after, guard⟩ := o
    simp only at ho
    subst ho
    rfl
  have e2 : (#[] ++ args.map a.eval ++ #[] : Array Value) = (args.toList.map a.eval).toArray := by apply Array.ext'; simp
  unfold Oper.wp
  rw [e1, hs.enter, e2]
  refine hc.mono fun e w' ⟨u, he, hk, us, os, hshape, hres, hown, hdist⟩ => ?_
  subst he
  suffices hsuf : R X M w0 { n := S.n + resCount sg.results, slots, heap := S.heap ++ (resAll sg.results S.n S.heap.length).2 } (fun β => if β < S.heap.length then μ β else (os[β - S.heap.length]?).getD Go.undef) (ρ ++ ds) (a.put o.dst u) w' by
    refine hK _ _ _ hsuf ⟨⟨u, rfl⟩, fun β hβ => by simp [hβ], fun b hb _ => hk.block b hb (fun h => h), fun β hβ _ b hb => ?_, hk.size⟩
    simp only [if_neg (show ¬ β < S.heap.length by omega)] at hb
    cases ho' : os[β - S.heap.length]? with
    | none => rw [ho'] at hb; cases hb
    | some u' => rw [ho'] at hb; exact hown u' (List.mem_of_getElem? ho') b hb
  generalize hμ' : (fun β => if β < S.heap.length then μ β else (os[β - S.heap.length]?).getD Go.undef : Mu) = μ'
  have hμ : ∀ β, β < S.heap.length → μ' β = μ β := fun β hb => by simp [← hμ', hb]
  have hμn : ∀ (j : Nat) u, os[j]? = some u → μ' (S.heap.length + j) = u := fun j u hj => by
    rw [← hμ']
    show (if _ then _ else _) = _
    rw [if_neg (by omega), show S.heap.length + j - S.heap.length = j from by omega, hj]
    rfl
  have hR1 := R_env h ds
  let S1 : SS := { S with n := S.n + ds.length }
  -- the result's cells, over whatever F' that lets fresh blocks
  have hnl : ∀ (i : Nat) d, ds[i]? = some d → (ρ ++ ds)[S.n + i]? = some d := fun i d hi => by
    rw [List.getElem?_append_right (by rw [h.len]; omega), h.len]
    rw [show S.n + i - S.n = i from by omega]; exact hi
  have hlen2 : (resAll sg.results S.n S.heap.length).2.length = os.length :=
    (resAll_ok (F' := fun _ => True) (hl' := S.heap.length + os.length) (Mine := fun _ => True) (fun _ _ => trivial) hres hnl hμn (Nat.le_refl _) (fun _ _ _ _ => trivial)).2.1
  have hFF : ∀ b, FreshF w.heap.size w' os b → Fz X (S.heap ++ (resAll sg.results S.n S.heap.length).2) μ' w' b := by
    intro b ⟨f1, f2, f3⟩
    refine ⟨⟨f2, fun hx => by have := h.ex b hx; omega⟩, fun β hl => ?_⟩
    by_cases hlt : β < S.heap.length
    · rw [hμ β hlt]
      intro he
      have : live S.heap β := by
        obtain ⟨s, hs', hd⟩ := hl
        rw [List.getElem?_append_left hlt] at hs'
        exact ⟨s, hs', hd⟩
      have := h.own_lt this he
      omega
    · have hlt2 := live_lt hl
      simp only [List.length_append, hlen2] at hlt2
      have hj : β - S.heap.length < os.length := by omega
      have hget := List.getElem?_eq_getElem hj
      have := hμn _ _ hget
      rw [show S.heap.length + (β - S.heap.length) = β from by omega] at this
      rw [this]
      exact f3 _ (List.getElem_mem hj)
  obtain ⟨r1, r2, r3⟩ := resAll_ok (F' := Fz X (S.heap ++ (resAll sg.results S.n S.heap.length).2) μ' w') (hl' := S.heap.length + (resAll sg.results S.n S.heap.length).2.length) (Mine := fun b => w0.heap.size ≤ b ∨ M b)
    hFF hres hnl hμn (by rw [hlen2]; exact Nat.le_refl _) (fun u hu b hb => .inl (Nat.le_trans h.keeps.size (hown u hu b hb)))
  have hos : ∀ j, j < (resAll sg.results S.n S.heap.length).2.length → ∃ u, os[j]? = some u ∧ μ' (S.heap.length + j) = u := fun j hj => by
    rw [hlen2] at hj
    exact ⟨_, List.getElem?_eq_getElem hj, hμn _ _ (List.getElem?_eq_getElem hj)⟩
  have hR2 := R_extend (S := S1) (μ' := μ') hR1 hk (resAll sg.results S.n S.heap.length).2 hμ
    (fun j hj b hb => by
      obtain ⟨u, hu, he⟩ := hos j hj
      rw [show S1.heap = S.heap from rfl, he] at hb
      exact hown u (List.mem_of_getElem? hu) b hb)
    (fun i j hi hj hne b hb => by
      obtain ⟨u, hu, he⟩ := hos i hi
      obtain ⟨u', hu', he'⟩ := hos j hj
      rw [show S1.heap = S.heap from rfl, he] at hb
      rw [show S1.heap = S.heap from rfl, he']
      exact hdist i j u u' hu hu' hne b hb)
    (fun j sb hj => r3 j sb hj)
  have hR3 := R_put (dst := o.dst) (v := wrapG g v) (u := u) (slots := slots) hR2 (by exact hp) (by
    have hgg' : ∀ x want, g = some (x, want) → x.get (ρ ++ ds) ≠ none := fun x want e => by
      have := hgg x want e
      cases hx : x.get ρ with
      | none => exact absurd hx this
      | some d => rw [Atom.get_append hx]; simp
    refine wrapG_ok hgg' (by rw [guard_append hgg]; exact hg) ?_
    have hlh : ({ S1 with heap := S1.heap ++ (resAll sg.results S.n S.heap.length).2 } : SS).heap.length = S.heap.length + (resAll sg.results S.n S.heap.length).2.length := by simp [S1]
    rw [hlh]
    unfold resSV at hv
    have hrl : (resAll sg.results S.n S.heap.length).1.length = sg.results.length := by
      have : ∀ (rs : List (Bool × List RK)) n h, (resAll rs n h).1.length = rs.length := by
        intro rs
        induction rs with
        | nil => intros; rfl
        | cons p r ih => intro n h; obtain ⟨ag, rks⟩ := p; simp [resAll, ih]
      exact this _ _ _
    split at hv
    · rename_i ag cs e
      rw [e] at hrl r1
      have hrl1 : sg.results.length = 1 := hrl.symm
      rw [if_pos hrl1] at hshape
      subst hshape
      have hPV := r1.1
      unfold mkSV at hv
      cases ag with
      | true => simp only [if_true, Option.some.injEq] at hv; subst hv; exact hPV
      | false =>
        obtain ⟨c, rfl, hc⟩ := hPV
        simp only [Bool.false_eq_true, if_false, Option.some.injEq] at hv
        subst hv
        exact hc
    · rename_i hne
      have hrl2 : sg.results.length ≠ 1 := by
        intro e
        rw [e] at hrl
        obtain ⟨⟨ag, cs⟩, hq⟩ := List.length_eq_one_iff.1 hrl
        exact hne ag cs hq
      rw [if_neg hrl2] at hshape
      simp only [Option.some.injEq] at hv
      subst hv hshape
      exact ⟨_, rfl, by simpa using r1⟩)
  rw [← hcount]
  exact hR3

end
end Vs
