/-
  Arguments of a law that are structs which hold slices.
-/
import Derived.Test.YtfpmhmngebnphaaNs23
namespace Vs
open Go Go.RowKit Go.ChangeShapes Go.WideShapes

/-- The layout of a struct is what its cells say. -/
def fitG (P : Program) (fit : TypeId → Bool) (cells : TypeId → Option (Bool × List CT)) : List Field → Nat → Nat → Bool
  | [], o, n => o == n
  | f :: r, o, n => f.offset == o && fit f.type && (match cells f.type with | some (_, bs) => bs.length == P.cellsOf f.type | none => false) && fitG P fit cells r (o + P.cellsOf f.type) n
def fitA (P : Program) : Nat → TypeId → Bool
  | 0, _ => false
  | d + 1, t =>
    match P.underlying t with
    | some (.struct fs) => fitG P (fitA P d) (allCells P d) fs.toList 0 (P.cellsOf t)
    | some (.array _ _) => false
    | _ => match cellTy P t with | some c => cellB P t c | none => false

section
variable {H : Type} {enc : TypeId × Value → H} {P : Program} {W : World}

/-- No row of a list of rows is longer than memory lets. -/
def SmallR (c : CT) (d : D) : Prop := match c with | .s2 _ => ∀ l, d = .lst l → ∀ r ∈ l, Small r | _ => True
theorem rows_small {Q : Unit → Value → D → Prop} : ∀ {ls : List (List D)} {xs : List Value}, RdRow (fun u v d => Q u v d ∧ Small d) [()] xs ls → ∀ r ∈ ls.map (unflat false), Small r
  | [], _, _ => by simp
  | l :: ls, _, ⟨c, r, _, h, hr⟩ => by
    intro x hx
    simp only [List.map_cons, List.mem_cons] at hx
    rcases hx with rfl | hx
    · match c, l, h with
      | [_], [d], ⟨⟨_, hs⟩, _⟩ => exact hs
      | [], [], h => exact h.elim
      | [], _ :: _, h => exact h.elim
      | _ :: _, [], h => exact h.elim
      | _ :: _ :: _, [_], ⟨_, h⟩ => exact h.elim
      | [_], _ :: _ :: _, ⟨_, h⟩ => exact h.elim
      | _ :: _ :: _, _ :: _ :: _, ⟨_, h⟩ => exact h.elim
    · exact rows_small hr x hx
theorem trod_cell2 {fuel base : Nat} {sp : Nat → Bool} {hd : Bool} {t : TypeId} {c : CT} {cs : List Value} {x : DataW H × List MemPlace} (hc : cellB P t c = true) (h : DataW.trod enc P W base sp hd fuel t cs = some x) :
    ∃ v d, cs = [v] ∧ RdC W (fun b => b < W.heap.size) c v d ∧ Small d ∧ SmallR c d := by
  cases c with
  | b b =>
    obtain ⟨v, d, h1, h2, h3⟩ := trod_cell hc h
    exact ⟨v, d, h1, h2, h3, trivial⟩
  | s1 et =>
    obtain ⟨v, d, h1, h2, h3⟩ := trod_cell hc h
    exact ⟨v, d, h1, h2, h3, trivial⟩
  | s2 et =>
    unfold cellB at hc
    simp only at hc
    split at hc
    · rename_i e hu
      split at hc
      · rename_i e' hu'
        simp only [Bool.and_eq_true, decide_eq_true_eq, beq_iff_eq] at hc
        obtain ⟨⟨⟨⟨h0, h1⟩, h2⟩, h3⟩, h4⟩ := hc
        obtain ⟨v, d, rfl, ⟨ls, hl, hr⟩, hs⟩ := trod_sl (Q := fun (_ : Unit) v d => RdSl W (fun b => b < W.heap.size) (rr1 et) et.agg v d ∧ Small d) (bts := [()]) (ag := false) hu (fun h => by
          obtain ⟨v, d, rfl, hr, hs⟩ := trod_s1 hu' h1 h2 h3 h4 h
          exact ⟨[d], ⟨hr, hs⟩, trivial⟩) (by rw [h0]; rfl) (by simp) h
        refine ⟨v, d, rfl, ⟨ls, hl, hr.imp id fun ⟨b, off, cap, xs, g1, g2, g3, g4, g5⟩ => ⟨b, off, cap, xs, g1, g2, g3, g4, g5.mono fun _ _ _ h => h.1⟩⟩, hs, fun l hl' r hr' => ?_⟩
        rw [hl] at hl'
        cases hl'
        rcases hr with ⟨_, rfl⟩ | ⟨_, _, _, _, _, _, _, _, g5⟩
        · simp at hr'
        · exact rows_small g5 r hr'
      · cases hc
    · cases hc
/-- What is known of the data of a law's arguments. -/
def FitsD (W : World) : List CT → List D → Prop
  | [], [] => True
  | c :: cs, d :: ds => (∃ v, RdC W (fun b => b < W.heap.size) c v d) ∧ Small d ∧ SmallR c d ∧ FitsD W cs ds
  | _, _ => False
/-- Beside their types. -/
def SmallsR : List CT → List D → Prop
  | c :: cs, d :: ds => Small d ∧ SmallR c d ∧ SmallsR cs ds
  | _, _ => True
theorem SmallsR.app : ∀ {as bs : List CT} {xs ys : List D}, as.length = xs.length → SmallsR as xs → SmallsR bs ys → SmallsR (as ++ bs) (xs ++ ys)
  | [], _, [], _, _, _, h => h
  | _ :: _, _, _ :: _, _, hl, ⟨h1, h2, h3⟩, h => ⟨h1, h2, SmallsR.app (by simpa using hl) h3 h⟩

/-- A struct's cells, where they read as data. -/
theorem trod_all {base : Nat} {sp : Nat → Bool} {hd : Bool} : ∀ (fuel : Nat) {dep : Nat} {t : TypeId} {cs : List Value} {x : DataW H × List MemPlace} {ag : Bool} {cts : List CT}, fitA P dep t = true → allCells P dep t = some (ag, cts) →
    DataW.trod enc P W base sp hd fuel t cs = some x → ∃ ds, RdCs (RdC W (fun b => b < W.heap.size)) cts cs ds ∧ SmallsR cts ds := by
  intro fuel
  induction fuel with
  | zero => intro dep t cs x ag cts _ _ h; cases h
  | succ fuel ih =>
    intro dep t cs x ag cts hfit hpl h
    cases dep with
    | zero => cases hpl
    | succ dep =>
      unfold allCells at hpl
      unfold fitA at hfit
      split at hpl
      · rename_i fs hu
        unfold DataW.trod at h
        rw [hu] at h hfit
        simp only at h hfit
        split at h
        · rename_i hlen
          obtain ⟨ys, hys, _⟩ := Option.map_eq_some_iff.1 h
          obtain ⟨l, hl, he⟩ := Option.map_eq_some_iff.1 hpl
          simp only [Prod.mk.injEq] at he
          obtain ⟨rfl, rfl⟩ := he
          have key : ∀ (fl : List Field) (o : Nat) (l : List CT) (ys : List (DataW H × List MemPlace)), fitG P (fitA P dep) (allCells P dep) fl o (P.cellsOf t) = true →
              fl.foldr (fun f acc => match acc, allCells P dep f.type with | some l, some (_, cs) => some (cs ++ l) | _, _ => none) (some []) = some l →
              (fl.mapM fun f => DataW.trod enc P W base sp hd fuel f.type ((cs.drop f.offset).take (P.cellsOf f.type))) = some ys →
              ∃ ds, RdCs (RdC W (fun b => b < W.heap.size)) l (cs.drop o) ds ∧ SmallsR l ds := by
            intro fl
            induction fl with
            | nil =>
              intro o l ys hf hl _
              simp only [fitG, beq_iff_eq] at hf
              simp only [List.foldr_nil, Option.some.injEq] at hl
              subst hl
              rw [List.drop_of_length_le (by omega)]
              exact ⟨[], trivial, trivial⟩
            | cons f fl ihf =>
              intro o l ys hf hl hm
              simp only [fitG, Bool.and_eq_true, beq_iff_eq] at hf
              obtain ⟨⟨⟨h1, h2⟩, h3⟩, h4⟩ := hf
              simp only [List.foldr_cons] at hl
              split at hl
              · rename_i l' a cs' hl' hpc
                simp only [Option.some.injEq] at hl
                subst hl
                rw [hpc] at h3
                simp only [beq_iff_eq] at h3
                obtain ⟨y, r, g1, g2, _⟩ := mapM_cons_some hm
                obtain ⟨d1, k1, s1⟩ := ih h2 hpc g1
                obtain ⟨d2, k2, s2⟩ := ihf _ _ _ h4 hl' g2
                refine ⟨d1 ++ d2, ?_, s1.app k1.length.2.symm s2⟩
                have := k1.app k2
                rw [h1] at this
                rw [← List.drop_drop, List.take_append_drop] at this
                exact this
              · cases hl
          simpa using key fs.toList 0 l ys hfit hl hys
        · cases h
      · rename_i n e hu
        rw [hu] at hfit
        cases hfit
      · rename_i h1 h2
        obtain ⟨b, hb, he⟩ := Option.map_eq_some_iff.1 hpl
        simp only [Prod.mk.injEq] at he
        obtain ⟨rfl, rfl⟩ := he
        rw [hb] at hfit
        have hc : cellB P t b = true := by
          split at hfit
          · rename_i hu; exact absurd hu (h1 _)
          · cases hfit
          · exact hfit
        obtain ⟨v, d, rfl, hr, hs, hq⟩ := trod_cell2 hc h
        exact ⟨[d], ⟨hr, trivial⟩, hs, hq, trivial⟩

theorem RdCs_rdC {w : World} {F : Nat → Prop} : ∀ {cts : List CT} {vs : List Value} {ds : List D}, RdCs (RdC w F) cts vs ds → ArgCs w F (cts.map fun c => .rd c) vs ds []
  | [], [], [], _ => ⟨rfl, rfl⟩
  | _ :: _, _ :: _, _ :: _, ⟨h1, h2⟩ => ⟨_, _, [], [], rfl, rfl, ⟨rfl, h1⟩, RdCs_rdC h2⟩
theorem fitsD_of : ∀ {cts : List CT} {vs : List Value} {ds : List D}, RdCs (RdC W (fun b => b < W.heap.size)) cts vs ds → SmallsR cts ds → FitsD W cts ds
  | [], [], [], _, _ => trivial
  | _ :: _, v :: _, _ :: _, ⟨h1, h2⟩, ⟨s1, s2, s3⟩ => ⟨⟨v, h1⟩, s1, s2, fitsD_of h2 s3⟩
theorem FitsD.append : ∀ {bs cs : List CT} {xs ys : List D}, FitsD W bs xs → FitsD W cs ys → FitsD W (bs ++ cs) (xs ++ ys)
  | [], _, [], _, _, h => h
  | _ :: _, _, _ :: _, _, ⟨h1, h2, h3, h4⟩, h => ⟨h1, h2, h3, h4.append h⟩

/-- How a parameter's type is looked at: one cell, or a struct of cells. -/
def paB (P : Program) (t : TypeId) (p : Bool × List CT) : Bool :=
  match p with
  | (false, [c]) => cellB P t c
  | (true, cts) => (match P.underlying t with | some (.struct _) => true | _ => false) && fitA P 8 t && decide (allCells P 8 t = some (true, cts))
  | _ => false
def pasB (P : Program) : List TypeId → List (Bool × List CT) → Bool
  | [], [] => true
  | t :: ts, c :: cs => paB P t c && pasB P ts cs
  | _, _ => false

theorem args_mix {r : Reach} {b0 : Nat} {base : Nat} {sp : Nat → Bool} {hd : Bool} : ∀ {ts : List TypeId} {ps : List (Bool × List CT)} {vs : List Value} {ds : List (DataW H)} {p : List MemPlace}, pasB P ts ps = true →
    DataW.TrodAll enc P W base sp hd ts vs ds p → (∀ (j : Nat) t v, ts[j]? = some t → vs[j]? = some v → Value.okWide P W r b0 t v) →
    ∃ xs, ArgsR W (fun b => b < W.heap.size) (ps.map fun q => .val q.1 (q.2.map fun c => .rd c)) vs xs [] ∧ FitsD W (ps.flatMap (·.2)) xs ∧ ds.length = ts.length
  | [], [], [], [], _, _, _, _ => ⟨[], ⟨rfl, rfl⟩, trivial, rfl⟩
  | t :: ts, q :: ps, v :: vs, d :: ds, _, hm, ⟨_, _, ⟨fuel, h1⟩, h2, _⟩, hv => by
    simp only [pasB, Bool.and_eq_true] at hm
    obtain ⟨xs, h3, h4, h5⟩ := args_mix hm.2 h2 (fun j t v h1 h2 => hv (j + 1) t v (by simpa using h1) (by simpa using h2))
    have h0 := hv 0 t v rfl rfl
    have key : ∃ x, ArgR W (fun b => b < W.heap.size) (.val q.1 (q.2.map fun c => .rd c)) v x [] ∧ FitsD W q.2 x := by
      have hp := hm.1
      unfold paB at hp
      split at hp
      · rename_i c
        rw [not_agg hp h0] at h1
        obtain ⟨v', x, e, hr, hs, hq⟩ := trod_cell2 hp h1
        simp only [List.cons.injEq, and_true] at e
        subst e
        exact ⟨[x], ⟨x, [], [], [], rfl, rfl, ⟨rfl, hr⟩, rfl, rfl⟩, ⟨v, hr⟩, hs, hq, trivial⟩
      · rename_i cts
        simp only [Bool.and_eq_true, decide_eq_true_eq] at hp
        obtain ⟨⟨g1, g2⟩, g3⟩ := hp
        have hagg : ∃ cs, v = .agg cs := by
          unfold Value.okWide at h0
          split at g1
          · rename_i hu
            simp only [hu] at h0
            obtain ⟨cs, e, _⟩ := h0
            exact ⟨cs, e⟩
          · cases g1
        obtain ⟨cs, rfl⟩ := hagg
        obtain ⟨x, k1, k2⟩ := trod_all fuel g2 g3 h1
        exact ⟨x, ⟨cs, rfl, RdCs_rdC k1⟩, fitsD_of k1 k2⟩
      · cases hp
    obtain ⟨x, hx, hf⟩ := key
    refine ⟨x ++ xs, ⟨x, xs, [], [], rfl, rfl, hx, h3⟩, ?_, by simp [h5]⟩
    simpa using hf.append h4
  | [], _ :: _, _, _, _, hm, _, _ => by simp [pasB] at hm
  | _ :: _, [], _, _, _, hm, _, _ => by simp [pasB] at hm

end
end Vs
