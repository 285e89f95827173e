/-
  Arguments of a law, read out of memory: plain values, structs and arrays of them, slices of these, slices of slices.
-/
import Derived.Test.YtfpmhmngebnphaaNs21
namespace Vs
open Go Go.RowKit Go.ChangeShapes Go.WideShapes

/-- The layout of a type is what its cells say. -/
def fitF (P : Program) (fit : TypeId → Bool) (cells : TypeId → Option (Bool × List BT)) : List Field → Nat → Nat → Bool
  | [], o, n => o == n
  | f :: r, o, n => f.offset == o && fit f.type && (match cells f.type with | some (_, bs) => bs.length == P.cellsOf f.type | none => false) && fitF P fit cells r (o + P.cellsOf f.type) n
def fitT (P : Program) : Nat → TypeId → Bool
  | 0, _ => false
  | d + 1, t =>
    match P.underlying t with
    | some (.struct fs) => fitF P (fitT P d) (plainCells P d) fs.toList 0 (P.cellsOf t)
    | some (.array n e) => fitT P d e && (match plainCells P d e with | some (_, bs) => bs.length == P.cellsOf e | none => false) && P.cellsOf t == n * P.cellsOf e
    | _ => true

/-- No list is longer than memory lets. -/
def Small (d : D) : Prop := ∀ l, d = .lst l → l.length ≤ maxLen

section
variable {H : Type} {enc : TypeId × Value → H} {P : Program} {W : World}

theorem RdCs.app {α : Type} {Q : α → Value → D → Prop} : ∀ {ts us : List α} {a b : List Value} {c d : List D}, RdCs Q ts a c → RdCs Q us b d → RdCs Q (ts ++ us) (a ++ b) (c ++ d)
  | [], _, [], _, [], _, _, h => h
  | _ :: _, _, _ :: _, _, _ :: _, _, ⟨h1, h2⟩, h => ⟨h1, h2.app h⟩

theorem mapM_cons_some {α β : Type} {f : α → Option β} {a : α} {l : List α} {ys : List β} (h : (a :: l).mapM f = some ys) : ∃ y r, f a = some y ∧ l.mapM f = some r ∧ ys = y :: r := by
  simp only [List.mapM_cons, Option.bind_eq_bind, Option.bind_eq_some_iff, Option.pure_def, Option.some.injEq] at h
  obtain ⟨y, h1, r, h2, h3⟩ := h
  exact ⟨y, r, h1, h2, h3.symm⟩

/-- A plain type's cells, where they read as data. -/
theorem trod_plain {base : Nat} {sp : Nat → Bool} {hd : Bool} : ∀ (fuel : Nat) {dep : Nat} {t : TypeId} {cs : List Value} {x : DataW H × List MemPlace} {ag : Bool} {bts : List BT}, fitT P dep t = true → plainCells P dep t = some (ag, bts) →
    DataW.trod enc P W base sp hd fuel t cs = some x → ∃ ds, RdCs RdB bts cs ds := by
  intro fuel
  induction fuel with
  | zero => intro dep t cs x ag bts _ _ h; cases h
  | succ fuel ih =>
    intro dep t cs x ag bts hfit hpl h
    cases dep with
    | zero => cases hpl
    | succ dep =>
      unfold DataW.trod at h
      unfold plainCells at hpl
      unfold fitT at hfit
      split at hpl
      · -- a struct
        rename_i fs hu
        rw [hu] at h hfit
        simp only at h hfit
        split at h
        · rename_i hlen
          obtain ⟨ys, hys, _⟩ := Option.map_eq_some_iff.1 h
          obtain ⟨l, hl, he⟩ := Option.map_eq_some_iff.1 hpl
          simp only [Prod.mk.injEq] at he
          obtain ⟨rfl, rfl⟩ := he
          have key : ∀ (fl : List Field) (o : Nat) (l : List BT) (ys : List (DataW H × List MemPlace)), fitF P (fitT P dep) (plainCells P dep) fl o (P.cellsOf t) = true →
              fl.foldr (fun f acc => match acc, plainCells P dep f.type with | some l, some (_, cs) => some (cs ++ l) | _, _ => none) (some []) = some l →
              (fl.mapM fun f => DataW.trod enc P W base sp hd fuel f.type ((cs.drop f.offset).take (P.cellsOf f.type))) = some ys → ∃ ds, RdCs RdB l (cs.drop o) ds := by
            intro fl
            induction fl with
            | nil =>
              intro o l ys hf hl _
              simp only [fitF, beq_iff_eq] at hf
              simp only [List.foldr_nil, Option.some.injEq] at hl
              subst hl
              rw [List.drop_of_length_le (by omega)]
              exact ⟨[], trivial⟩
            | cons f fl ihf =>
              intro o l ys hf hl hm
              simp only [fitF, Bool.and_eq_true, beq_iff_eq] at hf
              obtain ⟨⟨⟨h1, h2⟩, h3⟩, h4⟩ := hf
              simp only [List.foldr_cons] at hl
              split at hl
              · rename_i l' a cs' hl' hpc
                simp only [Option.some.injEq] at hl
                subst hl
                rw [hpc] at h3
                simp only [beq_iff_eq] at h3
                obtain ⟨y, r, g1, g2, _⟩ := mapM_cons_some hm
                obtain ⟨d1, k1⟩ := ih h2 hpc g1
                obtain ⟨d2, k2⟩ := ihf _ _ _ h4 hl' g2
                refine ⟨d1 ++ d2, ?_⟩
                have := k1.app k2
                rw [h1] at this
                rw [← List.drop_drop, List.take_append_drop] at this
                exact this
              · cases hl
          simpa using key fs.toList 0 l ys hfit hl hys
        · cases h
      · -- an array
        rename_i n e hu
        rw [hu] at h hfit
        simp only at h hfit
        simp only [Bool.and_eq_true, beq_iff_eq] at hfit
        obtain ⟨⟨h1, h2⟩, h3⟩ := hfit
        obtain ⟨⟨a, cs'⟩, hpc, he⟩ := Option.map_eq_some_iff.1 hpl
        simp only [Prod.mk.injEq] at he
        obtain ⟨rfl, rfl⟩ := he
        rw [hpc] at h2
        simp only [beq_iff_eq] at h2
        split at h
        · rename_i hlen
          obtain ⟨ys, hys, _⟩ := Option.map_eq_some_iff.1 h
          have key : ∀ (m i : Nat) (ys : List (DataW H × List MemPlace)), i + m = n →
              ((List.range' i m).mapM fun i => DataW.trod enc P W base sp hd fuel e ((cs.drop (i * P.cellsOf e)).take (P.cellsOf e))) = some ys → ∃ ds, RdCs RdB (List.replicate m cs').flatten (cs.drop (i * P.cellsOf e)) ds := by
            intro m
            induction m with
            | zero =>
              intro i ys hi _
              have : cs.length ≤ i * P.cellsOf e := by rw [hlen, h3, show i = n from by omega]; exact Nat.le_refl _
              rw [List.drop_of_length_le this]
              exact ⟨[], trivial⟩
            | succ m ihm =>
              intro i ys hi hm
              rw [List.range'_succ] at hm
              obtain ⟨y, r, g1, g2, _⟩ := mapM_cons_some hm
              obtain ⟨d1, k1⟩ := ih h1 hpc g1
              obtain ⟨d2, k2⟩ := ihm (i + 1) r (by omega) g2
              refine ⟨d1 ++ d2, ?_⟩
              have := k1.app k2
              rw [Nat.add_mul, Nat.one_mul, ← List.drop_drop, List.take_append_drop] at this
              rw [List.replicate_succ, List.flatten_cons]
              exact this
          have := key n 0 ys (by omega) (by rw [← List.range_eq_range']; exact hys)
          simpa using this
        · cases h
      · -- a plain value
        obtain ⟨b, hb, he⟩ := Option.map_eq_some_iff.1 hpl
        simp only [Prod.mk.injEq] at he
        obtain ⟨rfl, rfl⟩ := he
        unfold ctOf at hb
        split at hb <;> simp only [Option.some.injEq, reduceCtorEq] at hb
        all_goals
          rename_i hu
          subst hb
          rw [hu] at h
          simp only at h
          split at h <;> first | (cases h; done) | skip
        all_goals
          rename_i heq
          first
            | (exact ⟨[_], ⟨_, rfl, rfl⟩, trivial⟩)
            | (cases heq; done)
            | (cases heq
               split at h
               · rename_i hc
                 obtain ⟨rfl, _⟩ := hc
                 exact ⟨[_], ⟨_, rfl, rfl⟩, trivial⟩
               · cases h)

/-- Cells that are read one behind the other. -/
theorem mapM_range_get {β : Type} {f : Nat → Option β} : ∀ (m i : Nat) {ys : List β}, (List.range' i m).mapM f = some ys → ys.length = m ∧ ∀ (j : Nat) y, ys[j]? = some y → f (i + j) = some y
  | 0, i, ys, h => by
    simp only [List.range'_zero, List.mapM_nil, Option.pure_def, Option.some.injEq] at h
    subst h
    simp
  | m + 1, i, ys, h => by
    rw [List.range'_succ] at h
    obtain ⟨y, r, h1, h2, rfl⟩ := mapM_cons_some h
    obtain ⟨i1, i2⟩ := mapM_range_get m (i + 1) h2
    refine ⟨by simp [i1], fun j z hj => ?_⟩
    cases j with
    | zero => simp only [List.getElem?_cons_zero, Option.some.injEq] at hj; subst hj; exact h1
    | succ j =>
      simp only [List.getElem?_cons_succ] at hj
      have := i2 j z hj
      rwa [show i + 1 + j = i + (j + 1) from by omega] at this

theorem cells_get {base n : Nat} {a : Addr} {cs : List Value} (h : W.cells? base a n = some cs) : cs.length = n ∧ ∀ (j : Nat) u, cs[j]? = some u → W.cell? (a.add j) = some u := by
  unfold World.cells? at h
  split at h
  · rw [List.range_eq_range'] at h
    obtain ⟨h1, h2⟩ := mapM_range_get n 0 h
    exact ⟨h1, fun j u hj => by simpa using h2 j u hj⟩
  · cases h

theorem cell_add {a : Addr} {n : Nat} {u : Value} (h : W.cell? (a.add n) = some u) : W.cell? ⟨a.block, a.off + n, none⟩ = some u ∧ (n = 0 → a.spot = none) ∧ a.block < W.heap.size := by
  have h1 : ∀ {b : Addr}, W.cell? b = some u → b.spot = none ∧ b.block < W.heap.size := by
    intro b hb
    unfold World.cell? at hb
    split at hb
    · rename_i hh
      refine ⟨?_, (Array.getElem?_eq_some_iff.1 hh).1⟩
      cases hs : b.spot with
      | none => rfl
      | some _ => rw [hs] at hb; simp at hb
    · cases hb
  by_cases hn : n = 0
  · subst hn
    have e : a.add 0 = a := by simp [Addr.add]
    rw [e] at h
    obtain ⟨g1, g2⟩ := h1 h
    obtain ⟨b, off, spot⟩ := a
    simp only at g1
    subst g1
    exact ⟨by simpa using h, fun _ => rfl, g2⟩
  · have e : a.add n = ⟨a.block, a.off + n, none⟩ := by simp [Addr.add, hn]
    rw [e] at h
    exact ⟨h, fun e => absurd e hn, (h1 h).2⟩
theorem add_at (a : Addr) (n : Nat) : (a.add n).block = a.block ∧ (a.add n).off = a.off + n := by
  by_cases hn : n = 0
  · subst hn; simp [Addr.add]
  · simp [Addr.add, hn]

/-- A slice, where its elements read. -/
theorem trod_sl {α : Type} {Q : α → Value → D → Prop} {bts : List α} {fuel base : Nat} {sp : Nat → Bool} {hd : Bool} {t e : TypeId} {cs : List Value} {x : DataW H × List MemPlace} {ag : Bool} (hu : P.underlying t = some (.slice e))
    (hel : ∀ {fuel : Nat} {c : List Value} {y : DataW H × List MemPlace}, DataW.trod enc P W base sp hd fuel e c = some y → ∃ l, RdCs Q bts c l) (hk : P.cellsOf e = bts.length) (hpos : 0 < bts.length) (h : DataW.trod enc P W base sp hd fuel t cs = some x) :
    ∃ v d, cs = [v] ∧ RdSl W (fun b => b < W.heap.size) (RdRow Q bts) ag v d ∧ Small d := by
  cases fuel with
  | zero => cases h
  | succ fuel =>
    unfold DataW.trod at h
    rw [hu] at h
    split at h <;> first | (rename_i heq; cases heq; done) | (cases h; done) | skip
    · exact ⟨_, .lst [], rfl, ⟨[], rfl, .inl ⟨⟨none, 0, rfl, fun _ => rfl⟩, rfl⟩⟩, fun l e => by cases e; exact Nat.zero_le _⟩
    · rename_i e' a len cap heq
      cases heq
      dsimp only at h
      split at h
      · rename_i hc
        obtain ⟨ys, hys, _⟩ := Option.bind_eq_some_iff.1 h
        rw [List.range_eq_range'] at hys
        have key : ∀ (m i : Nat) (ys : List (DataW H × List MemPlace)), (List.range' i m).mapM (fun i => (W.cells? base (a.add (i * P.cellsOf e)) (P.cellsOf e)).bind (DataW.trod enc P W base sp hd fuel e)) = some ys →
            ∃ xs ls, ls.length = m ∧ RdRow Q bts xs ls ∧ ∀ (j : Nat) u, xs[j]? = some u → W.cell? ⟨a.block, a.off + (i * bts.length + j), none⟩ = some u ∧ (i * bts.length + j = 0 → a.spot = none) ∧ a.block < W.heap.size := by
          intro m
          induction m with
          | zero => intro i ys _; exact ⟨[], [], rfl, rfl, by simp⟩
          | succ m ih =>
            intro i ys hm
            rw [List.range'_succ] at hm
            obtain ⟨y, r, g1, g2, _⟩ := mapM_cons_some hm
            obtain ⟨cs, g3, g4⟩ := Option.bind_eq_some_iff.1 g1
            obtain ⟨k1, k2⟩ := cells_get g3
            obtain ⟨d1, k3⟩ := hel g4
            obtain ⟨xs, ls, j1, j2, j3⟩ := ih (i + 1) r g2
            rw [hk] at k1 k2
            refine ⟨cs ++ xs, d1 :: ls, by simp [j1], ⟨cs, xs, rfl, k3, j2⟩, fun j u hj => ?_⟩
            rcases Nat.lt_or_ge j cs.length with hlt | hge
            · rw [List.getElem?_append_left hlt] at hj
              obtain ⟨c1, c2, c3⟩ := cell_add (k2 j u hj)
              obtain ⟨e1, e2⟩ := add_at a (i * bts.length)
              rw [e1, e2, Nat.add_assoc] at c1
              rw [e1] at c3
              refine ⟨c1, fun h0 => ?_, c3⟩
              have := c2 (by omega)
              have hz : i * bts.length = 0 := by omega
              rw [hz] at this
              simpa [Addr.add] using this
            · rw [List.getElem?_append_right hge, k1] at hj
              have := j3 _ u hj
              rw [Nat.add_mul, Nat.one_mul, show i * bts.length + bts.length + (j - bts.length) = i * bts.length + j from by omega] at this
              exact this
        obtain ⟨xs, ls, j1, j2, j3⟩ := key len 0 ys hys
        refine ⟨_, .lst (ls.map (unflat ag)), rfl, ⟨ls, rfl, ?_⟩, fun l e => by cases e; rw [List.length_map, j1]; exact Nat.le_trans hc.2.1 hc.2.2⟩
        by_cases hl : len = 0
        · subst hl
          exact .inl ⟨⟨some a, cap, rfl, fun h => by cases h⟩, List.eq_nil_of_length_eq_zero j1⟩
        · have hx : xs.length = ls.length * bts.length := j2.length
          have h0 : 0 < xs.length := by rw [hx, j1]; exact Nat.mul_pos (by omega) hpos
          obtain ⟨_, c2, c3⟩ := j3 0 xs[0] (List.getElem?_eq_getElem h0)
          obtain ⟨b, off, spot⟩ := a
          have hsp : spot = none := c2 (by omega)
          subst hsp
          exact .inr ⟨b, off, cap, xs, by rw [j1], by rw [j1]; exact hc.2.1, c3, fun j u hj => by simpa using (j3 j u hj).1, j2⟩
      · cases h

/-- A slice of plain elements. -/
theorem trod_s1 {fuel dep base : Nat} {sp : Nat → Bool} {hd : Bool} {t e : TypeId} {cs : List Value} {x : DataW H × List MemPlace} {ag : Bool} {bts : List BT} (hu : P.underlying t = some (.slice e)) (hf : fitT P dep e = true)
    (hp : plainCells P dep e = some (ag, bts)) (hk : P.cellsOf e = bts.length) (hpos : 0 < bts.length) (h : DataW.trod enc P W base sp hd fuel t cs = some x) :
    ∃ v d, cs = [v] ∧ RdSl W (fun b => b < W.heap.size) (rr1 ⟨ag, bts⟩) ag v d ∧ Small d :=
  trod_sl hu (fun h => trod_plain _ hf hp h) hk hpos h

/-- A slice of slices of plain elements. -/
theorem trod_s2 {fuel dep base : Nat} {sp : Nat → Bool} {hd : Bool} {t e e' : TypeId} {cs : List Value} {x : DataW H × List MemPlace} {ag : Bool} {bts : List BT} (hu : P.underlying t = some (.slice e)) (hu' : P.underlying e = some (.slice e')) (he : P.cellsOf e = 1) (hf : fitT P dep e' = true)
    (hp : plainCells P dep e' = some (ag, bts)) (hk : P.cellsOf e' = bts.length) (hpos : 0 < bts.length) (h : DataW.trod enc P W base sp hd fuel t cs = some x) :
    ∃ v d, cs = [v] ∧ RdSl W (fun b => b < W.heap.size) (rr2 W (fun b => b < W.heap.size) ⟨ag, bts⟩) false v d ∧ Small d :=
  trod_sl (bts := [()]) hu (fun h => by
    obtain ⟨v, d, rfl, hr, _⟩ := trod_s1 hu' hf hp hk hpos h
    exact ⟨[d], hr, trivial⟩) (by rw [he]; rfl) (by simp) h

/-- What a cell's type is looked at as. -/
def cellB (P : Program) (t : TypeId) (c : CT) : Bool :=
  match c with
  | .b b => decide (ctOf P t = some b)
  | .s1 et => (match P.underlying t with
    | some (.slice e) => fitT P 8 e && decide (plainCells P 8 e = some (et.agg, et.cells)) && P.cellsOf e == et.cells.length && decide (0 < et.cells.length)
    | _ => false)
  | .s2 et => (match P.underlying t with
    | some (.slice e) => (match P.underlying e with
      | some (.slice e') => P.cellsOf e == 1 && fitT P 8 e' && decide (plainCells P 8 e' = some (et.agg, et.cells)) && P.cellsOf e' == et.cells.length && decide (0 < et.cells.length)
      | _ => false)
    | _ => false)

theorem plain_ctOf {t : TypeId} {b : BT} (h : ctOf P t = some b) : plainCells P 8 t = some (false, [b]) ∧ fitT P 8 t = true := by
  unfold plainCells fitT
  have := h
  unfold ctOf at this
  split at this <;> first | (cases this; done) | (rename_i hu; simp [hu, h])

/-- One cell, out of memory. -/
theorem trod_cell {fuel base : Nat} {sp : Nat → Bool} {hd : Bool} {t : TypeId} {c : CT} {cs : List Value} {x : DataW H × List MemPlace} (hc : cellB P t c = true) (h : DataW.trod enc P W base sp hd fuel t cs = some x) :
    ∃ v d, cs = [v] ∧ RdC W (fun b => b < W.heap.size) c v d ∧ Small d := by
  unfold cellB at hc
  cases c with
  | b b =>
    simp only [decide_eq_true_eq] at hc
    obtain ⟨g1, g2⟩ := plain_ctOf hc
    obtain ⟨ds, hr⟩ := trod_plain fuel g2 g1 h
    match cs, ds, hr with
    | [v], [d], ⟨hr, _⟩ => exact ⟨v, d, rfl, hr, fun l e => by subst e; cases b <;> (obtain ⟨_, _, h⟩ := hr; cases h)⟩
    | _ :: _ :: _, _ :: ds, ⟨_, h⟩ => cases ds <;> exact h.elim
    | [_], _ :: _ :: _, ⟨_, h⟩ => exact h.elim
  | s1 et =>
    simp only at hc
    split at hc
    · rename_i e hu
      simp only [Bool.and_eq_true, decide_eq_true_eq, beq_iff_eq] at hc
      obtain ⟨⟨⟨h1, h2⟩, h3⟩, h4⟩ := hc
      exact trod_s1 hu h1 h2 h3 h4 h
    · cases hc
  | s2 et =>
    simp only at hc
    split at hc
    · rename_i e hu
      split at hc
      · rename_i e' hu'
        simp only [Bool.and_eq_true, decide_eq_true_eq, beq_iff_eq] at hc
        obtain ⟨⟨⟨⟨h0, h1⟩, h2⟩, h3⟩, h4⟩ := hc
        exact trod_s2 hu hu' h0 h1 h2 h3 h4 h
      · cases hc
    · cases hc

theorem not_agg {r : Reach} {b0 : Nat} {t : TypeId} {c : CT} {v : Value} (hc : cellB P t c = true) (hv : Value.okWide P W r b0 t v) : v.cells = #[v] := by
  have key : (∀ fs, P.underlying t ≠ some (.struct fs)) → (∀ n e, P.underlying t ≠ some (.array n e)) → v.cells = #[v] := by
    intro h1 h2
    unfold Value.okWide at hv
    split at hv
    · rename_i hu; exact absurd hu (h1 _)
    · rename_i hu; exact absurd hu (h2 _ _)
    · cases v with
      | agg cs =>
        unfold Cell.okWide at hv
        split at hv <;> first | (rename_i heq; cases heq; done) | (rename_i heq _; cases heq; done) | skip
        all_goals first
          | (unfold Cell.ok at hv; split at hv <;> first | (rename_i heq; cases heq; done) | exact hv.elim)
          | skip
      | _ => rfl
  cases c with
  | b b =>
    simp only [cellB, decide_eq_true_eq] at hc
    unfold ctOf at hc
    refine key (fun fs hu => ?_) (fun n e hu => ?_) <;> (rw [hu] at hc; cases hc)
  | s1 et =>
    simp only [cellB] at hc
    refine key (fun fs hu => ?_) (fun n e hu => ?_) <;> (rw [hu] at hc; cases hc)
  | s2 et =>
    simp only [cellB] at hc
    refine key (fun fs hu => ?_) (fun n e hu => ?_) <;> (rw [hu] at hc; cases hc)

def cellsB (P : Program) : List TypeId → List CT → Bool
  | [], [] => true
  | t :: ts, c :: cs => cellB P t c && cellsB P ts cs
  | _, _ => false
/-- What is known of the data of a law's arguments. -/
def FitsC (W : World) : List CT → List D → Prop
  | [], [] => True
  | c :: cs, d :: ds => (∃ v, RdC W (fun b => b < W.heap.size) c v d) ∧ Small d ∧ FitsC W cs ds
  | _, _ => False

theorem args_cells {r : Reach} {b0 : Nat} {base : Nat} {sp : Nat → Bool} {hd : Bool} : ∀ {ts : List TypeId} {cts : List CT} {vs : List Value} {ds : List (DataW H)} {p : List MemPlace}, cellsB P ts cts = true →
    DataW.TrodAll enc P W base sp hd ts vs ds p → (∀ (j : Nat) t v, ts[j]? = some t → vs[j]? = some v → Value.okWide P W r b0 t v) →
    ∃ xs, ArgsR W (fun b => b < W.heap.size) (cts.map fun c => .val false [.rd c]) vs xs [] ∧ FitsC W cts xs ∧ ds.length = ts.length
  | [], [], [], [], _, _, _, _ => ⟨[], ⟨rfl, rfl⟩, trivial, rfl⟩
  | t :: ts, c :: cts, v :: vs, d :: ds, _, hm, ⟨_, _, ⟨fuel, h1⟩, h2, _⟩, hv => by
    simp only [cellsB, Bool.and_eq_true] at hm
    have hn := not_agg hm.1 (hv 0 t v rfl rfl)
    rw [hn] at h1
    obtain ⟨v', x, e, hr, hs⟩ := trod_cell hm.1 h1
    simp only [List.cons.injEq, and_true] at e
    subst e
    obtain ⟨xs, h3, h4, h5⟩ := args_cells hm.2 h2 (fun j t v h1 h2 => hv (j + 1) t v (by simpa using h1) (by simpa using h2))
    exact ⟨x :: xs, ⟨[x], xs, [], [], rfl, rfl, ⟨x, [], [], [], rfl, rfl, ⟨rfl, hr⟩, rfl, rfl⟩, h3⟩, ⟨⟨v, hr⟩, hs, h4⟩, by simp [h5]⟩
  | [], _ :: _, _, _, _, hm, _, _ => by simp [cellsB] at hm
  | _ :: _, [], _, _, _, hm, _, _ => by simp [cellsB] at hm

theorem Fm_nil : Fm W [] = fun b => b < W.heap.size := by
  funext b
  simp [Fm]

end
end Vs
