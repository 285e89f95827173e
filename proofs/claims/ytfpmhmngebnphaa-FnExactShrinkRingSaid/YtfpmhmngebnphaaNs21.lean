/-
  Arguments of a law that are plain values, structs or arrays of plain values.
-/
import Derived.Test.YtfpmhmngebnphaaNs20
namespace Vs
open Go Go.RowKit Go.ChangeShapes Go.WideShapes

section
variable {H : Type} {enc : TypeId × Value → H} {P : Program} {W : World}

theorem Fits.append : ∀ {bs cs : List BT} {xs ys : List D}, Fits bs xs → Fits cs ys → Fits (bs ++ cs) (xs ++ ys)
  | [], _, [], _, _, h => h
  | _ :: _, _, _ :: _, _, ⟨h1, h2⟩, h => ⟨h1, h2.append h⟩

/-- How a parameter's type is looked at. -/
def argB (P : Program) (t : TypeId) (p : Bool × List BT) : Bool :=
  match p with
  | (false, [b]) => decide (ctOf P t = some b)
  | (true, bs) => (match P.underlying t with | some (.struct _) => true | some (.array _ _) => true | _ => false) &&
    (match P.cellTypes P.depth t with | some ts => decide (P.cellsOf t = ts.length) && decide (ts.map (ctOf P) = bs.map some) | none => false)
  | _ => false

theorem cells_plain {r : Reach} {b0 : Nat} : ∀ {ts : List TypeId} {bs : List BT} {vs : List Value}, ts.map (ctOf P) = bs.map some → vs.length = ts.length → (∀ (i : Nat) v u, vs[i]? = some v → ts[i]? = some u → Cell.okWide P W r b0 u v) →
    ∃ ds, RdCs RdB bs vs ds ∧ Fits bs ds
  | [], [], [], _, _, _ => ⟨[], trivial, trivial⟩
  | t :: ts, b :: bs, v :: vs, hm, hl, hv => by
    simp only [List.map_cons, List.cons.injEq] at hm
    have h0 := hv 0 v t rfl rfl
    have hb : ∃ x, RdB b v x := by
      refine arg_val (W := W) (r := r) (b0 := b0) hm.1 ?_
      unfold Value.okWide
      have := hm.1
      unfold ctOf at this
      split at this <;> first | (cases this; done) | (rename_i hu; simp only [hu]; exact h0)
    obtain ⟨x, hx⟩ := hb
    obtain ⟨ds, h1, h2⟩ := cells_plain hm.2 (by simpa using hl) (fun i v u h1 h2 => hv (i + 1) v u (by simpa using h1) (by simpa using h2))
    exact ⟨x :: ds, ⟨hx, h1⟩, ⟨v, hx⟩, h2⟩
  | [], _ :: _, _, hm, _, _ => by simp at hm
  | _ :: _, [], _, hm, _, _ => by simp at hm
  | [], [], _ :: _, _, hl, _ => by simp at hl
  | _ :: _, _ :: _, [], _, hl, _ => by simp at hl

theorem RdCs_rd {w : World} {F : Nat → Prop} : ∀ {bs : List BT} {vs : List Value} {ds : List D}, RdCs RdB bs vs ds → ArgCs w F (bs.map fun b => .rd (.b b)) vs ds []
  | [], [], [], _ => ⟨rfl, rfl⟩
  | _ :: _, _ :: _, _ :: _, ⟨h1, h2⟩ => ⟨_, _, [], [], rfl, rfl, ⟨rfl, h1⟩, RdCs_rd h2⟩

theorem arg_any {r : Reach} {b0 : Nat} {F : Nat → Prop} {t : TypeId} {p : Bool × List BT} {v : Value} (ht : argB P t p = true) (hval : Value.okWide P W r b0 t v) : ∃ ds, ArgR W F (.val p.1 (p.2.map fun b => .rd (.b b))) v ds [] ∧ Fits p.2 ds := by
  unfold argB at ht
  split at ht
  · rename_i b
    obtain ⟨x, hx⟩ := arg_val (by simpa using ht) hval
    exact ⟨[x], ⟨x, [], [], [], rfl, rfl, ⟨rfl, hx⟩, rfl, rfl⟩, ⟨v, hx⟩, trivial⟩
  · rename_i bs
    simp only [Bool.and_eq_true] at ht
    obtain ⟨h1, h2⟩ := ht
    have hagg : ∃ cs, v = .agg cs ∧ cs.size = P.cellsOf t ∧ Row.okWide P W r b0 t cs := by
      unfold Value.okWide at hval
      split at h1 <;> first | (cases h1; done) | (rename_i hu; simp only [hu] at hval; exact hval)
    obtain ⟨cs, rfl, hsz, ts, hts, ⟨n, hn⟩, hcell⟩ := hagg
    rw [hts] at h2
    simp only [Bool.and_eq_true, decide_eq_true_eq] at h2
    obtain ⟨h3, h4⟩ := h2
    have hlen : cs.toList.length = ts.length := by simp [hsz, h3]
    obtain ⟨ds, k1, k2⟩ := cells_plain (W := W) (r := r) (b0 := b0) h4 hlen (fun i v u hv hu => by
      have hlt : i < ts.length := (List.getElem?_eq_some_iff.1 hu).1
      obtain ⟨u', hu', hok⟩ := hcell i v (by simpa using hv)
      rw [Nat.mod_eq_of_lt hlt, hu] at hu'
      cases hu'
      exact hok)
    exact ⟨ds, ⟨cs, rfl, RdCs_rd k1⟩, k2⟩
  · cases ht

def argsB (P : Program) : List TypeId → List (Bool × List BT) → Bool
  | [], [] => true
  | t :: ts, p :: ps => argB P t p && argsB P ts ps
  | _, _ => false

theorem args_any {r : Reach} {b0 : Nat} {F : Nat → Prop} {base : Nat} {sp : Nat → Bool} {hd : Bool} : ∀ {ts : List TypeId} {ps : List (Bool × List BT)} {vs : List Value} {ds : List (DataW H)} {p : List MemPlace}, argsB P ts ps = true →
    DataW.TrodAll enc P W base sp hd ts vs ds p → (∀ (j : Nat) t v, ts[j]? = some t → vs[j]? = some v → Value.okWide P W r b0 t v) →
    ∃ xs, ArgsR W F (ps.map fun q => .val q.1 (q.2.map fun b => .rd (.b b))) vs xs [] ∧ Fits (ps.flatMap (·.2)) xs ∧ ds.length = ts.length
  | [], [], [], [], _, _, _, _ => ⟨[], ⟨rfl, rfl⟩, trivial, rfl⟩
  | t :: ts, q :: ps, v :: vs, d :: ds, _, hm, ⟨_, _, _, h2, _⟩, hv => by
    simp only [argsB, Bool.and_eq_true] at hm
    obtain ⟨x, hx, hf⟩ := arg_any (F := F) hm.1 (hv 0 t v rfl rfl)
    obtain ⟨xs, h3, h4, h5⟩ := args_any (F := F) hm.2 h2 (fun j t v h1 h2 => hv (j + 1) t v (by simpa using h1) (by simpa using h2))
    refine ⟨x ++ xs, ⟨x, xs, [], [], rfl, rfl, hx, h3⟩, ?_, by simp [h5]⟩
    simpa using hf.append h4
  | [], _ :: _, _, _, _, hm, _, _ => by simp [argsB] at hm
  | _ :: _, [], _, _, _, hm, _, _ => by simp [argsB] at hm

theorem len_cons {α : Type} {l : List α} {n : Nat} (h : l.length = n + 1) : ∃ a t, l = a :: t ∧ t.length = n := by
  cases l with
  | nil => simp at h
  | cons a t => exact ⟨a, t, rfl, by simpa using h⟩
theorem len_nil {α : Type} {l : List α} (h : l.length = 0) : l = [] := List.eq_nil_of_length_eq_zero h

end
end Vs
