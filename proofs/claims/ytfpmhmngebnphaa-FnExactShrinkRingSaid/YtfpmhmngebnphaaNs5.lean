/-
  The operations that change nothing but a slot: what the executor says of them holds.
-/
import Derived.Test.YtfpmhmngebnphaaNs4
namespace Vs
open Go Go.RowKit

def pushAll : List Push → List D → Option (List D)
  | [], ρ => some ρ
  | (p, xs) :: ps, ρ => match p.ev (evs ρ xs) with | some d => pushAll ps (ρ ++ [d]) | none => none

theorem pushAll_env : ∀ {ps : List Push} {ρ ρ' : List D}, pushAll ps ρ = some ρ' → ∃ σ, ρ' = ρ ++ σ ∧ σ.length = ps.length
  | [], ρ, ρ', h => by simp only [pushAll, Option.some.injEq] at h; exact ⟨[], by simp [h]⟩
  | (p, xs) :: ps, ρ, ρ', h => by
    simp only [pushAll] at h
    split at h
    · rename_i d _
      obtain ⟨σ, e, hl⟩ := pushAll_env h
      exact ⟨d :: σ, by simp [e], by simp [hl]⟩
    · cases h

theorem pushAll_one {p : Prim} {xs : List Atom} {ρ ρ' : List D} (h : pushAll [(p, xs)] ρ = some ρ') : ∃ d, p.ev (evs ρ xs) = some d ∧ ρ' = ρ ++ [d] := by
  simp only [pushAll] at h
  split at h
  · rename_i d e; exact ⟨d, e, by simpa using h.symm⟩
  · cases h

theorem get_new {ρ : List D} {d : D} {n : Nat} (h : ρ.length = n) : (Atom.v n).get (ρ ++ [d]) = some d := by
  subst h; simp [Atom.get]

theorem need_ok {α : Type} {o : Option α} {why : String} {a : α} (h : need o why = .ok a) : o = some a := by
  cases o with
  | none => cases h
  | some b => simp only [need, Except.ok.injEq] at h; rw [h]

theorem bind_ok {α β : Type} {x : Res α} {f : α → Res β} {b : β} (h : (x >>= f) = .ok b) : ∃ a, x = .ok a ∧ f a = .ok b := by
  cases x with
  | error e => cases h
  | ok a => exact ⟨a, rfl, h⟩

section
variable {P : Program} {w : World} {F : Nat → Prop} {hl : Nat} {μ : Mu} {ρ : List D}

/-! ### Literals -/
theorem litCell_ok {v : Value} {c : CV0} (h : litCell v = some c) : CVR0 w F hl μ ρ c v := by
  unfold litCell at h
  split at h <;> simp only [Option.some.injEq, reduceCtorEq] at h <;> subst h
  · exact ⟨_, rfl, _, rfl, rfl⟩
  · exact ⟨_, rfl, _, rfl, rfl⟩
  · exact ⟨_, rfl, _, rfl, rfl⟩
  · exact ⟨_, rfl, _, rfl, rfl⟩
  · rfl

theorem litCells_ok : ∀ {vs : List Value} {cs : List CV}, litCells vs = some cs → CVRs w F hl μ ρ cs vs
  | [], cs, h => by simp only [litCells, Option.some.injEq] at h; subst h; trivial
  | v :: vs, cs, h => by
    simp only [litCells] at h
    split at h
    · rename_i c cs' h1 h2
      simp only [Option.some.injEq] at h
      subst h
      exact ⟨litCell_ok h1, litCells_ok h2⟩
    · cases h

theorem litSV_ok {v : Value} {s : SV} (h : litSV v = some s) : SVR w F hl μ ρ s v := by
  unfold litSV at h
  split at h
  · rename_i arr
    cases hc : litCells arr.toList with
    | none => simp [hc] at h
    | some cs =>
      simp only [hc, Option.map_some, Option.some.injEq] at h
      subst h
      exact ⟨arr, rfl, litCells_ok hc⟩
  · cases hc : litCell v with
    | none => simp [hc] at h
    | some c =>
      simp only [hc, Option.map_some, Option.some.injEq] at h
      subst h
      exact litCell_ok hc

/-! ### Binary operations -/
theorem rd_int {x : Atom} {k : IntKind} {v : Value} (h : SVR w F hl μ ρ (.c (.s (.dat (.b (.int k)) x))) v) : ∃ n, v = .int k n ∧ x.get ρ = some (.int n) := by
  obtain ⟨d, hx, n, hv, hd⟩ := h; subst hd; exact ⟨n, hv, hx⟩
theorem rd_flt {x : Atom} {k : FloatKind} {v : Value} (h : SVR w F hl μ ρ (.c (.s (.dat (.b (.flt k)) x))) v) : ∃ b, v = .float k b ∧ x.get ρ = some (.flt (canon k b)) := by
  obtain ⟨d, hx, n, hv, hd⟩ := h; subst hd; exact ⟨n, hv, hx⟩
theorem rd_bool {x : Atom} {v : Value} (h : SVR w F hl μ ρ (.c (.s (.dat (.b .bool) x))) v) : ∃ b, v = .bool b ∧ x.get ρ = some (.bool b) := by
  obtain ⟨d, hx, n, hv, hd⟩ := h; subst hd; exact ⟨n, hv, hx⟩

theorem mk_int {w' : World} {x : Atom} {k : IntKind} {n : Int} (h : x.get ρ = some (.int n)) : SVR w' F hl μ ρ (bdat (.int k) x) (.int k n) := ⟨_, h, n, rfl, rfl⟩
theorem mk_flt {w' : World} {x : Atom} {k : FloatKind} {b : Nat} (h : x.get ρ = some (.flt (canon k b))) : SVR w' F hl μ ρ (bdat (.flt k) x) (.float k b) := ⟨_, h, b, rfl, rfl⟩
theorem mk_bool {w' : World} {x : Atom} {b : Bool} (h : x.get ρ = some (.bool b)) : SVR w' F hl μ ρ (bdat .bool x) (.bool b) := ⟨_, h, b, rfl, rfl⟩

theorem map_some_eq {α β : Type} {o : Option α} {f : α → β} {b : β} (h : o.map f = some b) : ∃ a, o = some a ∧ f a = b := by
  cases o with
  | none => cases h
  | some a => exact ⟨a, rfl, by simpa using h⟩

theorem lopBin_ok {op : BinOp} {t : TypeId} {sa sb v : SV} {ps : List Push} {va vb : Value} {ρ' : List D} (h : lopBin ρ.length op (isBoolT P t) sa sb = .ok (v, ps))
    (ha : SVR w F hl μ ρ sa va) (hb : SVR w F hl μ ρ sb vb) (hp : pushAll ps ρ = some ρ') :
    (∀ x y w1, (eqGuard op t x y va vb).run P w1 = .ok () w1) ∧ ∃ u w', (binOp op t va vb).run P w = .ok u w' ∧ Quiet w w' ∧ ∀ w1, SVR w1 F hl μ ρ' v u := by
  unfold lopBin at h
  split at h
  · rename_i k x k' y
    obtain ⟨n, rfl, hx⟩ := rd_int ha
    obtain ⟨m, rfl, hy⟩ := rd_int hb
    refine ⟨fun _ _ w1 => by unfold eqGuard; cases op <;> rfl, ?_⟩
    split at h
    · simp only [Except.ok.injEq, Prod.mk.injEq] at h
      obtain ⟨rfl, rfl⟩ := h
      obtain ⟨d, hd, rfl⟩ := pushAll_one hp
      simp only [evs, List.map_cons, List.map_nil, Atom.ev_of_get hx, Atom.ev_of_get hy, Prim.ev] at hd
      obtain ⟨z, hz, rfl⟩ := map_some_eq hd
      exact ⟨_, w, run_ishift w _ t k k' n m z hz, Quiet.refl w, fun w1 => mk_int (get_new rfl)⟩
    · simp only [Except.ok.injEq, Prod.mk.injEq] at h
      obtain ⟨rfl, rfl⟩ := h
      obtain ⟨d, hd, rfl⟩ := pushAll_one hp
      simp only [evs, List.map_cons, List.map_nil, Atom.ev_of_get hx, Atom.ev_of_get hy, Prim.ev] at hd
      obtain ⟨z, hz, rfl⟩ := map_some_eq hd
      exact ⟨_, w, run_ishift w _ t k k' n m z hz, Quiet.refl w, fun w1 => mk_int (get_new rfl)⟩
    all_goals
      split at h
      · rename_i hk
        subst hk
        simp only [Except.ok.injEq, Prod.mk.injEq] at h
        obtain ⟨rfl, rfl⟩ := h
        obtain ⟨d, hd, rfl⟩ := pushAll_one hp
        simp only [evs, List.map_cons, List.map_nil, Atom.ev_of_get hx, Atom.ev_of_get hy, Prim.ev] at hd
        obtain ⟨z, hz, rfl⟩ := map_some_eq hd
        first
          | exact ⟨_, w, run_iarith w _ t k n m z hz, Quiet.refl w, fun w1 => mk_int (get_new rfl)⟩
          | exact ⟨_, w, run_idiv w _ t k n m z hz, Quiet.refl w, fun w1 => mk_int (get_new rfl)⟩
          | exact ⟨_, w, run_ibits w _ t k n m z hz, Quiet.refl w, fun w1 => mk_int (get_new rfl)⟩
          | exact ⟨_, w, run_icmp w _ t k n m z hz, Quiet.refl w, fun w1 => mk_bool (get_new rfl)⟩
      · cases h
  · rename_i k x k' y
    obtain ⟨n, rfl, hx⟩ := rd_flt ha
    obtain ⟨m, rfl, hy⟩ := rd_flt hb
    refine ⟨fun _ _ w1 => by unfold eqGuard; cases op <;> rfl, ?_⟩
    split at h
    · rename_i hk
      subst hk
      split at h
      all_goals first
        | (cases h; done)
        | (simp only [Except.ok.injEq, Prod.mk.injEq] at h
           obtain ⟨rfl, rfl⟩ := h
           obtain ⟨d, hd, rfl⟩ := pushAll_one hp
           simp only [evs, List.map_cons, List.map_nil, Atom.ev_of_get hx, Atom.ev_of_get hy, Prim.ev] at hd
           obtain ⟨z, hz, rfl⟩ := map_some_eq hd
           first
             | (obtain ⟨c, w', e, q, hc⟩ := run_farith (P := P) w _ t k n m z hz
                exact ⟨_, w', e, q, fun w1 => mk_flt (by rw [hc]; exact get_new rfl)⟩)
             | exact ⟨_, w, run_fcmp w _ t k n m z hz, Quiet.refl w, fun w1 => mk_bool (get_new rfl)⟩)
    · cases h
  · rename_i x y
    obtain ⟨n, rfl, hx⟩ := rd_bool ha
    obtain ⟨m, rfl, hy⟩ := rd_bool hb
    split at h
    · rename_i hbt
      have hu : P.underlying t = some .bool := by
        unfold isBoolT at hbt
        split at hbt
        · assumption
        · cases hbt
      refine ⟨fun _ _ w1 => by unfold eqGuard; cases op <;> rfl, ?_⟩
      have he : ∀ w, (Op.equal t (.bool n) (.bool m)).run P w = .ok (n == m) w := fun w => by
        unfold Op.equal Op.maxDepth Op.equalIn
        simp [run_underlying hu]
      split at h
      all_goals first
        | (cases h; done)
        | (simp only [Except.ok.injEq, Prod.mk.injEq] at h
           obtain ⟨rfl, rfl⟩ := h
           obtain ⟨d, hd, rfl⟩ := pushAll_one hp
           simp only [evs, List.map_cons, List.map_nil, Atom.ev_of_get hx, Atom.ev_of_get hy, Prim.ev, Option.some.injEq] at hd
           subst hd
           refine ⟨_, w, ?_, Quiet.refl w, fun w1 => mk_bool (get_new rfl)⟩
           simp [binOp, he])
    · cases h
  · cases h

theorem lopConv_ok {src dst : TypeId} {sa v : SV} {ps : List Push} {va : Value} {ρ' : List D} (h : lopConv P ρ.length src dst sa = .ok (v, ps))
    (ha : SVR w F hl μ ρ sa va) (hp : pushAll ps ρ = some ρ') :
    ∃ u w', (convert src dst va).run P w = .ok u w' ∧ Quiet w w' ∧ ∀ w1, SVR w1 F hl μ ρ' v u := by
  unfold lopConv at h
  split at h
  all_goals first
    | (cases h; done)
    | skip
  · rename_i s k q x hs hd
    simp only [Except.ok.injEq, Prod.mk.injEq] at h
    obtain ⟨rfl, rfl⟩ := h
    obtain ⟨n, rfl, hx⟩ := rd_int ha
    obtain ⟨d, hd', rfl⟩ := pushAll_one hp
    simp only [evs, List.map_cons, List.map_nil, Atom.ev_of_get hx, Prim.ev, Option.some.injEq] at hd'
    subst hd'
    refine ⟨_, w, ?_, Quiet.refl w, fun w1 => mk_int (get_new rfl)⟩
    cases s <;> simp [convert, run_underlying hs, run_underlying hd, Conv.intToInt]
  · rename_i s k q x hs hd
    simp only [Except.ok.injEq, Prod.mk.injEq] at h
    obtain ⟨rfl, rfl⟩ := h
    obtain ⟨n, rfl, hx⟩ := rd_int ha
    obtain ⟨d, hd', rfl⟩ := pushAll_one hp
    simp only [evs, List.map_cons, List.map_nil, Atom.ev_of_get hx, Prim.ev, Option.some.injEq] at hd'
    subst hd'
    refine ⟨_, w, ?_, Quiet.refl w, fun w1 => mk_flt (b := k.nearest n) (get_new rfl)⟩
    cases s <;> simp [convert, run_underlying hs, run_underlying hd, Conv.intToFloat]
  · rename_i s k q x hs hd
    simp only [Except.ok.injEq, Prod.mk.injEq] at h
    obtain ⟨rfl, rfl⟩ := h
    obtain ⟨n, rfl, hx⟩ := rd_flt ha
    obtain ⟨d, hd', rfl⟩ := pushAll_one hp
    simp only [evs, List.map_cons, List.map_nil, Atom.ev_of_get hx, Prim.ev] at hd'
    obtain ⟨z, hz, rfl⟩ := map_some_eq hd'
    have := run_f2i (P := P) w q k n z hz
    refine ⟨_, w, ?_, Quiet.refl w, fun w1 => mk_int (get_new rfl)⟩
    cases s <;> simp [convert, run_underlying hs, run_underlying hd, this]
  · rename_i s k q x hs hd
    simp only [Except.ok.injEq, Prod.mk.injEq] at h
    obtain ⟨rfl, rfl⟩ := h
    obtain ⟨n, rfl, hx⟩ := rd_flt ha
    obtain ⟨d, hd', rfl⟩ := pushAll_one hp
    simp only [evs, List.map_cons, List.map_nil, Atom.ev_of_get hx, Prim.ev] at hd'
    obtain ⟨z, hz, rfl⟩ := map_some_eq hd'
    obtain ⟨c, w', e, qq, hc⟩ := run_f2f (P := P) w q k n z hz
    refine ⟨_, w', ?_, qq, fun w1 => mk_flt (by rw [hc]; exact get_new rfl)⟩
    cases s <;> simp [convert, run_underlying hs, run_underlying hd, e]

end
end Vs
