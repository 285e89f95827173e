/-
  Parts of slices.
-/
import Derived.Test.YtfpmhmngebnphaaNs8
namespace Vs
open Go Go.RowKit

theorem pushAll_append : ∀ {p q : List Push} {ρ : List D}, pushAll (p ++ q) ρ = (pushAll p ρ).bind (pushAll q)
  | [], q, ρ => rfl
  | (f, xs) :: p, q, ρ => by
    simp only [List.cons_append, pushAll]
    cases f.ev (evs ρ xs) with
    | none => rfl
    | some d => exact pushAll_append

theorem RdRow.dropN {α : Type} {Q : α → Value → D → Prop} {ts : List α} : ∀ {ls : List (List D)} {xs : List Value} (k : Nat), k ≤ ls.length → RdRow Q ts xs ls → RdRow Q ts (xs.drop (k * ts.length)) (ls.drop k)
  | ls, xs, 0, _, h => by simpa using h
  | [], _, k + 1, hk, _ => by simp at hk
  | l :: ls, xs, k + 1, hk, ⟨c, r, e, a, b⟩ => by
    subst e
    have hl := a.length.1
    rw [List.drop_succ_cons, Nat.add_mul, Nat.one_mul, Nat.add_comm, ← List.drop_drop, ← hl, List.drop_left, hl]
    exact RdRow.dropN k (by simpa using hk) b

theorem RdRow.takeN {α : Type} {Q : α → Value → D → Prop} {ts : List α} : ∀ {ls : List (List D)} {xs : List Value} (k : Nat), k ≤ ls.length → RdRow Q ts xs ls → RdRow Q ts (xs.take (k * ts.length)) (ls.take k)
  | ls, xs, 0, _, h => by simp [RdRow]
  | [], _, k + 1, hk, _ => by simp at hk
  | l :: ls, xs, k + 1, hk, ⟨c, r, e, a, b⟩ => by
    subst e
    have hl := a.length.1
    rw [List.take_succ_cons]
    refine ⟨c, r.take (k * ts.length), ?_, a, RdRow.takeN k (by simpa using hk) b⟩
    rw [show (k + 1) * ts.length = c.length + k * ts.length from by rw [hl, Nat.add_mul]; omega, List.take_length_add_append]

theorem rowRd_part {t : CT} {w : World} {F : Nat → Prop} {xs : List Value} {ls : List (List D)} {a b : Nat} (hab : a ≤ b) (hb : b ≤ ls.length) (h : rowRd w F t xs ls) :
    rowRd w F t ((xs.take (b * rowSz t)).drop (a * rowSz t)) ((ls.take b).drop a) := by
  cases t with
  | b t => exact h.elim
  | s1 e => exact RdRow.dropN a (by simp; omega) (RdRow.takeN b hb h)
  | s2 e => exact RdRow.dropN a (by simp; omega) (RdRow.takeN b hb h)

section
variable {P : Program} {w : World}

theorem run_sliceBounds {len cap a b : Nat} {lo hi : Option Value} (hlo : match lo with | some v => v = .int .i64 a | none => a = 0) (hhi : match hi with | some v => v = .int .i64 b | none => b = len) (hab : a ≤ b) (hb : b ≤ cap) :
    (Instr.sliceBounds true len cap lo hi none).run P w = .ok (a, b, cap) w := by
  cases lo with
  | none =>
    simp only at hlo
    subst hlo
    cases hi with
    | none => simp only at hhi; subst hhi; simp [Instr.sliceBounds]
    | some v =>
      simp only at hhi
      subst hhi
      simp [Instr.sliceBounds, Instr.sliceBound, asIntOf, hb]
  | some u =>
    simp only at hlo
    subst hlo
    cases hi with
    | none => simp only at hhi; subst hhi; simp [Instr.sliceBounds, Instr.sliceBound, asIntOf, hab]
    | some v =>
      simp only at hhi
      subst hhi
      simp [Instr.sliceBounds, Instr.sliceBound, asIntOf, hab, hb]

/-- A part of what reads. -/
theorem slice_part {t e : TypeId} {ct : CT} {F : Nat → Prop} {v : Value} {ds : List D} {a b : Nat} {lo hi : Option Value} (ht : P.underlying t = some (.slice e)) (hz : sizeB P e = some (rowSz ct)) (hct : isSl ct = true) (hv : RdC w F ct v (.lst ds))
    (hlo : match lo with | some v => v = .int .i64 a | none => a = 0) (hhi : match hi with | some v => v = .int .i64 b | none => b = ds.length) (hab : a ≤ b) (hb : b ≤ ds.length) :
    ∃ u, (Instr.sliceAt t v lo hi none).run P w = .ok u w ∧ RdC w F ct u (.lst ((ds.take b).drop a)) := by
  have hne : ∀ b, ct ≠ .b b := fun b e => by subst e; cases hct
  have back : ∀ {u d}, RdSl w F (rowRd w F ct) (rowAgg ct) u d → RdC w F ct u d := by
    intro u d h
    cases ct with
    | b t => exact absurd rfl (hne t)
    | s1 e => exact h
    | s2 e => exact h
  obtain ⟨ls, hd, hvv⟩ := rowRd_sl hv hne
  simp only [D.lst.injEq] at hd
  subst hd
  simp only [List.length_map] at hhi hb
  rcases hvv with ⟨⟨ad, cap, rfl, hcap0⟩, rfl⟩ | ⟨g, off, cap, xs, rfl, hcap, hF, hc, hr⟩
  · simp only [List.length_nil, Nat.le_zero] at hb
    subst hb
    obtain rfl := Nat.le_zero.1 hab
    have h1 := run_sliceBounds (P := P) (w := w) (len := 0) (cap := cap) hlo hhi (Nat.le_refl _) (Nat.zero_le _)
    cases ad with
    | none =>
      obtain rfl := hcap0 rfl
      refine ⟨.slice none 0 0, ?_, back ⟨[], rfl, .inl ⟨⟨none, 0, rfl, fun _ => rfl⟩, rfl⟩⟩⟩
      simp [Instr.sliceAt, Instr.slice, run_underlying ht, h1, sizeB_run hz]
    | some ad =>
      by_cases hm : cap = 0
      · refine ⟨.slice (some ad) 0 cap, ?_, back ⟨[], rfl, .inl ⟨⟨some ad, cap, rfl, fun h => by cases h⟩, rfl⟩⟩⟩
        subst hm
        simp [Instr.sliceAt, Instr.slice, run_underlying ht, h1, sizeB_run hz]
      · refine ⟨.slice (some (ad.add 0)) 0 cap, ?_, back ⟨[], rfl, .inl ⟨⟨some (ad.add 0), cap, rfl, fun h => by cases h⟩, rfl⟩⟩⟩
        simp [Instr.sliceAt, Instr.slice, run_underlying ht, h1, sizeB_run hz, hm]
  · have h1 := run_sliceBounds (P := P) (w := w) (len := ls.length) (cap := cap) hlo hhi hab (Nat.le_trans hb hcap)
    have hlen : ((ls.take b).drop a).length = b - a := by simp; omega
    have hdat : ((ls.map (unflat (rowAgg ct))).take b).drop a = ((ls.take b).drop a).map (unflat (rowAgg ct)) := by simp
    by_cases hm : cap = a
    · have hba : b = a := by omega
      refine ⟨.slice (some ⟨g, off, none⟩) (b - a) (cap - a), ?_, back ⟨(ls.take b).drop a, by rw [hdat], .inr ⟨g, off, cap - a, [], by rw [hlen], by omega, hF, by simp, ?_⟩⟩⟩
      · subst hm
        simp [Instr.sliceAt, Instr.slice, run_underlying ht, h1, sizeB_run hz]
      · have he : (ls.take b).drop a = [] := List.eq_nil_of_length_eq_zero (by omega)
        rw [he]
        cases ct with
        | b t => exact absurd rfl (hne t)
        | s1 e => rfl
        | s2 e => rfl
    · refine ⟨.slice (some ⟨g, off + a * rowSz ct, none⟩) (b - a) (cap - a), ?_, back ⟨(ls.take b).drop a, by rw [hdat], .inr ⟨g, off + a * rowSz ct, cap - a, _, by rw [hlen], by omega, hF, fun j u hj => ?_, rowRd_part hab hb hr⟩⟩⟩
      · simp [Instr.sliceAt, Instr.slice, run_underlying ht, h1, sizeB_run hz, hm, addr_add]
      · rw [List.getElem?_drop, List.getElem?_take] at hj
        split at hj
        · rw [Nat.add_assoc]; exact hc _ _ hj
        · cases hj
end

section
variable {P : Program} {X : Nat → Prop} {M : Hand} {w0 w : World} {S : SS} {μ : Mu} {ρ : List D} {a : Act}

def OptR {α β : Type} (R : α → β → Prop) : Option α → Option β → Prop
  | some a, some b => R a b
  | none, none => True
  | _, _ => False

/-- The bounds of a part: what they reckon to. -/
theorem lopSlice_ok {F : Nat → Prop} {hl : Nat} {t : TypeId} {l : Atom} {ct : CT} {lo hi : Option SV} {v : SV} {ps : List Push} {vx : Value} {vlo vhi : Option Value} {ds : List D} {ρ' : List D}
    (h : lopSlice P ρ.length t l ct lo hi = .ok (v, ps)) (hl' : l.get ρ = some (.lst ds)) (hx : RdC w F ct vx (.lst ds))
    (hlo : OptR (SVR w F hl μ ρ) lo vlo) (hhi : OptR (SVR w F hl μ ρ) hi vhi)
    (hp : pushAll ps ρ = some ρ') : ∃ u, (Instr.sliceAt t vx vlo vhi none).run P w = .ok u w ∧ SVR w F hl μ ρ' v u := by
  unfold lopSlice at h
  split at h
  · rename_i e ht
    split at h
    · rename_i sz hz
      split at h
      · rename_i hc
        obtain ⟨rfl, hct⟩ := hc
        obtain ⟨⟨b, pb⟩, h1, h2⟩ := bind_ok h
        dsimp only at h2
        obtain ⟨x, h3, h4⟩ := bind_ok h2
        simp only [Except.ok.injEq, Prod.mk.injEq] at h4
        obtain ⟨rfl, rfl⟩ := h4
        -- the lower bound
        have hA : ∃ n, x.get ρ = some (.int n) ∧ (match vlo with | some u => u = .int .i64 n | none => n = 0) := by
          split at h3
          · simp only [Except.ok.injEq] at h3
            subst h3
            cases vlo with
            | none => exact ⟨0, rfl, rfl⟩
            | some u => exact hlo.elim
          · rename_i y
            simp only [Except.ok.injEq] at h3
            subst h3
            cases vlo with
            | none => exact hlo.elim
            | some u => obtain ⟨n, rfl, hn⟩ := rd_int hlo; exact ⟨n, hn, rfl⟩
          · cases h3
        obtain ⟨n, hn, hvn⟩ := hA
        have hB : ∃ m ρ1, pushAll pb ρ = some ρ1 ∧ b.get ρ1 = some (.int m) ∧ ρ1.length = ρ.length + pb.length ∧ (∃ σ, ρ1 = ρ ++ σ) ∧ (match vhi with | some u => u = .int .i64 m | none => m = ds.length) := by
          split at h1
          · simp only [Except.ok.injEq, Prod.mk.injEq] at h1
            obtain ⟨rfl, rfl⟩ := h1
            cases vhi with
            | none =>
              refine ⟨ds.length, ρ ++ [.int ds.length], ?_, get_new rfl, by simp, ⟨_, rfl⟩, rfl⟩
              simp [pushAll, evs, Atom.ev_of_get hl', Prim.ev]
            | some u => exact hhi.elim
          · rename_i y
            simp only [Except.ok.injEq, Prod.mk.injEq] at h1
            obtain ⟨rfl, rfl⟩ := h1
            cases vhi with
            | none => exact hhi.elim
            | some u => obtain ⟨m, rfl, hm⟩ := rd_int hhi; exact ⟨m, ρ, rfl, hm, rfl, ⟨[], by simp⟩, rfl⟩
          · cases h1
        obtain ⟨m, ρ1, hp1, hm, hlen1, ⟨σ, rfl⟩, hvm⟩ := hB
        rw [pushAll_append, hp1] at hp
        simp only [Option.bind_some] at hp
        obtain ⟨d, hd, rfl⟩ := pushAll_one hp
        simp only [evs, List.map_cons, List.map_nil, Atom.ev_of_get (Atom.get_append hl'), Atom.ev_of_get (Atom.get_append (σ := σ) hn), Atom.ev_of_get hm, Prim.ev] at hd
        split at hd
        · rename_i hb
          simp only [Option.some.injEq] at hd
          subst hd
          obtain ⟨u, hu, hr⟩ := slice_part (P := P) (w := w) (a := n.toNat) (b := m.toNat) (lo := vlo) (hi := vhi) ht hz hct hx
            (by cases vlo with
              | none => simp only at hvn ⊢; subst hvn; rfl
              | some u => simp only at hvn ⊢; rw [hvn, Int.toNat_of_nonneg hb.1])
            (by cases vhi with
              | none => simp only at hvm ⊢; subst hvm; simp
              | some u => simp only at hvm ⊢; rw [hvm, Int.toNat_of_nonneg (Int.le_trans hb.1 hb.2.1)])
            (by omega) (by omega)
          exact ⟨u, hu, _, get_new hlen1, hr⟩
        · cases hd
      · cases h
    · cases h
  · cases h

end
end Vs
