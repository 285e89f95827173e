/-
  One operation in the order of the text: the theorem.
-/
import Derived.Test.YthgocnlbnghbbaaVs12
namespace Vs
open Go Go.RowKit

section
variable {X M : Nat → Prop} {w0 w : World} {S : SS} {μ : Mu} {ρ : List D} {a : Act}

theorem isSome_false {g : Guard} (h : g.isSome = false) : g = none := by cases g with | none => rfl | some _ => cases h

theorem sop_ok {E : Env} {G : Nat → List D → Option (List D)} (hE : EnvOk E G) {ops : Array Oper} {o : Oper} {S' : SS} {g : Guard} {eff : Eff} (h : sop E ops.toList S o = .ok (S', g, eff)) (hR : R X M w0 S μ ρ a w) :
    Region.wanted o (yielded ops a.tmps) = g.ok ρ ∧ (∀ x want, g = some (x, want) → x.get ρ ≠ none) ∧
    (g.ok ρ = false → S'.heap = S.heap ∧ R X M w0 S' μ (ρ ++ List.replicate (effLen eff) .undef) (a.put o.dst Go.undef) w) ∧
    (g.ok ρ = true → ∀ ρ', effRun G ρ eff = some ρ' → StepOk E.P X M w0 S μ S' o a w ρ') := by
  unfold sop at h
  obtain ⟨g', hg0, h1⟩ := bind_ok h
  obtain ⟨hw, hgg⟩ := guardOf_ok hg0 hR
  clear h
  split at h1
  · -- a local operation
    rename_i r hl
    dsimp only at h1
    cases hop : ownPlace S.n g' r with
    | mk v ps =>
    rw [hop] at h1
    dsimp only at h1
    split at h1
    · cases h1
    · rename_i hfr
      obtain ⟨slots, hp, h2⟩ := bind_ok h1
      simp only [Except.ok.injEq, Prod.mk.injEq] at h2
      obtain ⟨rfl, rfl, rfl⟩ := h2
      refine ⟨hw, hgg, fun hno => ?_, fun hok ρ' hp' => ?_⟩
      · refine ⟨rfl, R_skip hR hgg hno hp ?_⟩
        cases hgs : g'.isSome with
        | false => rw [isSome_false hgs] at hno; cases hno
        | true =>
          cases hf : freshSV S.n ps.length v with
          | true => rfl
          | false => exact absurd ⟨hgs, hf⟩ hfr
      · obtain ⟨u, w', hr, q, hv⟩ := lop_place hE.ext hl hop hR hok hp'
        obtain ⟨σ, rfl, hσ⟩ := pushAll_env hp'
        have h3 := R_env hR σ
        rw [hσ] at h3
        have hgg' : ∀ x want, g' = some (x, want) → x.get (ρ ++ σ) ≠ none := fun x want e => by
          have := hgg x want e
          cases hx : x.get ρ with
          | none => exact absurd hx this
          | some d => rw [Atom.get_append hx]; simp
        have h4 := R_put (dst := o.dst) (v := wrapG g' v) (slots := slots) h3 (by exact hp) (wrapG_ok hgg' (by rw [guard_append hgg]; exact hok) hv)
        exact step_value hr (R_quiet h4 q) (Fr.quiet rfl q)
  · rename_i why hl
    split at h1
    · -- a call
      rename_i f args ats ho
      split at h1
      · rename_i key sg hsg
        obtain ⟨ss, h2, h3⟩ := bind_ok h1
        obtain ⟨xs, h4, h5⟩ := bind_ok h3
        dsimp only at h5
        cases hra : resAll sg.results S.n S.heap.length with
        | mk rs bs =>
        rw [hra] at h5
        dsimp only at h5
        obtain ⟨v, h6, h7⟩ := bind_ok h5
        split at h7
        · cases h7
        · rename_i hfr
          obtain ⟨slots, hp, h8⟩ := bind_ok h7
          simp only [Except.ok.injEq, Prod.mk.injEq] at h8
          obtain ⟨rfl, rfl, rfl⟩ := h8
          refine ⟨hw, hgg, fun hno => ?_, fun hok ρ' hp' => ?_⟩
          · cases hgs : g'.isSome with
            | false => rw [isSome_false hgs] at hno; cases hno
            | true =>
              have hb : bs = [] := by
                cases hbe : bs.isEmpty with
                | true => simpa using hbe
                | false => exact absurd ⟨hgs, .inl hbe⟩ hfr
              have hf : freshSV S.n (resCount sg.results) v = true := by
                cases hf : freshSV S.n (resCount sg.results) v with
                | true => rfl
                | false => exact absurd ⟨hgs, .inr hf⟩ hfr
              subst hb
              have := R_skip hR hgg hno hp hf
              exact ⟨by simp, by simpa [effLen] using this⟩
          · simp only [effRun] at hp'
            split at hp'
            · rename_i ds hds
              split at hp'
              · rename_i hcnt
                simp only [Option.some.injEq] at hp'
                subst hp'
                have hc := call_ok (hE.sig _ _ _ hsg) ho hR hok hgg h2 h4 (v := v) (by rw [hra]; exact need_ok h6) hp hds hcnt
                rw [hra] at hc
                exact hc
              · cases hp'
            · cases hp'
      · cases h1
    · -- box
      rename_i t x ho
      split at h1
      · cases h1
      · rename_i hgs
        have hg := isSome_false (by simpa using hgs)
        subst hg
        obtain ⟨s, h2, h3⟩ := bind_ok h1
        split at h3
        · rename_i ag cs hcs
          split at h3
          · rename_i hpl
            obtain ⟨slots, hp, h4⟩ := bind_ok h3
            simp only [Except.ok.injEq, Prod.mk.injEq] at h4
            obtain ⟨rfl, rfl, rfl⟩ := h4
            refine ⟨hw, hgg, fun hno => (by cases hno), fun _ ρ' hp' => ?_⟩
            simp only [effRun, pushAll, Option.some.injEq] at hp'
            subst hp'
            have hC := svCells_ok hcs hpl (getSV_ok h2 hR.slots)
            obtain ⟨μ', hB, hfr⟩ := R_box (T := t) hR hC hp
            refine step_value ?_ hB (hfr _)
            simp [execOp, ho, Instr.box, newVar, newRow]
          · cases h3
        · cases h3
    · -- alloc
      rename_i t ho
      split at h1
      · cases h1
      · rename_i hgs
        have hg := isSome_false (by simpa using hgs)
        subst hg
        obtain ⟨i, h2, h3⟩ := bind_ok h1
        obtain ⟨z, h4, h5⟩ := bind_ok h3
        obtain ⟨cs, h6, h7⟩ := bind_ok h5
        obtain ⟨slots, hp, h8⟩ := bind_ok h7
        simp only [Except.ok.injEq, Prod.mk.injEq] at h8
        obtain ⟨rfl, rfl, rfl⟩ := h8
        refine ⟨hw, hgg, fun hno => (by cases hno), fun _ ρ' hp' => ?_⟩
        simp only [effRun, pushAll, Option.some.injEq] at hp'
        subst hp'
        obtain ⟨μ', hB, hfr⟩ := R_box (T := t) hR (litCells_ok (need_ok h6)) hp
        refine step_value ?_ hB (hfr _)
        simp [execOp, ho, Instr.alloc, zeroValue, typeInfo, need_ok h2, need_ok h4, newVar, newRow]
    · -- store
      rename_i t p x ho
      split at h1
      · cases h1
      · rename_i hgs
        have hg := isSome_false (by simpa using hgs)
        subst hg
        obtain ⟨pa, h2, h3⟩ := bind_ok h1
        obtain ⟨s, h4, h5⟩ := bind_ok h3
        obtain ⟨sz, h6, h7⟩ := bind_ok h5
        have hz := need_ok h6
        split at h7
        · rename_i ag vs β off hvs
          split at h7
          · rename_i cs hcs
            split at h7
            · rename_i hlen
              obtain ⟨slots, hp, h8⟩ := bind_ok h7
              simp only [Except.ok.injEq, Prod.mk.injEq] at h8
              obtain ⟨rfl, rfl, rfl⟩ := h8
              refine ⟨hw, hgg, fun hno => (by cases hno), fun _ ρ' hp' => ?_⟩
              simp only [effRun, pushAll, Option.some.injEq] at hp'
              subst hp'
              have hC := svCells_ok hvs hlen.2.2 (getSV_ok h4 hR.slots)
              obtain ⟨_, b, hb, hpv⟩ := getSV_ok h2 hR.slots
              obtain ⟨b', arr, T, hb', hmine, hheap, hC0⟩ := hR.blocks β _ hcs
              rw [hb] at hb'
              simp only [Value.pointer.injEq, Option.some.injEq, Addr.mk.injEq, and_true] at hb'
              subst hb'
              have hcl := hC0.length
              have hvl := hC.length
              have hone := CVRs_one hlen.2.2 hC
              simp only [Array.length_toList] at hcl hvl
              have hst := run_storeCells_at E.P b off T (a.eval x).cells.toList 0 arr w hheap (by simp; omega) hone
              simp only [Nat.add_zero] at hst
              have hch := R_change (w' := w.setRow b (arr.toList.take off ++ (a.eval x).cells.toList ++ arr.toList.drop (off + (a.eval x).cells.toList.length)).toArray) (sb := .var (cs.take off ++ vs ++ cs.drop (off + sz))) hR
                ⟨_, hcs, by simp⟩ rfl rfl rfl (by simp) (fun k hk => setRow_other w b k _ (fun e => hk (by rw [hb, e]; rfl)))
                (fun k hk => by rw [hb] at hk; simp only [blkOf, Option.some.injEq] at hk; subst hk; exact hmine)
                (fun hgr => by
                  refine ⟨b, _, T, hb, hmine, setRow_heap w b arr _ T _ hheap, ?_⟩
                  have e3 : off + (a.eval x).cells.toList.length = off + sz := by simp; omega
                  have h9 := (((hC0.take off).append hC).append (hC0.drop (off + sz))).mono hgr
                  rw [← e3] at h9 ⊢
                  exact h9)
              have hput := R_put (dst := o.dst) (v := SV.undef) (u := Go.undef) (slots := slots) hch (by exact hp) trivial
              refine step_skip ?_ hput ⟨⟨_, rfl⟩, fun _ _ => rfl, fun k _ hk => setRow_other w b k _ (fun e => hk β (by simp [touchOf, ho, h2]) (by rw [hb, e]; rfl)), fun γ hγ hl => by have := live_lt hl; simp at this; omega, by simp⟩
              have hsz : (a.eval x).cells.size = sz := by omega
              simp [execOp, ho, hpv, Instr.storeAt, Instr.sureAddr, storeVar, sizeB_run hz, hsz] at hst ⊢
              simp [hst]
            · cases h7
          · cases h7
        · cases h7
    · cases h1

end
end Vs
