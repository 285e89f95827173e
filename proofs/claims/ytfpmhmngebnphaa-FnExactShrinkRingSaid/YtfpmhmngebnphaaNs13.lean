/-
  One operation in the order of the text: the theorem.
-/
import Derived.Test.YtfpmhmngebnphaaNt6
namespace Vs
open Go Go.RowKit

section
variable {P : Program} {X : Nat → Prop} {M : Hand} {w0 w : World} {S : SS} {μ : Mu} {ρ : List D} {a : Act}

theorem isSome_false {g : Guard} (h : g.isSome = false) : g = none := by cases g with | none => rfl | some _ => cases h

theorem optSV {y : Option Operand} {so : Option SV} (hS : ∀ (i : Nat) s, S.slots[i]? = some s → SVR w (Fz X S.heap μ w) S.heap.length μ ρ s (a.tmps.getD i Go.undef))
    (hy : (match y with | none => .ok none | some y => (do let v ← getSV S y; Except.ok (some v) : Res (Option SV)) : Res (Option SV)) = .ok so) : OptR (SVR w (Fz X S.heap μ w) S.heap.length μ ρ) so (y.map a.eval) := by
  cases y with
  | none => simp only [Except.ok.injEq] at hy; subst hy; trivial
  | some y =>
    obtain ⟨v', g1, g2⟩ := bind_ok hy
    simp only [Except.ok.injEq] at g2
    subst g2
    exact getSV_ok g1 hS

theorem hop_ok {o : Oper} {v : SV} {ps : List Push} {heap' : List SB} {tch : List Nat} {ρ' : List D} (h : hop P S o = .ok (v, ps, heap', tch)) (hR : R X M w0 S μ ρ a w) (hp : pushAll ps ρ = some ρ') : HopOk P X M w0 S μ o a w ρ' v heap' tch := by
  unfold hop at h
  split at h
  · -- box
    rename_i t x ho
    obtain ⟨s, h2, h3⟩ := bind_ok h
    split at h3
    · rename_i ag cs hcs
      split at h3
      · rename_i hpl
        simp only [Except.ok.injEq, Prod.mk.injEq] at h3
        obtain ⟨rfl, rfl, rfl, rfl⟩ := h3
        simp only [pushAll, Option.some.injEq] at hp
        subst hp
        refine box_hop (T := t) hR ?_ (svCells_ok hcs hpl (getSV_ok h2 hR.slots))
        simp [execOp, ho, Instr.box, newVar, newRow]
      · cases h3
    · cases h3
  · -- alloc
    rename_i t ho
    obtain ⟨i, h2, h3⟩ := bind_ok h
    obtain ⟨z, h4, h5⟩ := bind_ok h3
    obtain ⟨cs, h6, h7⟩ := bind_ok h5
    simp only [Except.ok.injEq, Prod.mk.injEq] at h7
    obtain ⟨rfl, rfl, rfl, rfl⟩ := h7
    simp only [pushAll, Option.some.injEq] at hp
    subst hp
    refine box_hop (T := t) hR ?_ (litCells_ok (need_ok h6))
    simp [execOp, ho, Instr.alloc, zeroValue, typeInfo, need_ok h2, need_ok h4, newVar, newRow]
  · -- store
    rename_i t p x ho
    obtain ⟨pa, h2, h3⟩ := bind_ok h
    obtain ⟨s, h4, h5⟩ := bind_ok h3
    split at h5
    · rename_i β off
      obtain ⟨sz, h6, h7⟩ := bind_ok h5
      split at h7
      · rename_i ag vs hvs
        split at h7
        · rename_i cs hcs
          split at h7
          · rename_i hlen
            simp only [Except.ok.injEq, Prod.mk.injEq] at h7
            obtain ⟨rfl, rfl, rfl, rfl⟩ := h7
            simp only [pushAll, Option.some.injEq] at hp
            subst hp
            exact store_var_hop ho hR h2 h4 (need_ok h6) hvs hcs hlen
          · cases h7
        · cases h7
      · cases h7
    · exact store_elem_hop ho hR h2 h4 h5 hp
    · cases h5
  · -- a slice that is written out
    rename_i t len parts ho
    obtain ⟨l, h2, h3⟩ := bind_ok h
    exact build_hop ho hR h2 h3 hp
  · -- a slice that is made
    rename_i t l c ho
    obtain ⟨sa, h2, h3⟩ := bind_ok h
    obtain ⟨sb, h4, h5⟩ := bind_ok h3
    exact make_hop ho hR h2 h4 h5 hp
  · -- append
    rename_i args ats ho
    obtain ⟨ss, h2, h3⟩ := bind_ok h
    split at h3
    · rename_i sa sb t t' hat
      split at h3
      · rename_i ht
        subst ht
        obtain ⟨hl, hx⟩ := getSVs_ok (g := none) rfl hR.slots h2
        obtain ⟨s, x, hargs⟩ : ∃ s x, args.toList = [s, x] := by
          match e : args.toList, hl with
          | [s, x], _ => exact ⟨s, x, rfl⟩
        rw [hargs] at hx
        exact append_hop ho hargs hat hR (hx 0 _ _ rfl rfl) (hx 1 _ _ rfl rfl) h3 hp
      · cases h3
    · cases h3
  · -- a part of an own slice, which is read from now on
    rename_i t x lo hi ho
    obtain ⟨s, h2, h3⟩ := bind_ok h
    split at h3
    · rename_i β
      obtain ⟨slo, h4, h5⟩ := bind_ok h3
      obtain ⟨shi, h6, h7⟩ := bind_ok h5
      split at h7
      · rename_i et e l hs
        obtain ⟨⟨v', ps'⟩, h8, h9⟩ := bind_ok h7
        simp only [Except.ok.injEq, Prod.mk.injEq] at h9
        obtain ⟨rfl, rfl, rfl, rfl⟩ := h9
        obtain ⟨f1, f2⟩ := hR.freed hs rfl
        obtain ⟨d, hd, hrd⟩ := own_read hR f1 f2 hs
        obtain ⟨ls, e1, _⟩ := rowRd_sl hrd (fun b e => by cases e)
        subst e1
        exact freeze_hop ho hR h2 (optSV hR.slots h4) (optSV hR.slots h6) hs rfl hd hrd h8 hp
      · rename_i et e' e ver l hs
        obtain ⟨⟨v', ps'⟩, h8, h9⟩ := bind_ok h7
        simp only [Except.ok.injEq, Prod.mk.injEq] at h9
        obtain ⟨rfl, rfl, rfl, rfl⟩ := h9
        obtain ⟨f1, f2⟩ := hR.freed hs rfl
        obtain ⟨_, n, ls, b1, _, b2, b3, b4, _, _⟩ := hR.blocks β _ hs
        exact freeze_hop ho hR h2 (optSV hR.slots h4) (optSV hR.slots h6) hs rfl b2 (ownRows_read b1 b3 b4 f2) h8 hp
      · cases h7
    · cases h3
  · cases h

theorem callee_ok {fo : Operand} {f : FuncId} {caps : List SV} {o : Oper} {args : Array Operand} {ats : Array TypeId} (h : calleeOf S fo = .ok (f, caps)) (hR : R X M w0 S μ ρ a w) (ho : o.op = .call { callee := .value fo, args, argTypes := ats }) :
    ∃ cs : List Value, cs.length = caps.length ∧ (∀ (j : Nat) s u, caps[j]? = some s → cs[j]? = some u → SVR w (Fz X S.heap μ w) S.heap.length μ ρ s u) ∧ execOp a.eval o = callFunc f (args.toList.map a.eval ++ cs).toArray := by
  have e2 : ∀ cs : Array Value, (#[] ++ args.map a.eval ++ cs : Array Value) = (args.toList.map a.eval ++ cs.toList).toArray := fun cs => by apply Array.ext'; simp
  unfold calleeOf at h
  split at h
  · simp only [Except.ok.injEq, Prod.mk.injEq] at h
    obtain ⟨rfl, rfl⟩ := h
    refine ⟨[], rfl, by simp, ?_⟩
    have := e2 #[]
    rw [show ([] : List Value) = (#[] : Array Value).toList from rfl, ← this]
    obtain ⟨dst, op, ty, pos, after, guard⟩ := o
    simp only at ho
    subst ho
    rfl
  · rename_i t
    obtain ⟨s, h1, h2⟩ := bind_ok h
    split at h2
    · rename_i f' cs0
      simp only [Except.ok.injEq, Prod.mk.injEq] at h2
      obtain ⟨rfl, rfl⟩ := h2
      obtain ⟨cs, hv, hl, hc⟩ := getSV_ok h1 hR.slots
      refine ⟨cs.toList, by simp [hl], fun j s u hj hu => ?_, ?_⟩
      · rw [List.getElem?_map] at hj
        cases hcj : cs0[j]? with
        | none => rw [hcj] at hj; cases hj
        | some c =>
          rw [hcj] at hj
          simp only [Option.map_some, Option.some.injEq] at hj
          subst hj
          exact hc j c u hcj (by simpa using hu)
      · rw [← e2]
        obtain ⟨dst, op, ty, pos, after, guard⟩ := o
        simp only at ho
        subst ho
        have hv' : a.eval (Operand.tmp t) = _ := hv
        show (do let d ← Deferred.ofValue (a.eval (.tmp t)) (args.map a.eval); invoke d.target d.args) = _
        rw [hv']
        rfl
    · cases h2
  · cases h

theorem sop_ok {E : Env} {G : Nat → List D → Option (List D)} (hE : EnvOk E G) {ops : Array Oper} {o : Oper} {S' : SS} {g : Guard} {eff : Eff} {tch : List Nat} (h : sop E ops.toList S o = .ok (S', g, eff, tch)) (hR : R X M w0 S μ ρ a w) :
    Region.wanted o (yielded ops a.tmps) = g.ok ρ ∧ (∀ x want, g = some (x, want) → x.get ρ ≠ none) ∧
    (g.ok ρ = false → S'.heap = S.heap ∧ tch = [] ∧ R X M w0 S' μ (ρ ++ List.replicate (effLen eff) .undef) (a.put o.dst Go.undef) w) ∧
    (g.ok ρ = true → ∀ ρ', effRun G ρ eff = some ρ' → StepOk E.P X M w0 S μ S' o tch a w ρ') := by
  unfold sop at h
  obtain ⟨g', hg0, h1⟩ := bind_ok h
  obtain ⟨hw, hgg⟩ := guardOf_ok hg0 hR
  clear h
  split at h1
  · -- a local operation
    rename_i r hl
    dsimp only at h1
    cases hop : ownPlace S.n g' r with
    | mk v ps =>
    rw [hop] at h1
    dsimp only at h1
    split at h1
    · cases h1
    · rename_i hfr
      obtain ⟨slots, hp, h2⟩ := bind_ok h1
      simp only [Except.ok.injEq, Prod.mk.injEq] at h2
      obtain ⟨rfl, rfl, rfl, rfl⟩ := h2
      refine ⟨hw, hgg, fun hno => ?_, fun hok ρ' hp' => ?_⟩
      · refine ⟨rfl, rfl, R_skip hR hgg hno hp ?_⟩
        cases hgs : g'.isSome with
        | false => rw [isSome_false hgs] at hno; cases hno
        | true =>
          cases hf : freshSV S.n ps.length v with
          | true => rfl
          | false => exact absurd ⟨hgs, hf⟩ hfr
      · obtain ⟨u, w', hr, q, hv⟩ := lop_place hE.ext hl hop hR hok hp'
        obtain ⟨σ, rfl, hσ⟩ := pushAll_env hp'
        have h3 := R_env hR σ
        rw [hσ] at h3
        have hgg' : ∀ x want, g' = some (x, want) → x.get (ρ ++ σ) ≠ none := fun x want e => by
          have := hgg x want e
          cases hx : x.get ρ with
          | none => exact absurd hx this
          | some d => rw [Atom.get_append hx]; simp
        have h4 := R_put (dst := o.dst) (v := wrapG g' v) (slots := slots) h3 (by exact hp) (wrapG_ok hgg' (by rw [guard_append hgg]; exact hok) hv)
        exact step_value hr (R_quiet h4 q) (Move.none q.heap q.os q.tape q.output)
  · rename_i why hl
    split at h1
    · -- a call
      rename_i fo args ats ho
      obtain ⟨⟨f, caps⟩, h0, h1⟩ := bind_ok h1
      dsimp only at h1
      split at h1
      · rename_i key sg hsg
        obtain ⟨ss, h2, h3⟩ := bind_ok h1
        obtain ⟨ar, h4, h5⟩ := bind_ok h3
        cases haf : afterMA ar.mas (S.n + ar.pre.length + resCount sg.results) (S.n + ar.pre.length + (resCount sg.results + sg.keeps.length)) S.heap with
        | mk hE' post =>
        rw [haf] at h5
        dsimp only at h5
        cases hra : resAll sg.results (S.n + ar.pre.length) S.heap.length with
        | mk rs bs =>
        rw [hra] at h5
        dsimp only at h5
        obtain ⟨v, h6, h7⟩ := bind_ok h5
        split at h7
        · cases h7
        · rename_i hown
          split at h7
          · cases h7
          · rename_i hfr
            obtain ⟨slots, hp, h8⟩ := bind_ok h7
            simp only [Except.ok.injEq, Prod.mk.injEq] at h8
            obtain ⟨rfl, rfl, rfl, rfl⟩ := h8
            refine ⟨hw, hgg, fun hno => ?_, fun hok ρ' hp' => ?_⟩
            · cases hgs : g'.isSome with
              | false => rw [isSome_false hgs] at hno; cases hno
              | true =>
                have hb : bs = [] := by
                  cases hbe : bs.isEmpty with
                  | true => simpa using hbe
                  | false => exact absurd ⟨hgs, .inl hbe⟩ hfr
                have hm : ar.mas = [] := by
                  cases hbe : ar.mas.isEmpty with
                  | true => simpa using hbe
                  | false => exact absurd ⟨hgs, .inr (.inl hbe)⟩ hfr
                have hpre : ar.pre = [] := by
                  cases hbe : ar.pre.isEmpty with
                  | true => simpa using hbe
                  | false => exact absurd ⟨hgs, .inr (.inr (.inl hbe))⟩ hfr
                have hf : freshSV (S.n + ar.pre.length) (resCount sg.results + sg.keeps.length) v = true := by
                  cases hf : freshSV (S.n + ar.pre.length) (resCount sg.results + sg.keeps.length) v with
                  | true => rfl
                  | false => exact absurd ⟨hgs, .inr (.inr (.inr hf))⟩ hfr
                rw [hm] at haf
                simp only [afterMA, Prod.mk.injEq] at haf
                obtain ⟨rfl, rfl⟩ := haf
                rw [hpre] at hf
                subst hb
                have := R_skip hR hgg hno hp hf
                exact ⟨by simp, by simp [hm], by simpa [effLen, hpre] using this⟩
            · simp only [effRun] at hp'
              cases hpre : pushAll ar.pre ρ with
              | none => rw [hpre] at hp'; cases hp'
              | some ρ1 =>
              rw [hpre, Option.bind_some] at hp'
              obtain ⟨σ1, rfl, hσ1⟩ := pushAll_env hpre
              split at hp'
              · rename_i ds hds
                split at hp'
                · rename_i hcnt
                  obtain ⟨cs, c1, c2, c3⟩ := callee_ok h0 hR ho
                  obtain ⟨s1, s2⟩ := getSVs_ok hok hR.slots h2
                  simp only [not_or, Decidable.not_not, Bool.not_eq_true, List.any_eq_false, List.contains_iff_mem] at hown
                  have hc := call_ok (vs := args.toList.map a.eval ++ cs) (ss := ss ++ caps) (hE.sig _ _ _ hsg) (by rw [c3]) hR hok hgg (by simp [s1, c1])
                    (fun j s u hj hu => by
                      rcases Nat.lt_or_ge j ss.length with hlt | hge
                      · rw [List.getElem?_append_left hlt] at hj
                        rw [List.getElem?_append_left (by simpa [s1] using hlt)] at hu
                        exact s2 j s u hj hu
                      · rw [List.getElem?_append_right hge] at hj
                        rw [List.getElem?_append_right (by simpa [s1] using hge)] at hu
                        refine c2 _ s u hj ?_
                        simpa [s1] using hu)
                    h4 haf hown.1 hown.2 (v := v) (by rw [hra]; exact need_ok h6) hp hpre hds hcnt hp'
                  obtain ⟨σ2, e2, hσ2⟩ := pushAll_env hp'
                  rw [hra] at hc
                  have hlen : ρ'.length = S.n + ar.pre.length + (resCount sg.results + sg.keeps.length) + post.length := by
                    rw [e2]; simp only [List.length_append, hσ1, hσ2, hcnt, hR.len]
                  rw [hlen] at hc
                  exact hc
                · cases hp'
              · cases hp'
      · cases h1
    · -- an operation on the heap
      split at h1
      · cases h1
      · rename_i hgs
        have hg := isSome_false (by simpa using hgs)
        subst hg
        obtain ⟨⟨v, ps, heap', tc⟩, h2, h3⟩ := bind_ok h1
        dsimp only at h3
        obtain ⟨slots, hp, h4⟩ := bind_ok h3
        simp only [Except.ok.injEq, Prod.mk.injEq] at h4
        obtain ⟨rfl, rfl, rfl, rfl⟩ := h4
        refine ⟨hw, hgg, fun hno => (by cases hno), fun _ ρ' hp' => ?_⟩
        simp only [effRun] at hp'
        have hk := hop_ok h2 hR hp'
        obtain ⟨σ, rfl, hσ⟩ := pushAll_env hp'
        have := hop_step hk hR hp
        rw [hσ] at this
        exact this

end
end Vs
