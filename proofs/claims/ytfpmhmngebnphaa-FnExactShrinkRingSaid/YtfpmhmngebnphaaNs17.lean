/-
  A function's text, run through, gives its contract.
-/
import Derived.Test.YtfpmhmngebnphaaNs16
namespace Vs
open Go Go.RowKit

section
variable {P : Program} {X : Nat → Prop} {M : Hand} {w0 w : World} {S : SS} {μ : Mu} {ρ : List D} {a : Act} {G : Nat → List D → Option (List D)} {fuel : Nat}

theorem results_eq (fn : Func) (tmps : Array Value) : results fn tmps = (do
    let vs ← fn.results.mapM (resVarRun tmps)
    pure (if h : vs.size = 1 then vs[0] else .tuple vs)) := by
  rfl

theorem nodup_get {os : List (Option Nat)} (h : (os.filterMap id).Nodup) : ∀ {i j : Nat} {β : Nat}, os[i]? = some (some β) → os[j]? = some (some β) → i = j := by
  induction os with
  | nil => intro i j β hi; simp at hi
  | cons o os ih =>
    intro i j β hi hj
    have key : ∀ {k : Nat}, os[k]? = some (some β) → β ∈ os.filterMap id := fun hk => List.mem_filterMap.2 ⟨_, List.mem_of_getElem? hk, rfl⟩
    have htl : (os.filterMap id).Nodup := by
      cases o with
      | none => simpa using h
      | some x => simp only [List.filterMap_cons, id] at h; exact (List.nodup_cons.1 h).2
    cases i with
    | zero =>
      cases j with
      | zero => rfl
      | succ j =>
        simp only [List.getElem?_cons_zero, Option.some.injEq, List.getElem?_cons_succ] at hi hj
        subst hi
        simp only [List.filterMap_cons, id] at h
        exact absurd (key hj) (List.nodup_cons.1 h).1
    | succ i =>
      cases j with
      | zero =>
        simp only [List.getElem?_cons_zero, Option.some.injEq, List.getElem?_cons_succ] at hi hj
        subst hj
        simp only [List.filterMap_cons, id] at h
        exact absurd (key hi) (List.nodup_cons.1 h).1
      | succ j =>
        simp only [List.getElem?_cons_succ] at hi hj
        rw [ih htl hi hj]

theorem ret_ok {fn : Func} {sg : Sig} {xs : List Atom} {ms : List HM} (h : R (fun _ => False) (handOf ms) w0 S μ ρ a w) (hms : handsP sg.params = ms.map fun m => (m.k, m.keep)) (hx : retAtoms P S sg fn.results.toList = .ok xs) :
    a.defers = [] ∧ ∃ v, (results fn a.tmps).run P w = .ok v w ∧ Keeps (fun b => ∃ h ∈ ms, h.m.own b) w0 w ∧ ResR w0.heap.size w ms sg.results v (evs ρ xs) := by
  unfold retAtoms at hx
  obtain ⟨⟨ys, os⟩, h1, h2⟩ := bind_ok hx
  dsimp only at h2
  obtain ⟨⟨zs, ps⟩, h3, h4⟩ := bind_ok h2
  dsimp only at h4
  split at h4
  · rename_i hn
    simp only [Except.ok.injEq] at h4
    subst h4
    obtain ⟨vs, us, m1, m2, m3, m4, m5⟩ := retAll_ok h h1
    rw [hms] at h3
    obtain ⟨ks, k1, k2⟩ := keptA_ok (ms := ms) h (hs := ms) (fun j m hj => by rw [Nat.zero_add]; simp [handOf, hj]) h3
    have hall := m3.append k2
    refine ⟨h.defers, if h : vs.toArray.size = 1 then vs.toArray[0] else .tuple vs.toArray, ?_, h.keeps, vs, us, ks, evs ρ ys, evs ρ zs, ?_, by simp [evs], m2, k1, ?_, ?_⟩
    · rw [results_eq]
      simp only [Array.mapM_eq_mapM_toList, Sem.run_bind, Sem.run_map, m1, Result.andThen_ok, Sem.run_pure]
    · rw [show sg.results.length = vs.length by rw [m5, m4]]
      split
      · rename_i hl
        rw [dif_pos (by simpa using hl)]
        obtain ⟨v, rfl⟩ := List.length_eq_one_iff.1 hl
        rfl
      · rename_i hl
        rw [dif_neg (by simpa using hl)]
    · intro u hu b hb
      obtain ⟨j, hj⟩ := List.getElem?_of_mem hu
      have hlt : j < (os ++ ps).length := by
        rw [hall.1]
        exact (List.getElem?_eq_some_iff.1 hj).1
      rcases hall.2 j _ u (List.getElem?_eq_getElem hlt) hj with ⟨_, h0⟩ | ⟨β, _, _, _, hm⟩
      · exact absurd hb (h0 b)
      · exact hm b hb
    · intro i j u u' hi hj hij b hb hb'
      have hlt : i < (os ++ ps).length := by rw [hall.1]; exact (List.getElem?_eq_some_iff.1 hi).1
      have hlt' : j < (os ++ ps).length := by rw [hall.1]; exact (List.getElem?_eq_some_iff.1 hj).1
      rcases hall.2 i _ u (List.getElem?_eq_getElem hlt) hi with ⟨_, h0⟩ | ⟨β, e1, l1, rfl, _⟩
      · exact absurd hb (h0 b)
      · rcases hall.2 j _ u' (List.getElem?_eq_getElem hlt') hj with ⟨_, h0⟩ | ⟨γ, e2, l2, rfl, _⟩
        · exact absurd hb' (h0 b)
        · have hβγ : β ≠ γ := by
            intro e
            subst e
            exact hij (nodup_get hn (by rw [List.getElem?_eq_getElem hlt, e1]) (by rw [List.getElem?_eq_getElem hlt', e2]))
          exact h.inj β γ l1 l2 hβγ b (MV.now_own.1 hb) (MV.now_own.1 hb')
  · cases h4

theorem hands_ok {F : Nat → Prop} : ∀ {ps : List PK} {vs : List Value} {ds : List D} {ms : List HM}, ArgsR w F ps vs ds ms → handsP ps = ms.map fun m => (m.k, m.keep) := fun h => by
  rename_i ms
  exact (initP_ok (hl := ms.length) (μ := mu0 ms) (d0 := []) (h := 0) h (fun j m hj => by simp [mu0, hj]) (by omega)).2.2.2.2.1

/-- A FUNCTION RUN THROUGH IS A FUNCTION SHOWN. -/
theorem symFun_sound {E : Env} (hE : EnvOk E G) {f : FuncId} {fn : Func} {c : Code} {sg : Sig} {h : H} {t : T} {F : List D → Option (List D)}
    (hf : E.P.funcs[f]? = some fn) (hname : (fn.name == "runtime.NumGoroutine") = false) (hb : fn.body = some c) (hsym : symFun E fn c sg h = .ok t)
    (hF : ∀ ds rs, F ds = some rs → ∃ fuel, run G fuel t ds = some (0, rs)) : SoundCall E.P f sg F where
  enter := fun args w => MuLone.run_callFunc_enter hf hname hb args w
  calls := fun vs ds ms w rs hargs hap hG => by
    obtain ⟨fuel, hrun⟩ := hF ds rs hG
    have hms := hands_ok hargs
    refine calls_of_wp hf hb ?_
    refine symCode_ok hE c hsym (init_ok hargs hap) hrun (fun S' t' μ' σ a' w' h1 h2 h3 => ?_) (fun e S' l xs μ' σ a' w' h1 h2 h3 => ?_)
    · obtain ⟨xs, g1, g2⟩ := bind_ok h1
      simp only [Except.ok.injEq] at g2
      subst g2
      simp only [run, Option.some.injEq, Prod.mk.injEq, true_and] at h3
      obtain ⟨k1, v, k2, k3, k4⟩ := ret_ok (P := E.P) (fn := fn) (sg := sg) h2 hms g1
      rw [h3] at k4
      exact ⟨k1, v, k2, v, rfl, k3, k4⟩
    · cases e with
      | ret =>
        obtain ⟨ys, g1, g2⟩ := bind_ok h1
        simp only [Except.ok.injEq, Prod.mk.injEq] at g2
        obtain ⟨rfl, rfl⟩ := g2
        simp only [Prod.mk.injEq, true_and] at h3
        obtain ⟨k1, v, k2, k3, k4⟩ := ret_ok (P := E.P) (fn := fn) (sg := sg) h2 hms g1
        rw [← h3] at k4
        exact ⟨k1, v, k2, v, rfl, k3, k4⟩
      | exit id => cases h1

end
end Vs
