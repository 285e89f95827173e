/-
  AreColours and WorstSpring: what the functions compute, and the laws.
-/
import Derived.Test.YtjgbalnanfngjaaK10
namespace Vs
open Go

theorem il_inj {a b : List Int} (h : il a = il b) : a = b := by
  have := congrArg unil h
  rwa [unil_il, unil_il] at this
attribute [local irreducible] tif tjoin IntKind.wrap feq fadd fmul fsub fdiv fgt fge flt fneg i2f sameP wide eqV vl il tl sl fl totL longV validB szM szP marksV marksT inr triP validP innerP longP rootP

/-! ### Arguments -/
abbrev eS : ET := ⟨true, [i8, i8, f1, f1]⟩
abbrev eW : ET := ⟨false, [f1]⟩
theorem spr_of_cells {vs : List Value} {ds : List D} (h : RdCs RdB [i8, i8, f1, f1] vs ds) : ∃ s : Sp, D.agg ds = spr s := by
  obtain ⟨_, hd⟩ := h.length
  match ds, hd, h with
  | [a, b, c, d], _, h =>
    obtain ⟨_, _, _, e1, _, _, h1⟩ := h.get (j := 0) rfl
    obtain ⟨_, _, _, e2, _, _, h2⟩ := h.get (j := 1) rfl
    obtain ⟨_, _, _, e3, _, _, h3⟩ := h.get (j := 2) rfl
    obtain ⟨_, _, _, e4, _, _, h4⟩ := h.get (j := 3) rfl
    cases e1
    cases e2
    cases e3
    cases e4
    exact ⟨⟨_, _, _, _⟩, by rw [h1, h2, h3, h4]; rfl⟩
theorem sl_of_rows : ∀ {ls : List (List D)} {xs : List Value}, RdRow RdB [i8, i8, f1, f1] xs ls → ∃ ss : List Sp, ls.map (unflat true) = ss.map spr
  | [], _, _ => ⟨[], rfl⟩
  | _ :: _, _, ⟨_, _, _, a, b⟩ => by
    obtain ⟨v, hv⟩ := spr_of_cells a
    obtain ⟨vs, hs⟩ := sl_of_rows b
    exact ⟨v :: vs, by simp [unflat, hv, hs]⟩
theorem fl_of_rows : ∀ {ls : List (List D)} {xs : List Value}, RdRow RdB [f1] xs ls → ∃ l : List Nat, ls.map (unflat false) = l.map D.flt
  | [], _, _ => ⟨[], rfl⟩
  | _ :: _, _, ⟨_, _, _, a, b⟩ => by
    obtain ⟨_, hd⟩ := a.length
    obtain ⟨l, hl⟩ := fl_of_rows b
    obtain ⟨_, d, _, e, q, _, h⟩ := a.get (j := 0) rfl
    refine ⟨canon .f32 q :: l, ?_⟩
    rw [List.map_cons, hl, List.map_cons]
    congr 1
    simp only [unflat]
    rw [List.headD_eq_head?_getD, List.head?_eq_getElem?, e, h]
    rfl
theorem fitsd_sl {W : World} {cs : List CT} {xs : List D} (h : FitsD W (.s1 eS :: cs) xs) : ∃ ss ys, xs = sl ss :: ys ∧ ss.length < 9223372036854775808 ∧ FitsD W cs ys := by
  match xs, h with
  | d :: ds, ⟨⟨v, ls, hd, hr⟩, hs, _, h⟩ =>
    have : ∃ ss : List Sp, ls.map (unflat true) = ss.map spr := by
      rcases hr with ⟨_, rfl⟩ | ⟨_, _, _, xs, _, _, _, _, hr⟩
      · exact ⟨[], rfl⟩
      · exact sl_of_rows hr
    obtain ⟨ss, hv⟩ := this
    have e : d = sl ss := by rw [hd, show eS.agg = true from rfl, hv]; unfold sl; rfl
    have h1 := hs _ (by rw [e]; unfold sl; rfl)
    refine ⟨ss, ds, by rw [e], ?_, h⟩
    simp [maxLen] at h1
    omega
theorem fitsd_fl {W : World} {cs : List CT} {xs : List D} (h : FitsD W (.s1 eW :: cs) xs) : ∃ ws ys, xs = fl ws :: ys ∧ ws.length < 9223372036854775808 ∧ FitsD W cs ys := by
  match xs, h with
  | d :: ds, ⟨⟨v, ls, hd, hr⟩, hs, _, h⟩ =>
    have : ∃ ws : List Nat, ls.map (unflat false) = ws.map D.flt := by
      rcases hr with ⟨_, rfl⟩ | ⟨_, _, _, xs, _, _, _, _, hr⟩
      · exact ⟨[], rfl⟩
      · exact fl_of_rows hr
    obtain ⟨ws, hv⟩ := this
    have e : d = fl ws := by rw [hd, show eW.agg = false from rfl, hv]; unfold fl; rfl
    have h1 := hs _ (by rw [e]; unfold fl; rfl)
    refine ⟨ws, ds, by rw [e], ?_, h⟩
    simp [maxLen] at h1
    omega
theorem fitsd_il {W : World} {cs : List CT} {xs : List D} (h : FitsD W (.s1 ei :: cs) xs) : ∃ l ys, xs = il l :: ys ∧ l.length < 9223372036854775808 ∧ FitsD W cs ys := by
  match xs, h with
  | d :: ds, ⟨⟨v, hr⟩, hs, _, h⟩ =>
    obtain ⟨l, e⟩ := il_of_sl hr
    have h1 := hs _ (by rw [e]; unfold il; rfl)
    refine ⟨l, ds, by rw [e], ?_, h⟩
    simp [maxLen] at h1
    omega

end Vs
