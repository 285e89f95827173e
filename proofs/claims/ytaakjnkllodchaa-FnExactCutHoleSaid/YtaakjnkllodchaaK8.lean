/-
  ShrinkRing: what the functions compute, and the law.
-/
import Derived.Test.YtaakjnkllodchaaK7
set_option maxHeartbeats 4000000
namespace Vs
open Go
def lawM (vs : List V3) (ts : List (List Int)) : Prop := vs.length < 9223372036854775808 ∧ ts.length < 9223372036854775808 ∧ ∀ t ∈ ts, t.length < 9223372036854775808
theorem F142_m {vs : List V3} {ts : List (List Int)} (h : lawM vs ts) : F142 [vl vs, tl ts, .int 1048576] = some [.int (szP 1048576 (szM vs ts))] := by
 simp only [F142, dV_vl, dT_tl, Option.bind_some]
 rw [if_pos ⟨trivial, h.1, h.2.1, h.2.2⟩]
theorem szP_neg {n : Nat} (h : ¬ n ≤ 1048576) : szP 1048576 n = -1 := by
 unfold szP
 rw [if_pos (by omega)]
theorem szP_pos {n : Nat} (h : n ≤ 1048576) : szP 1048576 n = 1048576 - n := by
 unfold szP
 rw [if_neg (by omega)]
attribute [local irreducible] tif tjoin IntKind.wrap feq fadd fmul fsub fdiv fgt i2f sameP wide eqV vl il tl totL szM szP marksV marksT inr triP validP

theorem fitsd_vl {W : World} {cs : List CT} {xs : List D} (h : FitsD W (.s1 eV :: cs) xs) : ∃ vs ys, xs = vl vs :: ys ∧ vs.length < 9223372036854775808 ∧ FitsD W cs ys := by
 match xs, h with
 | d :: ds, ⟨⟨v, ls, hd, hr⟩, hs, _, h⟩ =>
  have : ∃ vs : List V3, ls.map (unflat true) = vs.map vec := by
   rcases hr with ⟨_, rfl⟩ | ⟨_, _, _, xs, _, _, _, _, hr⟩
   ·exact ⟨[], rfl⟩
   ·exact vl_of_rows hr
  obtain ⟨vs, hv⟩ := this;have e : d = vl vs := by rw [hd, show eV.agg = true from rfl, hv]; unfold vl; rfl
  have h1 := hs _ (by rw [e]; unfold vl; rfl)
  refine ⟨vs, ds, by rw [e], ?_, h⟩
  simp [maxLen] at h1;omega
theorem il_of_rows : ∀ {ls : List (List D)} {xs : List Value}, RdRow RdB [i8] xs ls → ∃ l : List Int, ls.map (unflat false) = l.map D.int
 | [], _, _ => ⟨[], rfl⟩
 | _ :: _, _, ⟨_, _, _, a, b⟩ => by
  obtain ⟨_, hd⟩ := a.length;obtain ⟨l, hl⟩ := il_of_rows b;obtain ⟨_, d, _, e, q, _, h⟩ := a.get (j := 0) rfl;refine ⟨q :: l, ?_⟩;rw [List.map_cons, hl, List.map_cons]
  congr 1
  simp only [unflat];rw [List.headD_eq_head?_getD, List.head?_eq_getElem?, e, h];rfl
theorem il_of_sl {W : World} {F : Nat → Prop} {v : Value} {d : D} (h : RdSl W F (rr1 ei) false v d) : ∃ l : List Int, d = il l := by
 obtain ⟨ls, hd, hr⟩ := h
 have : ∃ l : List Int, ls.map (unflat false) = l.map D.int := by
  rcases hr with ⟨_, rfl⟩ | ⟨_, _, _, xs, _, _, _, _, hr⟩
  ·exact ⟨[], rfl⟩
  ·exact il_of_rows hr
 obtain ⟨l, hl⟩ := this
 exact ⟨l, by rw [hd, hl]; unfold il; rfl⟩
theorem tl_of_rows {W : World} {F : Nat → Prop} : ∀ {ls : List (List D)} {xs : List Value}, RdRow (fun (_ : Unit) v d => RdSl W F (rr1 ei) false v d) [()] xs ls → ∃ l : List (List Int), ls.map (unflat false) = l.map il
 | [], _, _ => ⟨[], rfl⟩
 | _ :: _, _, ⟨_, _, _, a, b⟩ => by
  obtain ⟨l, hl⟩ := tl_of_rows b;obtain ⟨_, d, _, e, h⟩ := a.get (j := 0) rfl;obtain ⟨t, ht⟩ := il_of_sl h;refine ⟨t :: l, ?_⟩;rw [List.map_cons, hl, List.map_cons]
  congr 1
  simp only [unflat];rw [List.headD_eq_head?_getD, List.head?_eq_getElem?, e, ht];rfl
theorem fitsd_tl {W : World} {cs : List CT} {xs : List D} (h : FitsD W (.s2 ei :: cs) xs) : ∃ ts ys, xs = tl ts :: ys ∧ (ts.length < 9223372036854775808 ∧ ∀ t ∈ ts, t.length < 9223372036854775808) ∧ FitsD W cs ys := by
 match xs, h with
 | d :: ds, ⟨⟨v, ls, hd, hr⟩, hs, hq, h⟩ =>
  have : ∃ ts : List (List Int), ls.map (unflat false) = ts.map il := by
   rcases hr with ⟨_, rfl⟩ | ⟨_, _, _, xs, _, _, _, _, hr⟩
   ·exact ⟨[], rfl⟩
   ·exact tl_of_rows hr
  obtain ⟨ts, hv⟩ := this;have e : d = tl ts := by rw [hd, hv]; unfold tl; rfl
  have h1 := hs _ (by rw [e]; unfold tl; rfl)
  refine ⟨ts, ds, by rw [e], ⟨?_, fun t ht => ?_⟩, h⟩
  ·simp [maxLen] at h1
   omega
  ·have h2 := hq _ (by rw [e]; unfold tl; rfl) (il t) (List.mem_map.2 ⟨t, ht, rfl⟩) (t.map .int) (by unfold il; rfl)
   simp [maxLen] at h2;omega
theorem fitsd_int {W : World} {k : IntKind} {cs : List CT} {xs : List D} (h : FitsD W (.b (.int k) :: cs) xs) : ∃ x ys, xs = .int x :: ys ∧ FitsD W cs ys := by
 match xs, h with
 | d :: ds, ⟨⟨v, _, _, hd⟩, _, _, h⟩ => exact ⟨_, ds, by rw [hd], h⟩
theorem fitsd_nil {W : World} {xs : List D} (h : FitsD W [] xs) : xs = [] := by
 cases xs with
 | nil => rfl
 | cons d ds => cases h
end Vs
