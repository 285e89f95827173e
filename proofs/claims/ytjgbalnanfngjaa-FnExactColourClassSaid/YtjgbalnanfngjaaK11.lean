/-
  AreColours and WorstSpring: what the functions compute, and the laws.
-/
import Derived.Test.YtjgbalnanfngjaaK10
namespace Vs
open Go

def meetS (s t : Sp) : Bool := s.a == t.a || s.a == t.b || s.b == t.a || s.b == t.b
def rangeP (p : Int) : Bool := decide (0 ≤ p) && decide (p ≤ 200)
theorem F19_range (p : Int) : F19 [.int p, .int 0, .int 200] = some [.bool (rangeP p)] := rfl
def F196 : List D → Option (List D)
  | [.int a, .int b, .flt l, .flt k, .int a2, .int b2, .flt l2, .flt k2] => some [.bool (meetS ⟨a, b, l, k⟩ ⟨a2, b2, l2, k2⟩)]
  | _ => none
theorem F196_m (s t : Sp) : F196 [.int s.a, .int s.b, .flt s.l, .flt s.k, .int t.a, .int t.b, .flt t.l, .flt t.k] = some [.bool (meetS s t)] := rfl
def T196 : T :=
(.op none (.icm .eql) [(.v 0), (.v 4)] <|
(.op (some ((.v 8), false)) .id [(.v 0)] <|
(.op (some ((.v 8), false)) .id [(.v 5)] <|
(.op (some ((.v 8), false)) (.icm .eql) [(.v 9), (.v 10)] <|
(.op none .pick [(.v 8), (.c (.bool true)), (.v 11)] <|
(.op (some ((.v 12), false)) .id [(.v 1)] <|
(.op (some ((.v 12), false)) .id [(.v 4)] <|
(.op (some ((.v 12), false)) (.icm .eql) [(.v 13), (.v 14)] <|
(.op none .pick [(.v 12), (.c (.bool true)), (.v 15)] <|
(.op (some ((.v 16), false)) .id [(.v 1)] <|
(.op (some ((.v 16), false)) .id [(.v 5)] <|
(.op (some ((.v 16), false)) (.icm .eql) [(.v 17), (.v 18)] <|
(.op none .pick [(.v 16), (.c (.bool true)), (.v 19)] <|
(.out 0 [(.v 20)]))))))))))))))
def S196 (_G : Told) (_fuel : Nat) (x0 x1 _x2 _x3 x4 x5 _x6 _x7 : D) : Option (Nat × List D) :=
  (gev none (.icm .eql) [x0, x4]).bind fun x8 =>
  (gev (some (x8, false)) .id [x0]).bind fun x9 =>
  (gev (some (x8, false)) .id [x5]).bind fun x10 =>
  (gev (some (x8, false)) (.icm .eql) [x9, x10]).bind fun x11 =>
  (gev none .pick [x8, (.bool true), x11]).bind fun x12 =>
  (gev (some (x12, false)) .id [x1]).bind fun x13 =>
  (gev (some (x12, false)) .id [x4]).bind fun x14 =>
  (gev (some (x12, false)) (.icm .eql) [x13, x14]).bind fun x15 =>
  (gev none .pick [x12, (.bool true), x15]).bind fun x16 =>
  (gev (some (x16, false)) .id [x1]).bind fun x17 =>
  (gev (some (x16, false)) .id [x5]).bind fun x18 =>
  (gev (some (x16, false)) (.icm .eql) [x17, x18]).bind fun x19 =>
  (gev none .pick [x16, (.bool true), x19]).bind fun x20 =>
  some (0, [x20])
theorem eq196 {G : Told} {fuel : Nat} (x0 x1 x2 x3 x4 x5 x6 x7 : D) : run G fuel T196 [x0, x1, x2, x3, x4, x5, x6, x7] = S196 G fuel x0 x1 x2 x3 x4 x5 x6 x7 := by
  rw [run_eq]; kernel_rfl

attribute [local irreducible] tif tjoin IntKind.wrap feq fadd fmul fsub fdiv fgt fge flt fneg i2f sameP wide eqV vl il tl sl fl totL meetS rangeP validB szM szP marksV marksT inr triP validP rootP

set_option maxHeartbeats 4000000 in
theorem run196 {G : Told} : ∀ ds rs, F196 ds = some rs → ∃ fuel, run G fuel T196 ds = some (0, rs) := by
  intro ds rs h
  unfold F196 at h
  split at h <;> simp only [Option.some.injEq, reduceCtorEq] at h
  subst h
  rename_i a b l k a2 b2 l2 k2
  refine ⟨0, ?_⟩
  rw [eq196]
  unfold S196 meetS
  cases h1 : a == a2
  case true =>
    repeat' first
      | with_reducible refine st_ift ?_
      | with_reducible refine st_iff ?_
      | ((with_reducible apply st_callt); assumption; exact rfl; exact rfl; assumption)
      | ((with_reducible apply st_callf); assumption; exact rfl; exact rfl; assumption)
      | ((with_reducible apply st_call); assumption; exact rfl; exact rfl; exact rfl)
      | ((with_reducible apply st_wide); exact rfl; exact rfl)
      | ((with_reducible apply st_skip); exact rfl)
      | ((with_reducible apply st_t); exact rfl; exact rfl)
      | ((with_reducible apply st_f); exact rfl; exact rfl)
      | ((with_reducible apply st_t); exact rfl; assumption)
      | ((with_reducible apply st_f); exact rfl; assumption)
      | ((with_reducible apply st_some); exact rfl)
      | exact rfl
  cases h2 : a == b2
  case true =>
    repeat' first
      | with_reducible refine st_ift ?_
      | with_reducible refine st_iff ?_
      | ((with_reducible apply st_callt); assumption; exact rfl; exact rfl; assumption)
      | ((with_reducible apply st_callf); assumption; exact rfl; exact rfl; assumption)
      | ((with_reducible apply st_call); assumption; exact rfl; exact rfl; exact rfl)
      | ((with_reducible apply st_wide); exact rfl; exact rfl)
      | ((with_reducible apply st_skip); exact rfl)
      | ((with_reducible apply st_t); exact rfl; exact rfl)
      | ((with_reducible apply st_f); exact rfl; exact rfl)
      | ((with_reducible apply st_t); exact rfl; assumption)
      | ((with_reducible apply st_f); exact rfl; assumption)
      | ((with_reducible apply st_some); exact rfl)
      | exact rfl
  cases h3 : b == a2
  case true =>
    repeat' first
      | with_reducible refine st_ift ?_
      | with_reducible refine st_iff ?_
      | ((with_reducible apply st_callt); assumption; exact rfl; exact rfl; assumption)
      | ((with_reducible apply st_callf); assumption; exact rfl; exact rfl; assumption)
      | ((with_reducible apply st_call); assumption; exact rfl; exact rfl; exact rfl)
      | ((with_reducible apply st_wide); exact rfl; exact rfl)
      | ((with_reducible apply st_skip); exact rfl)
      | ((with_reducible apply st_t); exact rfl; exact rfl)
      | ((with_reducible apply st_f); exact rfl; exact rfl)
      | ((with_reducible apply st_t); exact rfl; assumption)
      | ((with_reducible apply st_f); exact rfl; assumption)
      | ((with_reducible apply st_some); exact rfl)
      | exact rfl
  repeat' first
    | with_reducible refine st_ift ?_
    | with_reducible refine st_iff ?_
    | ((with_reducible apply st_callt); assumption; exact rfl; exact rfl; assumption)
    | ((with_reducible apply st_callf); assumption; exact rfl; exact rfl; assumption)
    | ((with_reducible apply st_call); assumption; exact rfl; exact rfl; exact rfl)
    | ((with_reducible apply st_wide); exact rfl; exact rfl)
    | ((with_reducible apply st_skip); exact rfl)
    | ((with_reducible apply st_t); exact rfl; exact rfl)
    | ((with_reducible apply st_f); exact rfl; exact rfl)
    | ((with_reducible apply st_t); exact rfl; assumption)
    | ((with_reducible apply st_f); exact rfl; assumption)
    | ((with_reducible apply st_some); exact rfl)
    | exact rfl
/-! ### Arguments -/
abbrev eS : ET := ⟨true, [i8, i8, f1, f1]⟩
abbrev eW : ET := ⟨false, [f1]⟩
theorem spr_of_cells {vs : List Value} {ds : List D} (h : RdCs RdB [i8, i8, f1, f1] vs ds) : ∃ s : Sp, D.agg ds = spr s := by
  obtain ⟨_, hd⟩ := h.length
  match ds, hd, h with
  | [a, b, c, d], _, h =>
    obtain ⟨_, _, _, e1, _, _, h1⟩ := h.get (j := 0) rfl
    obtain ⟨_, _, _, e2, _, _, h2⟩ := h.get (j := 1) rfl
    obtain ⟨_, _, _, e3, _, _, h3⟩ := h.get (j := 2) rfl
    obtain ⟨_, _, _, e4, _, _, h4⟩ := h.get (j := 3) rfl
    cases e1
    cases e2
    cases e3
    cases e4
    exact ⟨⟨_, _, _, _⟩, by rw [h1, h2, h3, h4]; rfl⟩
theorem sl_of_rows : ∀ {ls : List (List D)} {xs : List Value}, RdRow RdB [i8, i8, f1, f1] xs ls → ∃ ss : List Sp, ls.map (unflat true) = ss.map spr
  | [], _, _ => ⟨[], rfl⟩
  | _ :: _, _, ⟨_, _, _, a, b⟩ => by
    obtain ⟨v, hv⟩ := spr_of_cells a
    obtain ⟨vs, hs⟩ := sl_of_rows b
    exact ⟨v :: vs, by simp [unflat, hv, hs]⟩
theorem fl_of_rows : ∀ {ls : List (List D)} {xs : List Value}, RdRow RdB [f1] xs ls → ∃ l : List Nat, ls.map (unflat false) = l.map D.flt
  | [], _, _ => ⟨[], rfl⟩
  | _ :: _, _, ⟨_, _, _, a, b⟩ => by
    obtain ⟨_, hd⟩ := a.length
    obtain ⟨l, hl⟩ := fl_of_rows b
    obtain ⟨_, d, _, e, q, _, h⟩ := a.get (j := 0) rfl
    refine ⟨canon .f32 q :: l, ?_⟩
    rw [List.map_cons, hl, List.map_cons]
    congr 1
    simp only [unflat]
    rw [List.headD_eq_head?_getD, List.head?_eq_getElem?, e, h]
    rfl
theorem fitsd_sl {W : World} {cs : List CT} {xs : List D} (h : FitsD W (.s1 eS :: cs) xs) : ∃ ss ys, xs = sl ss :: ys ∧ ss.length < 9223372036854775808 ∧ FitsD W cs ys := by
  match xs, h with
  | d :: ds, ⟨⟨v, ls, hd, hr⟩, hs, _, h⟩ =>
    have : ∃ ss : List Sp, ls.map (unflat true) = ss.map spr := by
      rcases hr with ⟨_, rfl⟩ | ⟨_, _, _, xs, _, _, _, _, hr⟩
      · exact ⟨[], rfl⟩
      · exact sl_of_rows hr
    obtain ⟨ss, hv⟩ := this
    have e : d = sl ss := by rw [hd, show eS.agg = true from rfl, hv]; unfold sl; rfl
    have h1 := hs _ (by rw [e]; unfold sl; rfl)
    refine ⟨ss, ds, by rw [e], ?_, h⟩
    simp [maxLen] at h1
    omega
theorem fitsd_fl {W : World} {cs : List CT} {xs : List D} (h : FitsD W (.s1 eW :: cs) xs) : ∃ ws ys, xs = fl ws :: ys ∧ ws.length < 9223372036854775808 ∧ FitsD W cs ys := by
  match xs, h with
  | d :: ds, ⟨⟨v, ls, hd, hr⟩, hs, _, h⟩ =>
    have : ∃ ws : List Nat, ls.map (unflat false) = ws.map D.flt := by
      rcases hr with ⟨_, rfl⟩ | ⟨_, _, _, xs, _, _, _, _, hr⟩
      · exact ⟨[], rfl⟩
      · exact fl_of_rows hr
    obtain ⟨ws, hv⟩ := this
    have e : d = fl ws := by rw [hd, show eW.agg = false from rfl, hv]; unfold fl; rfl
    have h1 := hs _ (by rw [e]; unfold fl; rfl)
    refine ⟨ws, ds, by rw [e], ?_, h⟩
    simp [maxLen] at h1
    omega
end Vs
