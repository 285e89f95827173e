/-
  AreColours and WorstSpring: what the functions compute, and the laws.
-/
import Derived.Test.YtaakjnkllodchaaGreatK10
set_option maxHeartbeats 4000000
namespace Vs
open Go
open Classical in
noncomputable def F201 (ds : List D) : Option (List D) := (dB ds).bind fun p => if h : ∃ s : Sp, p.2 = [.int s.a, .int s.b, .flt s.l, .flt s.k] ∧ inr p.1.vs.length s.a = true ∧ inr p.1.vs.length s.b = true then some (nds (lessV (plc p.1.vs h.choose.b) (plc p.1.vs h.choose.a))) else none
theorem F201_m {B : Bd} {s : Sp} (ha : inr B.vs.length s.a = true) (hb : inr B.vs.length s.b = true) : F201 (bd B ++ [.int s.a, .int s.b, .flt s.l, .flt s.k]) = some (nds (lessV (plc B.vs s.b) (plc B.vs s.a))) := by
 have hx : ∃ t : Sp, ([.int s.a, .int s.b, .flt s.l, .flt s.k] : List D) = [.int t.a, .int t.b, .flt t.l, .flt t.k] ∧ inr B.vs.length t.a = true ∧ inr B.vs.length t.b = true := ⟨s, rfl, ha, hb⟩
 simp only [F201, dB_bd, Option.bind_some]
 rw [dif_pos hx]
 have hs := hx.choose_spec.1
 generalize hx.choose = c at hs ⊢
 simp only [List.cons.injEq, D.int.injEq, D.flt.injEq, and_true] at hs
 rw [hs.1, hs.2.1]
def T201 : T :=
(oo .idx [0, 10] <|
oo (.proj 0) [13] <|
oo (.proj 1) [13] <|
oo (.proj 2) [13] <|
oo .idx [0, 9] <|
oo (.proj 0) [17] <|
oo (.proj 1) [17] <|
oo (.proj 2) [17] <|
cc 13 [14, 15, 16, 18, 19, 20] 3 <|
.out 0 [21, 22, 23])
def S201 (G : Told) (_fuel : Nat) (x0 _x1 _x2 _x3 _x4 _x5 _x6 _x7 _x8 x9 x10 _x11 _x12 : D) : Option (Nat × List D) :=
 (gev none .idx [x0, x10]).bind fun x13 =>
 (gev none (.proj 0) [x13]).bind fun x14 =>
 (gev none (.proj 1) [x13]).bind fun x15 =>
 (gev none (.proj 2) [x13]).bind fun x16 =>
 (gev none .idx [x0, x9]).bind fun x17 =>
 (gev none (.proj 0) [x17]).bind fun x18 =>
 (gev none (.proj 1) [x17]).bind fun x19 =>
 (gev none (.proj 2) [x17]).bind fun x20 =>
 (gcall G none 13 [x14, x15, x16, x18, x19, x20] 3).bind fun e21 =>
 some (0, [e21.getD 0 .undef, e21.getD 1 .undef, e21.getD 2 .undef])
theorem eq201 {G fuel} (x0 x1 x2 x3 x4 x5 x6 x7 x8 x9 x10 x11 x12) : run G fuel T201 [x0, x1, x2, x3, x4, x5, x6, x7, x8, x9, x10, x11, x12] = S201 G fuel x0 x1 x2 x3 x4 x5 x6 x7 x8 x9 x10 x11 x12 := by rw [run_eq]; kernel_rfl
attribute [local irreducible] tif tjoin IntKind.wrap feq fadd fmul fsub fdiv fgt fge flt fneg i2f sameP wide eqV vl il tl sl fl totL longV validB szM szP marksV marksT inr triP validP innerP longP rootP

theorem run201 {G : Told} (g13 : G 13 = F13) : Runs G F201 T201 := by
 intro ds rs h
 unfold F201 at h
 obtain ⟨⟨B, r⟩, hb, h⟩ := Option.bind_eq_some_iff.1 h
 rw [dB_inv hb]
 dsimp only at h
 split at h
 case isFalse => cases h
 rename_i hc
 simp only [Option.some.injEq] at h
 subst h
 have hs := hc.choose_spec
 generalize hc.choose = s at *
 clear hc
 obtain ⟨hr, ha, hb2⟩ := hs
 subst hr
 obtain ⟨vs, ts, ss, fm, bn, ws, x, y, z⟩ := B
 have xa := idx_plc ha
 have xb := idx_plc hb2
 simp only [bd, List.cons_append, List.nil_append] at xa xb ⊢
 refine ⟨0, ?_⟩
 rw [eq201]
 unfold S201
 generalize plc vs s.a = a at *
 generalize plc vs s.b = b at *
 have h1 : F13 [.flt b.x, .flt b.y, .flt b.z, .flt a.x, .flt a.y, .flt a.z] = some [.flt (lessV b a).x, .flt (lessV b a).y, .flt (lessV b a).z] := rfl
 unfold nds
 generalize lessV b a = v at *
 repeat' first
  | with_reducible refine st_ift ?_
  | with_reducible refine st_iff ?_
  | ((with_reducible apply st_call); exact g13; exact rfl; exact h1; exact rfl)
  | ((with_reducible apply st_some); exact xa)
  | ((with_reducible apply st_some); exact xb)
  | ((with_reducible apply st_callt); assumption; exact rfl; exact rfl; assumption)
  | ((with_reducible apply st_callf); assumption; exact rfl; exact rfl; assumption)
  | ((with_reducible apply st_call); assumption; exact rfl; exact rfl; exact rfl)
  | ((with_reducible apply st_wide); exact rfl; exact rfl)
  | ((with_reducible apply st_skip); exact rfl)
  | ((with_reducible apply st_t); exact rfl; exact rfl)
  | ((with_reducible apply st_f); exact rfl; exact rfl)
  | ((with_reducible apply st_t); exact rfl; assumption)
  | ((with_reducible apply st_f); exact rfl; assumption)
  | ((with_reducible apply st_some); exact rfl)
  | exact rfl
abbrev eS : ET := ⟨true, [i8, i8, f1, f1]⟩
abbrev eW : ET := ⟨false, [f1]⟩
theorem spr_of_cells {vs : List Value} {ds : List D} (h : RdCs RdB [i8, i8, f1, f1] vs ds) : ∃ s : Sp, D.agg ds = spr s := by
 obtain ⟨_, hd⟩ := h.length
 match ds, hd, h with
 | [a, b, c, d], _, h =>
  obtain ⟨_, _, _, e1, _, _, h1⟩ := h.get (j := 0) rfl;obtain ⟨_, _, _, e2, _, _, h2⟩ := h.get (j := 1) rfl;obtain ⟨_, _, _, e3, _, _, h3⟩ := h.get (j := 2) rfl;obtain ⟨_, _, _, e4, _, _, h4⟩ := h.get (j := 3) rfl
  cases e1
  cases e2
  cases e3
  cases e4
  exact ⟨⟨_, _, _, _⟩, by rw [h1, h2, h3, h4]; rfl⟩
theorem sl_of_rows : ∀ {ls : List (List D)} {xs : List Value}, RdRow RdB [i8, i8, f1, f1] xs ls → ∃ ss : List Sp, ls.map (unflat true) = ss.map spr
 | [], _, _ => ⟨[], rfl⟩
 | _ :: _, _, ⟨_, _, _, a, b⟩ => by obtain ⟨v, hv⟩ := spr_of_cells a;obtain ⟨vs, hs⟩ := sl_of_rows b;exact ⟨v :: vs, by simp [unflat, hv, hs]⟩
theorem fl_of_rows : ∀ {ls : List (List D)} {xs : List Value}, RdRow RdB [f1] xs ls → ∃ l : List Nat, ls.map (unflat false) = l.map D.flt
 | [], _, _ => ⟨[], rfl⟩
 | _ :: _, _, ⟨_, _, _, a, b⟩ => by
  obtain ⟨_, hd⟩ := a.length;obtain ⟨l, hl⟩ := fl_of_rows b;obtain ⟨_, d, _, e, q, _, h⟩ := a.get (j := 0) rfl;refine ⟨canon .f32 q :: l, ?_⟩;rw [List.map_cons, hl, List.map_cons]
  congr 1
  simp only [unflat];rw [List.headD_eq_head?_getD, List.head?_eq_getElem?, e, h];rfl
theorem fitsd_sl {W : World} {cs : List CT} {xs : List D} (h : FitsD W (.s1 eS :: cs) xs) : ∃ ss ys, xs = sl ss :: ys ∧ ss.length < 9223372036854775808 ∧ FitsD W cs ys := by
 match xs, h with
 | d :: ds, ⟨⟨v, ls, hd, hr⟩, hs, _, h⟩ =>
  have : ∃ ss : List Sp, ls.map (unflat true) = ss.map spr := by
   rcases hr with ⟨_, rfl⟩ | ⟨_, _, _, xs, _, _, _, _, hr⟩
   ·exact ⟨[], rfl⟩
   ·exact sl_of_rows hr
  obtain ⟨ss, hv⟩ := this;have e : d = sl ss := by rw [hd, show eS.agg = true from rfl, hv]; unfold sl; rfl
  have h1 := hs _ (by rw [e]; unfold sl; rfl)
  refine ⟨ss, ds, by rw [e], ?_, h⟩
  simp [maxLen] at h1;omega
theorem fitsd_fl {W : World} {cs : List CT} {xs : List D} (h : FitsD W (.s1 eW :: cs) xs) : ∃ ws ys, xs = fl ws :: ys ∧ ws.length < 9223372036854775808 ∧ FitsD W cs ys := by
 match xs, h with
 | d :: ds, ⟨⟨v, ls, hd, hr⟩, hs, _, h⟩ =>
  have : ∃ ws : List Nat, ls.map (unflat false) = ws.map D.flt := by
   rcases hr with ⟨_, rfl⟩ | ⟨_, _, _, xs, _, _, _, _, hr⟩
   ·exact ⟨[], rfl⟩
   ·exact fl_of_rows hr
  obtain ⟨ws, hv⟩ := this;have e : d = fl ws := by rw [hd, show eW.agg = false from rfl, hv]; unfold fl; rfl
  have h1 := hs _ (by rw [e]; unfold fl; rfl)
  refine ⟨ws, ds, by rw [e], ?_, h⟩
  simp [maxLen] at h1;omega
end Vs
