/-
  Forces of a body: what one part pushes.
-/
import Derived.Test.YtaakjnkllodchaaGreatK39
import Derived.Test.YtaakjnkllodchaaGreatK31
import Derived.Test.YtaakjnkllodchaaGreatK11
set_option maxHeartbeats 4000000
namespace Vs
open Go Go.Sort
def pushP (l : List V3) (p : Int) (v : V3) (k : Nat) : List V3 := l.set p.toNat (V3.add (plc l p) (V3.scale v k))
def pullP (d : V3) (L K : Nat) : Nat := gainP (fmul .f32 K (fsub .f32 (longV d) L)) (longV d)
def bentP (vs : List V3) (h : List Int) : V3 := lessV (V3.add (plc vs (h.getD 2 0)) (plc vs (h.getD 3 0))) (V3.add (plc vs (h.getD 0 0)) (plc vs (h.getD 1 0)))
def F520 : List D → Option (List D) | [.flt a, .flt b, .flt c, .int _, .int _, .flt l, .flt k] => some [.flt (pullP ⟨a, b, c⟩ l k)] | _ => none
noncomputable def F522 : List D → Option (List D)
 | [.int p, .flt a, .flt b, .flt c, .flt k, l] => (dV l).bind fun us => if inr us.length p = true then some [vl (pushP us p ⟨a, b, c⟩ k)] else none
 | _ => none
theorem F522_m {us : List V3} {p : Int} {v : V3} {k : Nat} (h : inr us.length p = true) : F522 [.int p, .flt v.x, .flt v.y, .flt v.z, .flt k, vl us] = some [vl (pushP us p v k)] := by
 simp only [F522, dV_vl, Option.bind_some]
 rw [if_pos h]
noncomputable def F524 : List D → Option (List D)
 | [a, _, .lst [.int p, .int q, .int r, .int s]] => (dV a).bind fun vs => if (inr vs.length p && inr vs.length q && inr vs.length r && inr vs.length s) = true then some (nds (bentP vs [p, q, r, s])) else none
 | _ => none
noncomputable def F526 : List D → Option (List D)
 | a :: _ :: _ :: _ :: _ :: _ :: _ :: _ :: _ :: [.int p, .int q, .flt l, .flt k] => (dV a).bind fun vs => if (inr vs.length p && inr vs.length q) = true then some (nds (lessV (plc vs q) (plc vs p)) ++ [.flt (pullP (lessV (plc vs q) (plc vs p)) l k)]) else none
 | _ => none
def T520 : T :=
(cc 15 [0, 1, 2] 1 <|
oo (.fcm .gtr .f32) [7, kF 0] <|
oo .bnot [8] <|
.ite 9
 (.out 0 [kF 0])
 (oo (.far .sub .f32) [7, 5] <|
 oo (.far .mul .f32) [6, 10] <|
 oo (.far .quo .f32) [11, 7] <|
 .out 0 [12]))
def S520 (G : Told) (_fuel : Nat) (x0 x1 x2 _x3 _x4 x5 x6 : D) : Option (Nat × List D) :=
 (gcall G none 15 [x0, x1, x2] 1).bind fun e7 =>
 (gev none (.fcm .gtr .f32) [e7.getD 0 .undef, .flt 0]).bind fun x8 =>
 (gev none .bnot [x8]).bind fun x9 =>
 tif x9 (
  some (0, [.flt 0])) (
  (gev none (.far .sub .f32) [e7.getD 0 .undef, x5]).bind fun x10 =>
  (gev none (.far .mul .f32) [x6, x10]).bind fun x11 =>
  (gev none (.far .quo .f32) [x11, e7.getD 0 .undef]).bind fun x12 =>
  some (0, [x12]))
theorem eq520 {G fuel} (x0 x1 x2 x3 x4 x5 x6) : run G fuel T520 [x0, x1, x2, x3, x4, x5, x6] = S520 G fuel x0 x1 x2 x3 x4 x5 x6 := by rw [run_eq]; kernel_rfl
def T522 : T :=
(oo .idx [5, 0] <|
oo .idx [5, 0] <|
oo (.proj 0) [7] <|
oo (.proj 1) [7] <|
oo (.proj 2) [7] <|
cc 31 [1, 2, 3, 4] 3 <|
cc 30 [8, 9, 10, 11, 12, 13] 3 <|
oo .idx [5, 0] <|
oo .mkagg [14, 15, 16] <|
oo .set [5, 0, 18] <|
.out 0 [19])
def S522 (G : Told) (_fuel : Nat) (x0 x1 x2 x3 x4 x5 : D) : Option (Nat × List D) :=
 (gev none .idx [x5, x0]).bind fun _x6 =>
 (gev none .idx [x5, x0]).bind fun x7 =>
 (gev none (.proj 0) [x7]).bind fun x8 =>
 (gev none (.proj 1) [x7]).bind fun x9 =>
 (gev none (.proj 2) [x7]).bind fun x10 =>
 (gcall G none 31 [x1, x2, x3, x4] 3).bind fun e11 =>
 (gcall G none 30 [x8, x9, x10, e11.getD 0 .undef, e11.getD 1 .undef, e11.getD 2 .undef] 3).bind fun e14 =>
 (gev none .idx [x5, x0]).bind fun _x17 =>
 (gev none .mkagg [e14.getD 0 .undef, e14.getD 1 .undef, e14.getD 2 .undef]).bind fun x18 =>
 (gev none .set [x5, x0, x18]).bind fun x19 =>
 some (0, [x19])
theorem eq522 {G fuel} (x0 x1 x2 x3 x4 x5) : run G fuel T522 [x0, x1, x2, x3, x4, x5] = S522 G fuel x0 x1 x2 x3 x4 x5 := by rw [run_eq]; kernel_rfl
def T524 : T :=
(oo .idx [2, kI 2] <|
oo .idx [0, 3] <|
oo (.proj 0) [4] <|
oo (.proj 1) [4] <|
oo (.proj 2) [4] <|
oo .idx [2, kI 3] <|
oo .idx [0, 8] <|
oo (.proj 0) [9] <|
oo (.proj 1) [9] <|
oo (.proj 2) [9] <|
cc 30 [5, 6, 7, 10, 11, 12] 3 <|
oo .idx [2, kI 0] <|
oo .idx [0, 16] <|
oo (.proj 0) [17] <|
oo (.proj 1) [17] <|
oo (.proj 2) [17] <|
oo .idx [2, kI 1] <|
oo .idx [0, 21] <|
oo (.proj 0) [22] <|
oo (.proj 1) [22] <|
oo (.proj 2) [22] <|
cc 30 [18, 19, 20, 23, 24, 25] 3 <|
cc 13 [13, 14, 15, 26, 27, 28] 3 <|
.out 0 [29, 30, 31])
def S524 (G : Told) (_fuel : Nat) (x0 _x1 x2 : D) : Option (Nat × List D) :=
 (gev none .idx [x2, .int 2]).bind fun x3 =>
 (gev none .idx [x0, x3]).bind fun x4 =>
 (gev none (.proj 0) [x4]).bind fun x5 =>
 (gev none (.proj 1) [x4]).bind fun x6 =>
 (gev none (.proj 2) [x4]).bind fun x7 =>
 (gev none .idx [x2, .int 3]).bind fun x8 =>
 (gev none .idx [x0, x8]).bind fun x9 =>
 (gev none (.proj 0) [x9]).bind fun x10 =>
 (gev none (.proj 1) [x9]).bind fun x11 =>
 (gev none (.proj 2) [x9]).bind fun x12 =>
 (gcall G none 30 [x5, x6, x7, x10, x11, x12] 3).bind fun e13 =>
 (gev none .idx [x2, .int 0]).bind fun x16 =>
 (gev none .idx [x0, x16]).bind fun x17 =>
 (gev none (.proj 0) [x17]).bind fun x18 =>
 (gev none (.proj 1) [x17]).bind fun x19 =>
 (gev none (.proj 2) [x17]).bind fun x20 =>
 (gev none .idx [x2, .int 1]).bind fun x21 =>
 (gev none .idx [x0, x21]).bind fun x22 =>
 (gev none (.proj 0) [x22]).bind fun x23 =>
 (gev none (.proj 1) [x22]).bind fun x24 =>
 (gev none (.proj 2) [x22]).bind fun x25 =>
 (gcall G none 30 [x18, x19, x20, x23, x24, x25] 3).bind fun e26 =>
 (gcall G none 13 [e13.getD 0 .undef, e13.getD 1 .undef, e13.getD 2 .undef, e26.getD 0 .undef, e26.getD 1 .undef, e26.getD 2 .undef] 3).bind fun e29 =>
 some (0, [e29.getD 0 .undef, e29.getD 1 .undef, e29.getD 2 .undef])
theorem eq524 {G fuel} (x0 x1 x2) : run G fuel T524 [x0, x1, x2] = S524 G fuel x0 x1 x2 := by rw [run_eq]; kernel_rfl
def T526 : T :=
(oo .idx [0, 10] <|
oo (.proj 0) [13] <|
oo (.proj 1) [13] <|
oo (.proj 2) [13] <|
oo .idx [0, 9] <|
oo (.proj 0) [17] <|
oo (.proj 1) [17] <|
oo (.proj 2) [17] <|
cc 13 [14, 15, 16, 18, 19, 20] 3 <|
cc 15 [21, 22, 23] 1 <|
oo (.far .sub .f32) [24, 11] <|
oo (.far .mul .f32) [12, 25] <|
cc 126 [26, 24] 1 <|
.out 0 [21, 22, 23, 27])
def S526 (G : Told) (_fuel : Nat) (x0 _x1 _x2 _x3 _x4 _x5 _x6 _x7 _x8 x9 x10 x11 x12 : D) : Option (Nat × List D) :=
 (gev none .idx [x0, x10]).bind fun x13 =>
 (gev none (.proj 0) [x13]).bind fun x14 =>
 (gev none (.proj 1) [x13]).bind fun x15 =>
 (gev none (.proj 2) [x13]).bind fun x16 =>
 (gev none .idx [x0, x9]).bind fun x17 =>
 (gev none (.proj 0) [x17]).bind fun x18 =>
 (gev none (.proj 1) [x17]).bind fun x19 =>
 (gev none (.proj 2) [x17]).bind fun x20 =>
 (gcall G none 13 [x14, x15, x16, x18, x19, x20] 3).bind fun e21 =>
 (gcall G none 15 [e21.getD 0 .undef, e21.getD 1 .undef, e21.getD 2 .undef] 1).bind fun e24 =>
 (gev none (.far .sub .f32) [e24.getD 0 .undef, x11]).bind fun x25 =>
 (gev none (.far .mul .f32) [x12, x25]).bind fun x26 =>
 (gcall G none 126 [x26, e24.getD 0 .undef] 1).bind fun e27 =>
 some (0, [e21.getD 0 .undef, e21.getD 1 .undef, e21.getD 2 .undef, e27.getD 0 .undef])
theorem eq526 {G fuel} (x0 x1 x2 x3 x4 x5 x6 x7 x8 x9 x10 x11 x12) : run G fuel T526 [x0, x1, x2, x3, x4, x5, x6, x7, x8, x9, x10, x11, x12] = S526 G fuel x0 x1 x2 x3 x4 x5 x6 x7 x8 x9 x10 x11 x12 := by rw [run_eq]; kernel_rfl
theorem p_fneg {x : Nat} : gev none (.fneg .f32) [.flt x] = some (.flt (fneg .f32 x)) := (rfl)
theorem p_fquo {x y : Nat} : gev none (.far .quo .f32) [.flt x, .flt y] = some (.flt (fdiv .f32 x y)) := (rfl)
theorem set_plc {l : List V3} {p : Int} {v : V3} (h : inr l.length p = true) : gev none .set [vl l, .int p, .agg [.flt v.x, .flt v.y, .flt v.z]] = some (vl (l.set p.toNat v)) := by
 unfold inr at h
 simp only [Bool.and_eq_true, decide_eq_true_eq] at h
 have e : p = (p.toNat : Int) := by omega
 have := set_vl (l := l) (i := p.toNat) (v := v) (by omega)
 rw [← e] at this
 exact this
attribute [local irreducible] IntKind.wrap il tl vl inr longP fgt fdiv fmul fsub fadd fneg plc

theorem run520 {G : Told} (g15 : G 15 = F15) : Runs G F520 T520 := by
 intro ds rs h
 unfold F520 at h
 split at h
 case h_2 => cases h
 rename_i a b c p q l k
 simp only [Option.some.injEq] at h
 subst h
 refine ⟨0, ?_⟩
 rw [eq520]
 unfold S520 pullP gainP
 have c1 : gcall G none 15 [.flt a, .flt b, .flt c] 1 = some [.flt (longV ⟨a, b, c⟩)] := gcall_on g15 rfl rfl rfl
 cases hf : fgt .f32 (longV ⟨a, b, c⟩) 0 with
 | true =>
  rw [if_pos rfl];simp only [ev0, p_fsub, p_fmul, p_fgtr, c1, hf, p_fquo]
 | false =>
  rw [if_neg (by simp)]
  simp only [ev0, p_fsub, p_fmul, p_fgtr, c1, hf, p_fquo]
theorem run522 {G : Told} (g30 : G 30 = F30) (g31 : G 31 = F31) : Runs G F522 T522 := by
 intro ds rs h
 unfold F522 at h
 split at h
 case h_2 => cases h
 rename_i p a b c k l
 obtain ⟨us, ha, h⟩ := Option.bind_eq_some_iff.1 h
 rw [dV_inv ha]
 split at h
 case isFalse => cases h
 rename_i hc
 simp only [Option.some.injEq] at h
 subst h
 refine ⟨0, ?_⟩
 rw [eq522]
 unfold S522
 have h1 := idx_plc hc
 have c1 : gcall G none 31 [.flt a, .flt b, .flt c, .flt k] 3 = some (V3.scale ⟨a, b, c⟩ k).ds := gcall_on g31 rfl rfl rfl
 have c2 : gcall G none 30 [.flt (plc us p).x, .flt (plc us p).y, .flt (plc us p).z, .flt (V3.scale ⟨a, b, c⟩ k).x, .flt (V3.scale ⟨a, b, c⟩ k).y, .flt (V3.scale ⟨a, b, c⟩ k).z] 3 = some (V3.add (plc us p) (V3.scale ⟨a, b, c⟩ k)).ds := gcall_on g30 rfl rfl rfl
 have h2 := set_plc (v := V3.add (plc us p) (V3.scale ⟨a, b, c⟩ k)) hc
 unfold V3.ds at c1 c2
 unfold pushP
 generalize V3.scale ⟨a, b, c⟩ k = sv at *
 generalize V3.add (plc us p) sv = av at *
 simp only [ev0, p_agg, p_v0, p_v1, p_v2, h1, c1, c2, h2]
theorem run524 {G : Told} (g13 : G 13 = F13) (g30 : G 30 = F30) : Runs G F524 T524 := by
 intro ds rs h
 unfold F524 at h
 split at h
 case h_2 => cases h
 rename_i a b p q r s
 obtain ⟨vs, ha, h⟩ := Option.bind_eq_some_iff.1 h
 rw [dV_inv ha]
 split at h
 case isFalse => cases h
 rename_i hc
 simp only [Option.some.injEq] at h
 subst h
 simp only [Bool.and_eq_true] at hc
 obtain ⟨⟨⟨hp, hq⟩, hr⟩, hs⟩ := hc
 refine ⟨0, ?_⟩
 rw [eq524]
 unfold S524
 have h0 := idx_plc hp
 have h1 := idx_plc hq
 have h2 := idx_plc hr
 have h3 := idx_plc hs
 have i0 : gev none .idx [.lst [.int p, .int q, .int r, .int s], .int 0] = some (.int p) := rfl
 have i1 : gev none .idx [.lst [.int p, .int q, .int r, .int s], .int 1] = some (.int q) := rfl
 have i2 : gev none .idx [.lst [.int p, .int q, .int r, .int s], .int 2] = some (.int r) := rfl
 have i3 : gev none .idx [.lst [.int p, .int q, .int r, .int s], .int 3] = some (.int s) := rfl
 have c1 : ∀ u v : V3, gcall G none 30 [.flt u.x, .flt u.y, .flt u.z, .flt v.x, .flt v.y, .flt v.z] 3 = some [.flt (V3.add u v).x, .flt (V3.add u v).y, .flt (V3.add u v).z] := fun u v => gcall_on g30 rfl rfl rfl
 have c2 : ∀ u v : V3, gcall G none 13 [.flt u.x, .flt u.y, .flt u.z, .flt v.x, .flt v.y, .flt v.z] 3 = some [.flt (lessV u v).x, .flt (lessV u v).y, .flt (lessV u v).z] := fun u v => gcall_on g13 rfl rfl rfl
 have e : bentP vs [p, q, r, s] = lessV (V3.add (plc vs r) (plc vs s)) (V3.add (plc vs p) (plc vs q)) := rfl
 rw [e]
 unfold nds
 have c1a := c1 (plc vs r) (plc vs s)
 have c1b := c1 (plc vs p) (plc vs q)
 generalize V3.add (plc vs r) (plc vs s) = A at *
 generalize V3.add (plc vs p) (plc vs q) = B at *
 have c2a := c2 A B
 generalize lessV A B = C at *
 simp only [ev0, p_v0, p_v1, p_v2, h0, h1, h2, h3, i0, i1, i2, i3, c1a, c1b, c2a]
theorem run526 {G : Told} (g13 : G 13 = F13) (g15 : G 15 = F15) (g126 : G 126 = F126) : Runs G F526 T526 := by
 intro ds rs h
 unfold F526 at h
 split at h
 case h_2 => cases h
 rename_i a b1 b2 b3 b4 b5 b6 b7 b8 p q l k
 obtain ⟨vs, ha, h⟩ := Option.bind_eq_some_iff.1 h
 rw [dV_inv ha]
 split at h
 case isFalse => cases h
 rename_i hc
 simp only [Option.some.injEq] at h
 subst h
 simp only [Bool.and_eq_true] at hc
 obtain ⟨hp, hq⟩ := hc
 refine ⟨0, ?_⟩
 rw [eq526]
 unfold S526
 have h0 := idx_plc hp
 have h1 := idx_plc hq
 have c1 : gcall G none 13 [.flt (plc vs q).x, .flt (plc vs q).y, .flt (plc vs q).z, .flt (plc vs p).x, .flt (plc vs p).y, .flt (plc vs p).z] 3 = some [.flt (lessV (plc vs q) (plc vs p)).x, .flt (lessV (plc vs q) (plc vs p)).y, .flt (lessV (plc vs q) (plc vs p)).z] := gcall_on g13 rfl rfl rfl
 unfold nds pullP
 generalize lessV (plc vs q) (plc vs p) = d at *
 have c2 : gcall G none 15 [.flt d.x, .flt d.y, .flt d.z] 1 = some [.flt (longV d)] := gcall_on g15 rfl rfl rfl
 have c3 : gcall G none 126 [.flt (fmul .f32 k (fsub .f32 (longV d) l)), .flt (longV d)] 1 = some [.flt (gainP (fmul .f32 k (fsub .f32 (longV d) l)) (longV d))] := gcall_on g126 rfl rfl rfl
 generalize gainP (fmul .f32 k (fsub .f32 (longV d) l)) (longV d) = gg at *
 simp only [ev0, p_v0, p_v1, p_v2, p_fsub, p_fmul, h0, h1, c1, c2, c3]
 rfl
end Vs
