/-
  How thick a triangle is does not change when it is scaled by two.
-/
import Derived.Test.YtaakjnkllodchaaFe3
import Derived.Test.YtaakjnkllodchaaK9
set_option maxHeartbeats 4000000
namespace Vs
open Go Ieee
theorem root_mag {x : Nat} (hx : rk .f32 x < inf .f32) (hs : sgn single x = false) : rk .f32 (rootP x) ≤ 1635778560 := by
 obtain ⟨r, e, hr, _⟩ := wide_word hx
 rw [hs] at e
 have hr2 : rg double (wide x) < double.infRung := by rw [e, word_rg okD (Nat.le_of_lt hr)]; exact hr
 obtain ⟨m, i, h1, _⟩ := read_fin hr2
 have hsg : sgn double (wide x) = false := by rw [e]; exact word_sgn okD (Nat.le_of_lt hr)
 rw [hsg] at h1
 have hd : ∃ d, Datum.root (double.fractionBits + 2) (.number false m i) = some d := by
  simp only [Datum.root];split
  ·exact ⟨_, rfl⟩
  ·exact ⟨_, rfl⟩
 have hs2 : ∃ t r', fsqrt .f64 (wide x) = double.word t r' ∧ r' ≤ 1090 * double.binade := by
  unfold fsqrt Format.sqrt;rw [show FloatKind.f64.format.read (wide x) = .number false m i from h1]
  obtain ⟨d, hd⟩ : ∃ d, (Datum.root (FloatKind.f64.format.fractionBits + 2) (.number false m i)) = some d := hd;obtain ⟨t, m', e', rfl, h5⟩ := root_crude hd (wide_crude (x := x) h1);obtain ⟨r', g1, g2⟩ := nearest_crude (f := double) (neg := t) (L := 66) h5 (by decide)
  refine ⟨t, r', ?_, g2⟩;rw [hd];show canon .f64 (double.nearest t m' e') = _;rw [g1];exact canon_word (k := .f64) (Nat.le_trans g2 (by decide))
 obtain ⟨t, r', g1, g2⟩ := hs2
 obtain ⟨t2, m2, e2, g3, g4⟩ := read_crude (s := t) (q := 1088) double_ok (by decide) g2
 have e5 : double.leastPlace + ((1088 : Nat) : Int) + 1 + double.fractionBits = 67 := by decide
 rw [e5] at g4
 obtain ⟨r3, h3, h4⟩ := nearest_crude (f := single) (neg := t2) (fun _ => g4) (by decide)
 have h6 : r3 ≤ 1635778560 := Nat.le_trans h4 (by decide)
 have h7 := f2f_root x
 rw [g1] at h7
 unfold f2f at h7
 rw [if_neg (by decide), show FloatKind.f64.decode (double.word t r') = .number t2 m2 e2 from g3] at h7
 have hen : FloatKind.f32.encode (.number t2 m2 e2) = single.word t2 r3 := h3
 simp only [hen] at h7
 have h8 : (FloatKind.f32.decode (single.word t2 r3)).isInfinity = false := read_word okS.hw (Nat.lt_of_le_of_lt h6 (by decide))
 rw [h8] at h7
 simp only [Bool.false_eq_true, if_false, Option.some.injEq] at h7
 have h9 : canon .f32 (single.word t2 r3) = single.word t2 r3 := canon_word (k := .f32) (Nat.le_trans h6 (by decide))
 rw [← h7, h9]
 show rg single _ ≤ _
 rw [word_rg okS (Nat.le_trans h6 (by decide))]
 exact h6
def vB (m : Nat) (v : V3) : Prop := rk .f32 v.x ≤ m ∧ rk .f32 v.y ≤ m ∧ rk .f32 v.z ≤ m
def vG (t : Nat) (v : V3) : Prop := gr .f32 t v.x ∧ gr .f32 t v.y ∧ gr .f32 t v.z
def vS (c : Nat) (v w : V3) : Prop := Sc .f32 c v.x w.x ∧ Sc .f32 c v.y w.y ∧ Sc .f32 c v.z w.z
theorem fin_of {x m : Nat} (h : rk .f32 x ≤ m) (hm : m < inf .f32) : rk .f32 x < inf .f32 := Nat.lt_of_le_of_lt h hm
theorem q6 : (1086324736 : Nat) < inf .f32 ∧ 1086324736 < inf .f32 ∧ 1098907648 ≤ inf .f32 ∧ Vk .f32 1086324736 + Vk .f32 1086324736 ≤ Vk .f32 1098907648 := by decide +kernel
theorem less_B {v w : V3} (hv : vB 1086324736 v) (hw : vB 1086324736 w) : vB 1098907648 (lessV v w) :=
 ⟨mg_sub hv.1 hw.1 q6, mg_sub hv.2.1 hw.2.1 q6, mg_sub hv.2.2 hw.2.2 q6⟩
theorem less_1 {t x y : Nat} (hx : rk .f32 x ≤ 1086324736) (hy : rk .f32 y ≤ 1086324736) (gx : gr .f32 t x) (gy : gr .f32 t y) : gr .f32 t (fsub .f32 x y) :=
 gr_sub (fin_of hx (by decide)) (fin_of hy (by decide)) (fin_of (mg_sub hx hy q6) (by decide)) gx gy
theorem less_G {t : Nat} {v w : V3} (hv : vB 1086324736 v) (hw : vB 1086324736 w) (gv : vG t v) (gw : vG t w) : vG t (lessV v w) :=
 ⟨less_1 hv.1 hw.1 gv.1 gw.1, less_1 hv.2.1 hw.2.1 gv.2.1 gw.2.1, less_1 hv.2.2 hw.2.2 gv.2.2 gw.2.2⟩
theorem less_s1 {t c x y x' y' : Nat} (ht : 23 ≤ t) (hx : rk .f32 x ≤ 1086324736) (hy : rk .f32 y ≤ 1086324736) (hx' : rk .f32 x' ≤ 1086324736) (hy' : rk .f32 y' ≤ 1086324736) (gx : gr .f32 t x) (gy : gr .f32 t y) (sx : Sc .f32 c x x') (sy : Sc .f32 c y y') :
  Sc .f32 c (fsub .f32 x y) (fsub .f32 x' y') :=
 sx.sub sy (nrm_gr (t := t) (Int.dvd_sub (gr_sv gx) (gr_sv gy)) ht) (fin_of (mg_sub hx hy q6) (by decide)) (fin_of (mg_sub hx' hy' q6) (by decide))
theorem less_S {t c : Nat} (ht : 23 ≤ t) {v w v' w' : V3} (hv : vB 1086324736 v) (hw : vB 1086324736 w) (hv' : vB 1086324736 v') (hw' : vB 1086324736 w') (gv : vG t v) (gw : vG t w) (sv : vS c v v') (sw : vS c w w') : vS c (lessV v w) (lessV v' w') :=
 ⟨less_s1 ht hv.1 hw.1 hv'.1 hw'.1 gv.1 gw.1 sv.1 sw.1, less_s1 ht hv.2.1 hw.2.1 hv'.2.1 hw'.2.1 gv.2.1 gw.2.1 sv.2.1 sw.2.1, less_s1 ht hv.2.2 hw.2.2 hv'.2.2 hw'.2.2 gv.2.2 gw.2.2 sv.2.2 sw.2.2⟩
theorem q16 : (1098907648 : Nat) < inf .f32 ∧ 1098907648 < inf .f32 ∧ 1132462080 ≤ inf .f32 ∧ Vk .f32 1098907648 * Vk .f32 1098907648 ≤ Vk .f32 1132462080 * dn .f32 := by decide +kernel
theorem q256 : (1132462080 : Nat) < inf .f32 ∧ 1132462080 < inf .f32 ∧ 1140850688 ≤ inf .f32 ∧ Vk .f32 1132462080 + Vk .f32 1132462080 ≤ Vk .f32 1140850688 := by decide +kernel
theorem mul16 {x y : Nat} (hx : rk .f32 x ≤ 1098907648) (hy : rk .f32 y ≤ 1098907648) : rk .f32 (fmul .f32 x y) ≤ 1132462080 := mg_mul hx hy q16
theorem crs_1 {x y z w : Nat} (hx : rk .f32 x ≤ 1098907648) (hy : rk .f32 y ≤ 1098907648) (hz : rk .f32 z ≤ 1098907648) (hw : rk .f32 w ≤ 1098907648) : rk .f32 (fsub .f32 (fmul .f32 x y) (fmul .f32 z w)) ≤ 1140850688 := mg_sub (mul16 hx hy) (mul16 hz hw) q256
theorem cross_B {p q : V3} (hp : vB 1098907648 p) (hq : vB 1098907648 q) : vB 1140850688 (crossV p q) :=
 ⟨crs_1 hp.2.1 hq.2.2 hp.2.2 hq.2.1, crs_1 hp.2.2 hq.1 hp.1 hq.2.2, crs_1 hp.1 hq.2.1 hp.2.1 hq.1⟩
theorem mulG {x y : Nat} (hx : rk .f32 x ≤ 1098907648) (hy : rk .f32 y ≤ 1098907648) (gx : gr .f32 126 x) (gy : gr .f32 126 y) : gr .f32 103 (fmul .f32 x y) :=
 gr_mul (fin_of hx (by decide)) (fin_of hy (by decide)) (fin_of (mul16 hx hy) (by decide)) gx gy (by decide)
theorem crs_g {x y z w : Nat} (hx : rk .f32 x ≤ 1098907648) (hy : rk .f32 y ≤ 1098907648) (hz : rk .f32 z ≤ 1098907648) (hw : rk .f32 w ≤ 1098907648) (gx : gr .f32 126 x) (gy : gr .f32 126 y) (gz : gr .f32 126 z) (gw : gr .f32 126 w) : gr .f32 103 (fsub .f32 (fmul .f32 x y) (fmul .f32 z w)) :=
 gr_sub (fin_of (mul16 hx hy) (by decide)) (fin_of (mul16 hz hw) (by decide)) (fin_of (crs_1 hx hy hz hw) (by decide)) (mulG hx hy gx gy) (mulG hz hw gz gw)
theorem cross_G {p q : V3} (hp : vB 1098907648 p) (hq : vB 1098907648 q) (gp : vG 126 p) (gq : vG 126 q) : vG 103 (crossV p q) :=
 ⟨crs_g hp.2.1 hq.2.2 hp.2.2 hq.2.1 gp.2.1 gq.2.2 gp.2.2 gq.2.1, crs_g hp.2.2 hq.1 hp.1 hq.2.2 gp.2.2 gq.1 gp.1 gq.2.2, crs_g hp.1 hq.2.1 hp.2.1 hq.1 gp.1 gq.2.1 gp.2.1 gq.1⟩
theorem crs_s {c d x y z w x' y' z' w' : Nat} (hx : rk .f32 x ≤ 1098907648) (hy : rk .f32 y ≤ 1098907648) (hz : rk .f32 z ≤ 1098907648) (hw : rk .f32 w ≤ 1098907648) (hx' : rk .f32 x' ≤ 1098907648) (hy' : rk .f32 y' ≤ 1098907648) (hz' : rk .f32 z' ≤ 1098907648) (hw' : rk .f32 w' ≤ 1098907648)
  (gx : gr .f32 126 x) (gy : gr .f32 126 y) (gz : gr .f32 126 z) (gw : gr .f32 126 w) (sx : Sc .f32 c x x') (sy : Sc .f32 d y y') (sz : Sc .f32 c z z') (sw : Sc .f32 d w w') : Sc .f32 (c + d) (fsub .f32 (fmul .f32 x y) (fmul .f32 z w)) (fsub .f32 (fmul .f32 x' y') (fmul .f32 z' w')) := by
 have m1 := sx.mul sy (nrm2_gr gx gy (by decide)) (fin_of (mul16 hx hy) (by decide)) (fin_of (mul16 hx' hy') (by decide))
 have m2 := sz.mul sw (nrm2_gr gz gw (by decide)) (fin_of (mul16 hz hw) (by decide)) (fin_of (mul16 hz' hw') (by decide))
 exact m1.sub m2 (nrm_gr (t := 103) (Int.dvd_sub (gr_sv (mulG hx hy gx gy)) (gr_sv (mulG hz hw gz gw))) (by decide)) (fin_of (crs_1 hx hy hz hw) (by decide)) (fin_of (crs_1 hx' hy' hz' hw') (by decide))
theorem cross_S {c d : Nat} {p q p' q' : V3} (hp : vB 1098907648 p) (hq : vB 1098907648 q) (hp' : vB 1098907648 p') (hq' : vB 1098907648 q') (gp : vG 126 p) (gq : vG 126 q) (sp : vS c p p') (sq : vS d q q') : vS (c + d) (crossV p q) (crossV p' q') :=
  ⟨crs_s hp.2.1 hq.2.2 hp.2.2 hq.2.1 hp'.2.1 hq'.2.2 hp'.2.2 hq'.2.1 gp.2.1 gq.2.2 gp.2.2 gq.2.1 sp.2.1 sq.2.2 sp.2.2 sq.2.1,
   crs_s hp.2.2 hq.1 hp.1 hq.2.2 hp'.2.2 hq'.1 hp'.1 hq'.2.2 gp.2.2 gq.1 gp.1 gq.2.2 sp.2.2 sq.1 sp.1 sq.2.2,
   crs_s hp.1 hq.2.1 hp.2.1 hq.1 hp'.1 hq'.2.1 hp'.2.1 hq'.1 gp.1 gq.2.1 gp.2.1 gq.1 sp.1 sq.2.1 sp.2.1 sq.1⟩
theorem q512 : (1140850688 : Nat) < inf .f32 ∧ 1140850688 < inf .f32 ∧ 1216348160 ≤ inf .f32 ∧ Vk .f32 1140850688 * Vk .f32 1140850688 ≤ Vk .f32 1216348160 * dn .f32 := by decide +kernel
theorem q18 : (1216348160 : Nat) < inf .f32 ∧ 1216348160 < inf .f32 ∧ 1224736768 ≤ inf .f32 ∧ Vk .f32 1216348160 + Vk .f32 1216348160 ≤ Vk .f32 1224736768 := by decide +kernel
theorem q19 : (1224736768 : Nat) < inf .f32 ∧ 1216348160 < inf .f32 ∧ 1233125376 ≤ inf .f32 ∧ Vk .f32 1224736768 + Vk .f32 1216348160 ≤ Vk .f32 1233125376 := by decide +kernel
theorem sq_B {x : Nat} (hx : rk .f32 x ≤ 1140850688) : rk .f32 (fmul .f32 x x) ≤ 1216348160 := mg_mul hx hx q512
theorem sq_sgn {x : Nat} (hx : rk .f32 x ≤ 1140850688) : sgn single (fmul .f32 x x) = false := by
 obtain ⟨r, e, hr⟩ := fmul_R (k := .f32) (x := x) (y := x) (fin_of hx (by decide)) (fin_of hx (by decide))
 rw [e, Bool.xor_self]
 exact sgn_word (k := .f32) hr.1
theorem add_sgn {x y : Nat} (hx : rk .f32 x < inf .f32) (hy : rk .f32 y < inf .f32) (sx : sgn single x = false) (sy : sgn single y = false) : sgn single (fadd .f32 x y) = false := by
 obtain ⟨r, u, e, hr, hu⟩ := fadd_R (k := .f32) hx hy
 rw [e, hu sx sy]
 exact sgn_word (k := .f32) hr.1
theorem dot_B {p : V3} (hp : vB 1140850688 p) : rk .f32 (dotV p p) ≤ 1233125376 := mg_add (mg_add (sq_B hp.1) (sq_B hp.2.1) q18) (sq_B hp.2.2) q19
theorem dot_sgn {p : V3} (hp : vB 1140850688 p) : sgn single (dotV p p) = false :=
 add_sgn (fin_of (mg_add (sq_B hp.1) (sq_B hp.2.1) q18) (by decide)) (fin_of (sq_B hp.2.2) (by decide)) (add_sgn (fin_of (sq_B hp.1) (by decide)) (fin_of (sq_B hp.2.1) (by decide)) (sq_sgn hp.1) (sq_sgn hp.2.1)) (sq_sgn hp.2.2)
theorem sq_G {t u x : Nat} (ht : t + t = u + 149) (hx : rk .f32 x ≤ 1140850688) (gx : gr .f32 t x) : gr .f32 u (fmul .f32 x x) :=
 gr_mul (fin_of hx (by decide)) (fin_of hx (by decide)) (fin_of (sq_B hx) (by decide)) gx gx ht
theorem dot_G {t u : Nat} (ht : t + t = u + 149) {p : V3} (hp : vB 1140850688 p) (gp : vG t p) : gr .f32 u (dotV p p) := by
 have h1 := mg_add (sq_B hp.1) (sq_B hp.2.1) q18
 refine gr_add (fin_of h1 (by decide)) (fin_of (sq_B hp.2.2) (by decide)) (fin_of (dot_B hp) (by decide)) ?_ (sq_G ht hp.2.2 gp.2.2)
 exact gr_add (fin_of (sq_B hp.1) (by decide)) (fin_of (sq_B hp.2.1) (by decide)) (fin_of h1 (by decide)) (sq_G ht hp.1 gp.1) (sq_G ht hp.2.1 gp.2.1)
theorem sq_S {t c x x' : Nat} (ht : 172 ≤ t + t) (hx : rk .f32 x ≤ 1140850688) (hx' : rk .f32 x' ≤ 1140850688) (gx : gr .f32 t x) (sx : Sc .f32 c x x') : Sc .f32 (c + c) (fmul .f32 x x) (fmul .f32 x' x') :=
 sx.mul sx (nrm2_gr gx gx ht) (fin_of (sq_B hx) (by decide)) (fin_of (sq_B hx') (by decide))
theorem dot_S {t u c : Nat} (ht : t + t = u + 149) (hu : 23 ≤ u) {p p' : V3} (hp : vB 1140850688 p) (hp' : vB 1140850688 p') (gp : vG t p) (sp : vS c p p') : Sc .f32 (c + c) (dotV p p) (dotV p' p') := by
 have h1 := mg_add (sq_B hp.1) (sq_B hp.2.1) q18
 have h1' := mg_add (sq_B hp'.1) (sq_B hp'.2.1) q18
 have g1 := sq_G ht hp.1 gp.1
 have g2 := sq_G ht hp.2.1 gp.2.1
 have g3 := sq_G ht hp.2.2 gp.2.2
 have s1 := sq_S (by omega) hp.1 hp'.1 gp.1 sp.1
 have s2 := sq_S (by omega) hp.2.1 hp'.2.1 gp.2.1 sp.2.1
 have s3 := sq_S (by omega) hp.2.2 hp'.2.2 gp.2.2 sp.2.2
 have s4 := s1.add s2 (nrm_gr (t := u) (Int.dvd_add (gr_sv g1) (gr_sv g2)) hu) (fin_of h1 (by decide)) (fin_of h1' (by decide))
 have g4 := gr_add (fin_of (sq_B hp.1) (by decide)) (fin_of (sq_B hp.2.1) (by decide)) (fin_of h1 (by decide)) g1 g2
 exact s4.add s3 (nrm_gr (t := u) (Int.dvd_add (gr_sv g4) (gr_sv g3)) hu) (fin_of (dot_B hp) (by decide)) (fin_of (dot_B hp') (by decide))
theorem up16 {v : V3} (h : vB 1098907648 v) : vB 1140850688 v := ⟨Nat.le_trans h.1 (by decide), Nat.le_trans h.2.1 (by decide), Nat.le_trans h.2.2 (by decide)⟩
def sumP (a b c : V3) : Nat := fadd .f32 (fadd .f32 (dotV (lessV b a) (lessV b a)) (dotV (lessV c b) (lessV c b))) (dotV (lessV a c) (lessV a c))
theorem q20 : (1233125376 : Nat) < inf .f32 ∧ 1233125376 < inf .f32 ∧ 1241513984 ≤ inf .f32 ∧ Vk .f32 1233125376 + Vk .f32 1233125376 ≤ Vk .f32 1241513984 := by decide +kernel
theorem q21 : (1241513984 : Nat) < inf .f32 ∧ 1233125376 < inf .f32 ∧ 1249902592 ≤ inf .f32 ∧ Vk .f32 1241513984 + Vk .f32 1233125376 ≤ Vk .f32 1249902592 := by decide +kernel
theorem qk : (1079882711 : Nat) < inf .f32 ∧ 1635778560 < inf .f32 ∧ 1652555776 ≤ inf .f32 ∧ Vk .f32 1079882711 * Vk .f32 1635778560 ≤ Vk .f32 1652555776 * dn .f32 := by decide +kernel
variable {a b c a' b' c' : V3}
theorem sum_B (ha : vB 1086324736 a) (hb : vB 1086324736 b) (hc : vB 1086324736 c) : rk .f32 (sumP a b c) ≤ 1249902592 :=
 mg_add (mg_add (dot_B (up16 (less_B hb ha))) (dot_B (up16 (less_B hc hb))) q20) (dot_B (up16 (less_B ha hc))) q21
theorem sum_sgn (ha : vB 1086324736 a) (hb : vB 1086324736 b) (hc : vB 1086324736 c) : sgn single (sumP a b c) = false := by
 have h1 := mg_add (dot_B (up16 (less_B hb ha))) (dot_B (up16 (less_B hc hb))) q20
 exact add_sgn (fin_of h1 (by decide)) (fin_of (dot_B (up16 (less_B ha hc))) (by decide)) (add_sgn (fin_of (dot_B (up16 (less_B hb ha))) (by decide)) (fin_of (dot_B (up16 (less_B hc hb))) (by decide)) (dot_sgn (up16 (less_B hb ha))) (dot_sgn (up16 (less_B hc hb)))) (dot_sgn (up16 (less_B ha hc)))
theorem sum_G (ha : vB 1086324736 a) (hb : vB 1086324736 b) (hc : vB 1086324736 c) (ga : vG 126 a) (gb : vG 126 b) (gc : vG 126 c) : gr .f32 103 (sumP a b c) := by
 have h1 := mg_add (dot_B (up16 (less_B hb ha))) (dot_B (up16 (less_B hc hb))) q20
 have g1 := dot_G (t := 126) (u := 103) (by decide) (up16 (less_B hb ha)) (less_G hb ha gb ga)
 have g2 := dot_G (t := 126) (u := 103) (by decide) (up16 (less_B hc hb)) (less_G hc hb gc gb)
 have g3 := dot_G (t := 126) (u := 103) (by decide) (up16 (less_B ha hc)) (less_G ha hc ga gc)
 exact gr_add (fin_of h1 (by decide)) (fin_of (dot_B (up16 (less_B ha hc))) (by decide)) (fin_of (sum_B ha hb hc) (by decide)) (gr_add (fin_of (dot_B (up16 (less_B hb ha))) (by decide)) (fin_of (dot_B (up16 (less_B hc hb))) (by decide)) (fin_of h1 (by decide)) g1 g2) g3
theorem sum_S2 (ha : vB 1086324736 a) (hb : vB 1086324736 b) (hc : vB 1086324736 c) (ha' : vB 1086324736 a') (hb' : vB 1086324736 b') (hc' : vB 1086324736 c') (ga : vG 126 a) (gb : vG 126 b) (gc : vG 126 c) (sa : vS 1 a a') (sb : vS 1 b b') (sc : vS 1 c c') : Sc .f32 2 (sumP a b c) (sumP a' b' c') := by
 have h1 := mg_add (dot_B (up16 (less_B hb ha))) (dot_B (up16 (less_B hc hb))) q20
 have h1' := mg_add (dot_B (up16 (less_B hb' ha'))) (dot_B (up16 (less_B hc' hb'))) q20
 have g1 := dot_G (t := 126) (u := 103) (by decide) (up16 (less_B hb ha)) (less_G hb ha gb ga)
 have g2 := dot_G (t := 126) (u := 103) (by decide) (up16 (less_B hc hb)) (less_G hc hb gc gb)
 have g3 := dot_G (t := 126) (u := 103) (by decide) (up16 (less_B ha hc)) (less_G ha hc ga gc)
 have s1 := dot_S (t := 126) (u := 103) (by decide) (by decide) (up16 (less_B hb ha)) (up16 (less_B hb' ha')) (less_G hb ha gb ga) (less_S (by decide) hb ha hb' ha' gb ga sb sa)
 have s2 := dot_S (t := 126) (u := 103) (by decide) (by decide) (up16 (less_B hc hb)) (up16 (less_B hc' hb')) (less_G hc hb gc gb) (less_S (by decide) hc hb hc' hb' gc gb sc sb)
 have s3 := dot_S (t := 126) (u := 103) (by decide) (by decide) (up16 (less_B ha hc)) (up16 (less_B ha' hc')) (less_G ha hc ga gc) (less_S (by decide) ha hc ha' hc' ga gc sa sc)
 have g4 := gr_add (fin_of (dot_B (up16 (less_B hb ha))) (by decide)) (fin_of (dot_B (up16 (less_B hc hb))) (by decide)) (fin_of h1 (by decide)) g1 g2
 have s4 := s1.add s2 (nrm_gr (t := 103) (Int.dvd_add (gr_sv g1) (gr_sv g2)) (by decide)) (fin_of h1 (by decide)) (fin_of h1' (by decide))
 exact s4.add s3 (nrm_gr (t := 103) (Int.dvd_add (gr_sv g4) (gr_sv g3)) (by decide)) (fin_of (sum_B ha hb hc) (by decide)) (fin_of (sum_B ha' hb' hc') (by decide))
theorem nz_gr {t x : Nat} (ht : 23 ≤ t) (h : gr .f32 t x) : nz .f32 x := by
 rcases Nat.eq_zero_or_pos (rk .f32 x) with h0 | h0
 ·exact .inl h0
 ·right
  have h1 : 0 < Vk .f32 (rk .f32 x) := V_pos h0;have h2 := Nat.le_of_dvd h1 h;refine V_le (f := single) ?_;rw [show V single FloatKind.f32.format.binade = 2 ^ 23 by decide]
  exact Nat.le_trans (Nat.pow_le_pow_right (by decide) ht) h2
def nlP (a b c : V3) : Nat := fmul .f32 1079882711 (longV (normT a b c))
theorem thick_eq (a b c : V3) : thickP a b c = fdiv .f32 (nlP a b c) (sumP a b c) := rfl
theorem Sc.refl {x : Nat} (h : rk .f32 x < inf .f32) : Sc .f32 0 x x := ⟨h, h, by simp⟩
theorem long_eq (v : V3) : longV v = rootP (dotV v v) := rfl
theorem norm_S (ha : vB 1086324736 a) (hb : vB 1086324736 b) (hc : vB 1086324736 c) (ha' : vB 1086324736 a') (hb' : vB 1086324736 b') (hc' : vB 1086324736 c') (ga : vG 126 a) (gb : vG 126 b) (gc : vG 126 c) (sa : vS 1 a a') (sb : vS 1 b b') (sc : vS 1 c c') :
  Sc .f32 2 (nlP a b c) (nlP a' b' c') ∧ sgn single (nlP a b c) = false ∧ sgn single (nlP a' b' c') = false ∧ nz .f32 (nlP a b c) := by
 have p1 := less_B hb ha; have p2 := less_B hc ha
 have p1' := less_B hb' ha'; have p2' := less_B hc' ha'
 have g1 := less_G hb ha gb ga; have g2 := less_G hc ha gc ga
 have n1 := cross_B p1 p2; have n1' := cross_B p1' p2'
 have ng := cross_G p1 p2 g1 g2
 have ns := cross_S p1 p2 p1' p2' g1 g2 (less_S (by decide) hb ha hb' ha' gb ga sb sa) (less_S (by decide) hc ha hc' ha' gc ga sc sa)
 have ds := dot_S (t := 103) (u := 57) (by decide) (by decide) n1 n1' ng ns
 have s1 := dot_sgn n1; have s1' := dot_sgn n1'
 have b1 := dot_B n1; have b1' := dot_B n1'
 have dg := dot_G (t := 103) (u := 57) (by decide) n1 ng
 have hk : rk .f32 1079882711 ≤ 1079882711 := by decide
 have hks : sgn single 1079882711 = false := by decide
 unfold nlP normT
 rw [long_eq, long_eq]
 generalize crossV (lessV b a) (lessV c a) = n at *
 generalize crossV (lessV b' a') (lessV c' a') = n' at *
 have m1 := mg_mul hk (root_mag (fin_of b1 (by decide)) s1) qk
 have m1' := mg_mul hk (root_mag (fin_of b1' (by decide)) s1') qk
 have sg : ∀ r, sgn single r = false → rk .f32 r < inf .f32 → sgn single (fmul .f32 1079882711 r) = false := fun r h1 h2 => by
  obtain ⟨q, e, hr⟩ := fmul_R (k := .f32) (x := 1079882711) (y := r) (by decide) h2
  rw [e, show sgn FloatKind.f32.format 1079882711 = false from hks, show sgn FloatKind.f32.format r = false from h1]
  exact sgn_word (k := .f32) hr.1
 have r1 := root_mag (fin_of b1 (by decide)) s1
 have r1' := root_mag (fin_of b1' (by decide)) s1'
 rcases Nat.eq_zero_or_pos (rk .f32 (dotV n n)) with h0 | h0
 ·have h0' : rk .f32 (dotV n' n') = 0 := ds.zero h0
  rw [rootP_zero h0 s1, rootP_zero h0' s1'];have e : fmul .f32 1079882711 0 = 0 := by decide +kernel
  rw [e];exact ⟨⟨by decide, by decide, by decide⟩, by decide, by decide, .inl (by decide)⟩
 ·obtain ⟨t1, t2, t3⟩ := rootP_sc (c := 2) ds s1 s1' h0
  obtain ⟨⟨_, _⟩, _, e2, e3, e4⟩ := root_E (fin_of b1 (by decide)) s1 h0
  have hN : nrm2 .f32 (sv .f32 1079882711 * sv .f32 (rootP (dotV n n))) := by
   right
   rw [Int.natAbs_mul, sv_abs, sv_abs];have v1 : 2 ^ 149 ≤ Vk .f32 (rk .f32 1079882711) := by decide +kernel
   have v2 : 2 ^ 23 ≤ Vk .f32 (rk .f32 (rootP (dotV n n))) := by
    have := V_mono single (Nat.le_of_lt e3);rw [show V single single.binade = 2 ^ 23 by decide] at this
    exact this
   have v3 := Nat.mul_le_mul v1 v2;rw [show FloatKind.f32.format.fractionBits + (FloatKind.f32.format.leastPlace - 2 * FloatKind.f32.format.leastPlace).toNat = 149 + 23 by decide, Nat.pow_add]
   exact v3
  have res := (Sc.refl (x := 1079882711) (by decide)).mul t1 hN (fin_of m1 (by decide)) (fin_of m1' (by decide))
  refine ⟨by rw [Nat.zero_add] at res; exact res, sg _ t2 t1.1, sg _ t3 t1.2.1, .inr ?_⟩
  refine Nat.le_of_lt ?_;have := (mul_S (k := .f32) (x := 1079882711) (y := rootP (dotV n n)) (by decide) t1.1).2
  rw [this, Int.natAbs_mul, sv_abs, sv_abs];refine Nat.lt_of_lt_of_le e3 (le_rung okS (by decide) (Nat.le_of_lt e2) ?_)
  have v1 : 2 ^ 149 ≤ Vk .f32 (rk .f32 1079882711) := by decide +kernel
  rw [show (single.leastPlace - 2 * FloatKind.f32.format.leastPlace).toNat = 149 by decide, Nat.mul_comm]
  exact Nat.mul_le_mul_right _ v1
theorem thick_scale (ha : vB 1086324736 a) (hb : vB 1086324736 b) (hc : vB 1086324736 c) (ha' : vB 1086324736 a') (hb' : vB 1086324736 b') (hc' : vB 1086324736 c') (ga : vG 126 a) (gb : vG 126 b) (gc : vG 126 c) (sa : vS 1 a a') (sb : vS 1 b b') (sc : vS 1 c c') : thickP a' b' c' = thickP a b c := by
 obtain ⟨h1, h2, h3, h4⟩ := norm_S ha hb hc ha' hb' hc' ga gb gc sa sb sc
 have h5 := sum_S2 ha hb hc ha' hb' hc' ga gb gc sa sb sc
 rw [thick_eq, thick_eq]
 exact h1.div h5 h4 (nz_gr (by decide) (sum_G ha hb hc ga gb gc)) (by rw [show sgn FloatKind.f32.format (nlP a' b' c') = false from h3]; exact h2.symm) (by rw [show sgn FloatKind.f32.format (sumP a' b' c') = false from sum_sgn ha' hb' hc']; exact (sum_sgn ha hb hc).symm)
end Vs
