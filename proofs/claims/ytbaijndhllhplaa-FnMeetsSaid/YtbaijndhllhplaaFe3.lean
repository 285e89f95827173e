/-
  Quotients and roots of floats that are scaled; how far a root is from the exact one.
-/
import Derived.Test.YtbaijndhllhplaaFe2
set_option maxHeartbeats 4000000
namespace Vs
open Go Ieee
variable {k : FloatKind} {x y x' y' : Nat} {c : Nat}
theorem read_zero (h : rk k x = 0) : k.format.read x = .number (sgn k.format x) 0 k.format.leastPlace := by
 have hb := binade_pos k.format
 unfold Format.read
 simp only
 have e : x % k.format.signWeight = rk k x := rfl
 rw [e, h, if_pos hb]
 rfl
theorem cw_pos : 0 < cw := by decide +kernel
theorem inf_ws : V single single.infRung * cw ≤ V double double.infRung := by decide +kernel
theorem wide_sv (hx : rk .f32 x < inf .f32) : rk .f64 (wide x) < inf .f64 ∧ sv .f64 (wide x) = sv .f32 x * (cw : Int) ∧ sgn double (wide x) = sgn single x := by
 obtain ⟨r, h1, h2, h3, h4⟩ := wide_word hx
 obtain ⟨m, e, hm, hlt⟩ := V_form single (rk .f32 x)
 obtain ⟨q, hq⟩ := V_rep double (j := m) (Nat.lt_of_lt_of_le hlt (by decide)) (e + 925)
 have hv : Vk .f32 (rk .f32 x) * cw = Vk .f64 q := by
  rw [show Vk .f64 q = _ from hq, show Vk .f32 (rk .f32 x) = _ from hm, Nat.pow_add, Nat.mul_assoc]
  rfl
 have hqi : q ≤ inf .f64 := by
  rcases Nat.lt_or_ge (inf .f64) q with h | h
  ·have a1 : V double double.infRung < V double q := V_strict double h
   have a3 : V single (rk .f32 x) < V single single.infRung := V_strict single hx;have a4 : V single (rk .f32 x) * cw < V single single.infRung * cw := Nat.mul_lt_mul_of_pos_right a3 cw_pos;have a6 : V double q = V single (rk .f32 x) * cw := hv.symm;have a7 := inf_ws;omega
  ·exact h
 have hr : r = q := Nat.le_antisymm (h3 q hqi (Nat.le_of_eq hv)) (h4 q hqi (Nat.le_of_eq hv.symm))
 subst hr
 have hs : sgn double (wide x) = sgn single x := by rw [h1]; exact word_sgn okD (Nat.le_of_lt h2)
 have hk : rk .f64 (wide x) = r := by rw [h1]; exact word_rg okD (Nat.le_of_lt h2)
 refine ⟨by rw [hk]; exact h2, ?_, hs⟩
 show (if sgn double (wide x) = true then -(Vk .f64 (rk .f64 (wide x)) : Int) else Vk .f64 (rk .f64 (wide x))) = (if sgn single x = true then -(Vk .f32 (rk .f32 x) : Int) else Vk .f32 (rk .f32 x)) * (cw : Int)
 rw [hs, hk, ← hv]
 generalize cw = W
 split
 ·push_cast; rw [Int.neg_mul]
 ·push_cast; rfl
theorem narrow_N {y : Nat} (hy : rk .f64 y < inf .f64) (h : rungN single (Vk .f64 (rk .f64 y)) (-1074) < single.infRung) : f2f .f64 .f32 y = some (single.word (sgn double y) (rungN single (Vk .f64 (rk .f64 y)) (-1074))) := by
 obtain ⟨m, e, h1, h2, h3, _⟩ := read_fin hy
 obtain ⟨r, hr, hB⟩ := nearest_R (f := single) (sgn double y) m e
 have hr2 := hB (-1074) (by rw [lpD] at h2; exact h2) (by decide)
 rw [lpD] at h3
 have h3' : m * 2 ^ (e - -1074).toNat = V double (rk .f64 y) := h3
 rw [h3'] at hr2
 rw [← show r = rungN single (Vk .f64 (rk .f64 y)) (-1074) from hr2] at h ⊢
 have hd : FloatKind.f64.decode y = .number (sgn double y) m e := h1
 have hen : FloatKind.f32.encode (.number (sgn double y) m e) = single.word (sgn double y) r := hr
 unfold f2f
 rw [if_neg (by decide), hd]
 simp only [hen]
 have h5 : (FloatKind.f32.decode (single.word (sgn double y) r)).isInfinity = false := read_word okS.hw h
 rw [h5]
 simp only [Bool.false_eq_true, if_false]
 exact congrArg some (canon_word (k := .f32) (Nat.le_of_lt h))
theorem rootFrom_lt (n : Nat) : ∀ (todo root : Nat), n < (root + 2 ^ todo) * (root + 2 ^ todo) → n < (Datum.rootFrom n todo root + 1) * (Datum.rootFrom n todo root + 1)
 | 0, root, h => by simpa [Datum.rootFrom] using h
 | todo + 1, root, h => by
  unfold Datum.rootFrom;simp only [Nat.shiftLeft_eq, Nat.one_mul];have e : root + 2 ^ (todo + 1) = root + 2 ^ todo + 2 ^ todo := by rw [Nat.pow_succ]; omega
  split
  ·refine rootFrom_lt n todo _ ?_
   rw [← e]; exact h
  ·rename_i hl
   exact rootFrom_lt n todo _ (by omega)
theorem rootFrom_two {n : Nat} : Datum.rootFrom n (n.log2 / 2 + 1) 0 * Datum.rootFrom n (n.log2 / 2 + 1) 0 ≤ n ∧ n < (Datum.rootFrom n (n.log2 / 2 + 1) 0 + 1) * (Datum.rootFrom n (n.log2 / 2 + 1) 0 + 1) := by
 refine ⟨rootFrom_sq n _ 0 (by simp), rootFrom_lt n _ 0 ?_⟩
 rw [Nat.zero_add, ← Nat.pow_add]
 have h1 : n < 2 ^ (n.log2 + 1) := Nat.lt_log2_self
 exact Nat.lt_of_lt_of_le h1 (Nat.pow_le_pow_right (by decide) (by omega))
theorem root_datum {digits m : Nat} {i : Int} (hm : m ≠ 0) : ∃ (more whole M : Nat) (P : Int), Datum.root digits (.number false m i) = some (.number false M P) ∧ 2 * digits ≤ m.log2 + more ∧ whole * whole ≤ m * 2 ^ more ∧ m * 2 ^ more < (whole + 1) * (whole + 1) ∧
  (M = 2 * whole ∧ whole * whole = m * 2 ^ more ∨ M = 2 * whole + 1) ∧ 2 * P = i - more - 2 ∧ ∀ c : Nat, Datum.root digits (.number false m (i + (2 * c : Nat))) = some (.number false M (P + c)) := by
 simp only [Datum.root, if_neg hm, Bool.false_eq_true, if_false]
 generalize hmore : 2 * digits - m.log2 + ((i - ((2 * digits - m.log2 : Nat) : Int)) % 2).toNat = more
 have hmore' : ∀ c : Nat, 2 * digits - m.log2 + ((i + ((2 * c : Nat) : Int) - ((2 * digits - m.log2 : Nat) : Int)) % 2).toNat = more := fun c => by omega
 obtain ⟨h1, h2⟩ := rootFrom_two (n := m <<< more)
 have hn : m <<< more = m * 2 ^ more := Nat.shiftLeft_eq ..
 generalize hw : Datum.rootFrom (m <<< more) ((m <<< more).log2 / 2 + 1) 0 = whole at *
 rw [hn] at h1 h2
 refine ⟨more, whole, _, _, rfl, by omega, h1, h2, ?_, by omega, fun c => ?_⟩
 ·rw [hn]
  by_cases h : whole * whole = m * 2 ^ more
  ·left
   rw [h];simp
  ·right
   have : (whole * whole != m * 2 ^ more) = true := by simpa using h
   rw [this];rfl
 ·rw [hmore' c, hw]
  congr 2
  omega
def rel (e a b : Rat) : Prop := a ≤ b + b * e ∧ b ≤ a + a * e
theorem rel_trans {e f g a b d : Rat} (h1 : rel e a b) (h2 : rel f b d) (he : 0 ≤ e) (hf : 0 ≤ f) (ha : 0 ≤ a) (hd : 0 ≤ d) (hg : e + f + e * f ≤ g) : rel g a d := by
 obtain ⟨p1, p2⟩ := h1
 obtain ⟨q1, q2⟩ := h2
 have m1 := mul_le_r (show 0 ≤ 1 + e by grind) q1
 have m2 := mul_le_r (show 0 ≤ 1 + f by grind) p2
 have m3 := mul_le_r hd hg
 have m4 := mul_le_r ha hg
 constructor <;> grind
theorem sq_near {a v e : Rat} (he : 0 ≤ e) (he2 : e ≤ 1 / 1000) (hv : 0 ≤ v) (h1 : a ≤ v + e * v) (h2 : v ≤ a + e * v) : rel (3 * e) (a * a) (v * v) := by
 have hev := mul_nn he hv
 have hve : e * v ≤ 1 / 1000 * v := mul_le_r hv he2
 have ha : 0 ≤ a := by grind
 have hvv := mul_nn hv hv
 have p1 : a * a ≤ (v + e * v) * a := mul_le_r ha h1
 have p2 : a * (v + e * v) ≤ (v + e * v) * (v + e * v) := mul_le_r (show 0 ≤ v + e * v by grind) h1
 have b0 : 0 ≤ v - e * v := by grind
 have q1 : (v - e * v) * (v - e * v) ≤ a * (v - e * v) := mul_le_r b0 (by grind)
 have q2 : (v - e * v) * a ≤ a * a := mul_le_r ha (by grind)
 have ee : e * e ≤ 1 / 1000 * e := mul_le_r he he2
 have eev := mul_le_r hvv ee
 have ev := mul_le_r hvv he2
 have e0 := mul_nn he hvv
 have q3 : (v - e * v) * (v - e * v) ≤ a * a := by grind
 have q4 := mul_le_r (show 0 ≤ 1 + 3 * e by grind) q3
 have e3 : 0 ≤ e * (e * (e * (v * v))) := mul_nn he (mul_nn he e0)
 constructor
 ·grind
 ·have : v * v ≤ (v - e * v) * (v - e * v) * (1 + 3 * e) := by
   have : (v - e * v) * (v - e * v) * (1 + 3 * e) = v * v + e * (v * v) - 5 * (e * e * (v * v)) + 3 * (e * (e * (e * (v * v)))) := by grind
   grind
  grind
def tp (e : Int) : Rat := (2 : Rat) ^ e
theorem tp_add (a b : Int) : tp (a + b) = tp a * tp b := Rat.zpow_add (by decide) a b
theorem tp_pos (e : Int) : 0 < tp e := Rat.zpow_pos (by decide)
theorem tp_nat (n : Nat) : tp (n : Int) = ((2 ^ n : Nat) : Rat) := by
 unfold tp
 rw [Rat.zpow_natCast]
 push_cast
 rfl
theorem tp_toNat {e : Int} (h : 0 ≤ e) : ((2 ^ e.toNat : Nat) : Rat) = tp e := by rw [← tp_nat, Int.toNat_of_nonneg h]
theorem dn_tp : (dn k : Rat) = tp (-k.format.leastPlace) := tp_toNat (by have := (okF k).hU; omega)
theorem fr_num {m : Nat} {i : Int} (h : k.format.leastPlace ≤ i) (hm : m * 2 ^ (i - k.format.leastPlace).toNat = Vk k (rk k x)) (hs : sgn k.format x = false) : fr k x = (m : Rat) * tp i := by
 have hd := dn_pos k
 refine mul_cancel hd ?_
 rcases fr_cases (k := k) x with ⟨_, e⟩ | ⟨e, _⟩
 ·rw [e, ← hm, Rat.natCast_mul, tp_toNat (by omega), dn_tp, Rat.mul_assoc, ← tp_add, Int.sub_eq_add_neg]
 ·rw [hs] at e; cases e
theorem sqrt_word {z : Nat} {M : Nat} {P : Int} (h : (k.format.read z).root (k.format.fractionBits + 2) = some (.number false M P)) : ∃ r, fsqrt k z = k.format.word false r ∧ ∀ B, B ≤ P → B ≤ k.format.leastPlace → r = rungN k.format (M * 2 ^ (P - B).toNat) B := by
 obtain ⟨r, hr, hB⟩ := nearest_R (f := k.format) false M P
 have hi : r ≤ k.format.infRung := by rw [hB (min P k.format.leastPlace) (by omega) (by omega)]; exact rungN_le_inf _ _ _
 refine ⟨r, ?_, hB⟩
 unfold fsqrt Format.sqrt
 rw [h]
 show canon k (k.format.nearest false M P) = _
 rw [hr, canon_word hi]
theorem tp_zero : tp 0 = 1 := by unfold tp; rfl
theorem tp_mono {a b : Int} (h : a ≤ b) : tp a ≤ tp b := by
 have e : b = a + ((b - a).toNat : Int) := by omega
 rw [e, tp_add, tp_nat]
 have h1 : (1 : Rat) ≤ ((2 ^ (b - a).toNat : Nat) : Rat) := by
  have : 1 ≤ 2 ^ (b - a).toNat := Nat.one_le_two_pow
  exact_mod_cast this
 have := Rat.mul_le_mul_of_nonneg_left h1 (Rat.le_of_lt (tp_pos a))
 rw [Rat.mul_one] at this
 exact this
theorem root_whole {n w : Nat} (h : n < (w + 1) * (w + 1)) (hn : 2 ^ 108 ≤ n) : 2 ^ 54 ≤ w := by
 rcases Nat.lt_or_ge w (2 ^ 54) with h1 | h1
 ·have h2 : (w + 1) * (w + 1) ≤ 2 ^ 54 * 2 ^ 54 := Nat.mul_le_mul h1 h1
  have h3 : (2 : Nat) ^ 54 * 2 ^ 54 = 2 ^ 108 := by decide
  omega
 ·exact h1
theorem root_sq {n w M : Nat} (h1 : w * w ≤ n) (h2 : n < (w + 1) * (w + 1)) (hw : 2 ^ 54 ≤ w) (hM : M = 2 * w ∧ w * w = n ∨ M = 2 * w + 1) : rel (1 / 4503599627370496) ((M : Rat) * (M : Rat)) (4 * (n : Rat)) := by
 have b1 : (w : Rat) * (w : Rat) ≤ (n : Rat) := by exact_mod_cast h1
 have h2' : n ≤ w * w + 2 * w := by
  have : (w + 1) * (w + 1) = w * w + 2 * w + 1 := by grind
  omega
 have b2 : (n : Rat) ≤ (w : Rat) * (w : Rat) + 2 * (w : Rat) := by exact_mod_cast h2'
 have b3 : (18014398509481984 : Rat) ≤ (w : Rat) := by exact_mod_cast hw
 have b4 := mul_le_r (show (0 : Rat) ≤ (w : Rat) by grind) b3
 rcases hM with ⟨rfl, e⟩ | rfl
 ·have e' : (w : Rat) * (w : Rat) = (n : Rat) := by exact_mod_cast e
  push_cast
  constructor <;> grind
 ·push_cast
  constructor <;> grind
theorem near_cut {a b l s v : Rat} (hb : 0 < b) (hlp : l ≤ s * (1 / 9007199254740992)) (hvl : s ≤ v) (g1 : (a * b - v * b) * 4503599627370496 ≤ v * b + l * b * 4503599627370496) (g2 : (v * b - a * b) * 4503599627370496 ≤ v * b + l * b * 4503599627370496) :
  a ≤ v + 1 / 2251799813685248 * v ∧ v ≤ a + 1 / 2251799813685248 * v := by
 have m1 := mul_le_r (Rat.le_of_lt hb) hlp
 have m2 := mul_le_r (Rat.le_of_lt hb) hvl
 exact ⟨le_of_mul hb (by grind), le_of_mul hb (by grind)⟩
theorem sqrt_E {z : Nat} (hs : sgn double z = false) (hz : rk .f64 z < inf .f64) (h0 : tp (-200) ≤ fr .f64 z) (hi : rk .f64 (fsqrt .f64 z) < inf .f64) :
  0 ≤ fr .f64 (fsqrt .f64 z) ∧ rel (1 / 281474976710656) (fr .f64 (fsqrt .f64 z) * fr .f64 (fsqrt .f64 z)) (fr .f64 z) := by
 obtain ⟨m, i, h1, h2, h3, h4, _⟩ := read_fin hz
 have hX := fr_num (k := .f64) h2 h3 hs
 have hm : m ≠ 0 := by
  intro e;have := tp_pos (-200);rw [e] at hX
  grind
 have hs' : sgn FloatKind.f64.format z = false := hs
 rw [hs'] at h1
 obtain ⟨more, w, M, P, d1, d2, d3, d4, d5, d6, _⟩ := root_datum (digits := FloatKind.f64.format.fractionBits + 2) (i := i) hm
 rw [← h1] at d1
 obtain ⟨r, w1, w2⟩ := sqrt_word d1
 have hn : 2 ^ 108 ≤ m * 2 ^ more := by have a1 := Nat.mul_le_mul_right (2 ^ more) (Nat.log2_self_le hm);rw [← Nat.pow_add] at a1;exact Nat.le_trans (Nat.pow_le_pow_right (by decide) (show 108 ≤ m.log2 + more by have : FloatKind.f64.format.fractionBits = 52 := rfl; omega)) a1
 have hw := root_whole d4 hn
 have hrel := root_sq d3 d4 hw d5
 have hu := tp_pos (2 * P)
 have hX' : fr .f64 z = 4 * ((m * 2 ^ more : Nat) : Rat) * tp (2 * P) := by
  rw [hX, Rat.natCast_mul, ← tp_nat, show i = (more : Int) + (2 + 2 * P) by omega, tp_add, tp_add, show tp 2 = 4 by unfold tp; rfl]
  grind
 have hv2 : ((M : Rat) * tp P) * ((M : Rat) * tp P) = (M : Rat) * (M : Rat) * tp (2 * P) := by
  rw [show (2 * P : Int) = P + P by omega, tp_add]
  grind
 have hvX : rel (1 / 4503599627370496) (((M : Rat) * tp P) * ((M : Rat) * tp P)) (fr .f64 z) := by
  rw [hv2, hX'];obtain ⟨p1, p2⟩ := hrel;have q1 := mul_le_r (Rat.le_of_lt hu) p1;have q2 := mul_le_r (Rat.le_of_lt hu) p2
  constructor <;> grind
 have hM0 : (0 : Rat) ≤ (M : Rat) := by exact_mod_cast Nat.zero_le M
 have hv0 : 0 ≤ (M : Rat) * tp P := mul_nn hM0 (Rat.le_of_lt (tp_pos P))
 have hvl : tp (-102) ≤ (M : Rat) * tp P := by
  rcases (Rat.le_total : tp (-102) ≤ (M : Rat) * tp P ∨ (M : Rat) * tp P ≤ tp (-102)) with h | h
  ·exact h
  ·exfalso
   have a1 := mul_le_r hv0 h;have a2 := Rat.mul_le_mul_of_nonneg_left h (Rat.le_of_lt (tp_pos (-102)));have a3 : tp (-102) * tp (-102) = tp (-204) := by rw [← tp_add]; congr 1
   have a4 : tp (-200) = tp (-204) * 16 := by rw [show (-200 : Int) = -204 + 4 by omega, tp_add, show tp 4 = 16 by unfold tp; rfl]
   have a5 := tp_pos (-204);obtain ⟨_, p2⟩ := hvX;generalize tp (-102) = b1 at *;generalize tp (-204) = b2 at *;generalize tp (-200) = b3 at *;generalize (M : Rat) * tp P = v at *
   grind
 have hB : min P double.leastPlace ≤ P ∧ min P double.leastPlace ≤ double.leastPlace := by omega
 generalize min P double.leastPlace = B at hB
 have e1 := w2 B hB.1 hB.2
 have hri : r ≤ inf .f64 := by rw [e1]; exact rungN_le_inf _ _ _
 have k1 : rk .f64 (fsqrt .f64 z) = r := by rw [w1, rk_word hri]
 have hRd : Rd double (M * 2 ^ (P - B).toNat) (2 ^ (double.leastPlace - B).toNat) r :=
  ⟨hri, fun q hq h => by rw [e1]; exact rung_le okD hB.2 hq h, fun q hq h => by rw [e1]; exact le_rung okD hB.2 hq h⟩
 obtain ⟨g1, g2⟩ := err_R (Nat.two_pow_pos _) hRd (by rw [← k1]; exact hi)
 have hfr : fr .f64 (fsqrt .f64 z) * tp (-double.leastPlace) = ((V double r : Nat) : Rat) := by
  have := fr_word (k := .f64) (u := false) hri;rw [← w1, if_neg (by simp), dn_tp] at this
  exact this
 have hbi : ((double.binade : Nat) : Rat) = 4503599627370496 := by
  have : double.binade = 4503599627370496 := by decide
  rw [this]; rfl
 rw [← hfr, Rat.natCast_mul, tp_toNat (by omega), tp_toNat (by omega), hbi] at g1 g2
 have c1 : tp (-double.leastPlace) * tp (double.leastPlace - B) = tp (-B) := by rw [← tp_add]; congr 1; omega
 have c2 : tp (P - B) = tp P * tp (-B) := by rw [← tp_add]; congr 1
 have c3 : tp (double.leastPlace - B) = tp double.leastPlace * tp (-B) := by rw [← tp_add]; congr 1
 have hlp : tp double.leastPlace ≤ tp (-102) * (1 / 9007199254740992) := by
  have : tp double.leastPlace ≤ tp (-155) := tp_mono (by decide)
  have e : tp (-102) = tp (-155) * 9007199254740992 := by rw [show (-102 : Int) = -155 + 53 by omega, tp_add, show tp 53 = 9007199254740992 by unfold tp; rfl]
  grind
 rw [Rat.mul_assoc, c1, c2, c3] at g1 g2
 have hb := tp_pos (-B)
 have hl0 := tp_pos double.leastPlace
 clear hfr c1 c2 c3 hX hX' hv2 hrel w1 w2 hRd e1 d1 h1
 generalize fr .f64 (fsqrt .f64 z) = a at *
 generalize tp (-B) = b at *
 generalize tp double.leastPlace = l at *
 generalize tp (-102) = s at *
 rw [← Rat.mul_assoc (M : Rat)] at g1 g2
 obtain ⟨k2, k3⟩ := near_cut hb hlp hvl g1 g2
 have hsq := sq_near (by grind) (by grind) hv0 k2 k3
 have hXn : 0 ≤ fr .f64 z := Rat.le_trans (Rat.le_of_lt (tp_pos _)) h0
 refine ⟨by grind, rel_trans hsq hvX (by grind) (by grind) ?_ hXn (by grind)⟩
 have ha0 : 0 ≤ a := by grind
 exact mul_nn ha0 ha0
theorem sqrt_fin {x : Nat} (hx : rk .f32 x < inf .f32) (hs : sgn single x = false) : rk .f64 (fsqrt .f64 (wide x)) < inf .f64 ∧ sgn double (fsqrt .f64 (wide x)) = false := by
 obtain ⟨hw, _, hws⟩ := wide_sv hx
 obtain ⟨m, i, h1, h2, _⟩ := read_fin hw
 rw [show sgn FloatKind.f64.format (wide x) = false by rw [← hs]; exact hws] at h1
 by_cases hm : m = 0
 ·have h3 : fsqrt .f64 (wide x) = double.word false 0 := by
   unfold fsqrt Format.sqrt;rw [h1, hm];show canon .f64 (double.nearest false 0 i) = _;have : double.nearest false 0 i = double.word false 0 := by unfold Format.nearest; rw [if_pos rfl]
   rw [this];exact canon_word (k := .f64) (Nat.zero_le _)
  rw [h3];exact ⟨by decide, by decide⟩
 ·obtain ⟨more, w, M, P, d1, _⟩ := root_datum (digits := FloatKind.f64.format.fractionBits + 2) (i := i) hm
  obtain ⟨t, m', e', he, h5⟩ := root_crude d1 (wide_crude (x := x) h1);simp only [Datum.number.injEq] at he;obtain ⟨rfl, rfl, rfl⟩ := he;obtain ⟨r', g1, g2⟩ := nearest_crude (f := double) (neg := false) (L := 66) h5 (by decide)
  have h3 : fsqrt .f64 (wide x) = double.word false r' := by unfold fsqrt Format.sqrt;rw [h1, d1];show canon .f64 (double.nearest false M P) = _;rw [g1];exact canon_word (k := .f64) (Nat.le_trans g2 (by decide))
  have hi : r' ≤ double.infRung := Nat.le_trans g2 (by decide)
  rw [h3];refine ⟨?_, word_sgn okD hi⟩;show rg double _ < _;rw [word_rg okD hi];exact Nat.lt_of_le_of_lt g2 (by decide)
theorem rootP_N {x : Nat} (hx : rk .f32 x < inf .f32) (hs : sgn single x = false) :
  rootP x = single.word false (rungN single (Vk .f64 (rk .f64 (fsqrt .f64 (wide x)))) (-1074)) ∧ rungN single (Vk .f64 (rk .f64 (fsqrt .f64 (wide x)))) (-1074) < single.infRung := by
 obtain ⟨hf, hsw⟩ := sqrt_fin hx hs
 have h := f2f_root x
 generalize fsqrt .f64 (wide x) = y at *
 have key : rungN single (Vk .f64 (rk .f64 y)) (-1074) < single.infRung := by
  rcases Nat.lt_or_ge (rungN single (Vk .f64 (rk .f64 y)) (-1074)) single.infRung with h1 | h1
  ·exact h1
  ·exfalso
   have h2 : rungN single (Vk .f64 (rk .f64 y)) (-1074) = single.infRung := Nat.le_antisymm (rungN_le_inf _ _ _) h1;obtain ⟨m, e, q1, q2, q3, _⟩ := read_fin hf;obtain ⟨r, hr, hB⟩ := nearest_R (f := single) (sgn double y) m e;have hr2 := hB (-1074) (by rw [lpD] at q2; exact q2) (by decide)
   rw [lpD] at q3;have q3' : m * 2 ^ (e - -1074).toNat = V double (rk .f64 y) := q3;rw [q3', show rungN single (V double (rk .f64 y)) (-1074) = single.infRung from h2] at hr2
   have hd : FloatKind.f64.decode y = .number (sgn double y) m e := q1;have hen : FloatKind.f32.encode (.number (sgn double y) m e) = single.word (sgn double y) r := hr;unfold f2f at h;rw [if_neg (by decide), hd] at h
   simp only [hen, hr2] at h;have h5 : ∀ s, (FloatKind.f32.decode (single.word s single.infRung)).isInfinity = true := by decide
   rw [h5] at h;simp at h
 have h2 := narrow_N hf key
 rw [h, hsw] at h2
 exact ⟨Option.some.inj h2, key⟩
theorem fr_wide {x : Nat} (hx : rk .f32 x < inf .f32) : fr .f64 (wide x) = fr .f32 x := by
 obtain ⟨_, h, _⟩ := wide_sv hx
 have h1 := fr_mul .f64 (wide x)
 have h2 := fr_mul .f32 x
 rw [h, Rat.intCast_mul, ← h2] at h1
 have h3 : (dn .f64 : Rat) = (dn .f32 : Rat) * ((cw : Int) : Rat) := by
  have : dn .f64 = dn .f32 * cw := by decide +kernel
  rw [this]
  push_cast
  rfl
 rw [h3, ← Rat.mul_assoc] at h1
 have hc : (0 : Rat) < ((cw : Int) : Rat) := by
  have := cw_pos
  exact_mod_cast this
 exact mul_cancel (dn_pos .f32) (mul_cancel hc h1)
theorem fr_low {x : Nat} (hs : sgn single x = false) (h0 : 0 < rk .f32 x) : tp (-149) ≤ fr .f32 x := by
 have h1 : 1 ≤ Vk .f32 (rk .f32 x) := V_pos h0
 have h2 : (1 : Rat) ≤ ((Vk .f32 (rk .f32 x) : Nat) : Rat) := by exact_mod_cast h1
 rcases fr_cases (k := .f32) x with ⟨_, e⟩ | ⟨e, _⟩
 ·rw [← e] at h2
  refine le_of_mul (dn_pos .f32) ?_;have : tp (-149) * (dn .f32 : Rat) = 1 := by
   rw [dn_tp, show -FloatKind.f32.format.leastPlace = 149 by decide, ← tp_add]
   exact tp_zero
  rw [this];exact h2
 ·rw [show sgn FloatKind.f32.format x = false from hs] at e; cases e
theorem root_cut {X a L : Rat} (hX : tp (-149) ≤ X) (ha : 0 ≤ a) (h1 : rel (1 / 281474976710656) (a * a) X) (g1 : (L - a) * 8388608 ≤ a + tp (-149) * 8388608) (g2 : (a - L) * 8388608 ≤ a + tp (-149) * 8388608) : 0 ≤ L ∧ rel (1 / 1000000) (L * L) X ∧ tp (-77) ≤ L := by
 have hal : tp (-76) ≤ a := by
  rcases (Rat.le_total : tp (-76) ≤ a ∨ a ≤ tp (-76)) with h | h
  ·exact h
  ·exfalso
   have a1 := mul_le_r ha h;have a2 := Rat.mul_le_mul_of_nonneg_left h (Rat.le_of_lt (tp_pos (-76)));have a3 : tp (-76) * tp (-76) = tp (-152) := by rw [← tp_add]; congr 1
   have a4 : tp (-149) = tp (-152) * 8 := by rw [show (-149 : Int) = -152 + 3 by omega, tp_add, show tp 3 = 8 by unfold tp; rfl]
   have a5 := tp_pos (-152);obtain ⟨_, p2⟩ := h1;generalize tp (-76) = b1 at *;generalize tp (-152) = b2 at *;generalize tp (-149) = b3 at *
   grind
 have hlp : tp (-149) ≤ tp (-76) * (1 / 1073741824) := by
  have : tp (-149) ≤ tp (-106) := tp_mono (by decide)
  have e : tp (-76) = tp (-106) * 1073741824 := by rw [show (-76 : Int) = -106 + 30 by omega, tp_add, show tp 30 = 1073741824 by unfold tp; rfl]
  grind
 have e77 : tp (-76) = tp (-77) * 2 := by rw [show (-76 : Int) = -77 + 1 by omega, tp_add, show tp 1 = 2 by unfold tp; rfl]
 have p77 := tp_pos (-77)
 have hX0 : 0 ≤ X := Rat.le_trans (Rat.le_of_lt (tp_pos _)) hX
 have p149 := tp_pos (-149)
 generalize tp (-149) = l at *
 generalize tp (-76) = s at *
 generalize tp (-77) = s7 at *
 have k2 : L ≤ a + 1 / 4194304 * a := by grind
 have k3 : a ≤ L + 1 / 4194304 * a := by grind
 have hL : 0 ≤ L := by grind
 exact ⟨hL, rel_trans (sq_near (by grind) (by grind) ha k2 k3) h1 (by grind) (by grind) (mul_nn hL hL) hX0 (by grind), by grind⟩
theorem near_cut2 {L a D C l : Rat} (hd : 0 < D) (hc : 0 < C) (h1 : l * D = 1) (g1 : (L * D * C - a * (D * C)) * 8388608 ≤ a * (D * C) + C * 8388608) (g2 : (a * (D * C) - L * D * C) * 8388608 ≤ a * (D * C) + C * 8388608) :
  (L - a) * 8388608 ≤ a + l * 8388608 ∧ (a - L) * 8388608 ≤ a + l * 8388608 := by
 have h2 : l * (D * C) = C := by rw [← Rat.mul_assoc, h1, Rat.one_mul]
 have hp := Rat.mul_pos hd hc
 exact ⟨le_of_mul hp (by grind), le_of_mul hp (by grind)⟩
theorem root_E {x : Nat} (hx : rk .f32 x < inf .f32) (hs : sgn single x = false) (h0 : 0 < rk .f32 x) :
  (0 ≤ fr .f32 (rootP x) ∧ rel (1 / 1000000) (fr .f32 (rootP x) * fr .f32 (rootP x)) (fr .f32 x)) ∧ sgn single (rootP x) = false ∧ rk .f32 (rootP x) < inf .f32 ∧ single.binade < rk .f32 (rootP x) ∧ tp (-77) ≤ fr .f32 (rootP x) := by
 obtain ⟨hf, hsw⟩ := sqrt_fin hx hs
 obtain ⟨n1, n2⟩ := rootP_N hx hs
 obtain ⟨hw, _, hws⟩ := wide_sv hx
 have hlow := fr_low hs h0
 have hfw := fr_wide hx
 obtain ⟨e0, e1⟩ := sqrt_E (z := wide x) (by rw [hws]; exact hs) hw (by rw [hfw]; exact Rat.le_trans (tp_mono (by decide)) hlow) hf
 rw [hfw] at e1
 have hlt := Nat.le_of_lt n2
 have k1 : rk .f32 (rootP x) = rungN single (Vk .f64 (rk .f64 (fsqrt .f64 (wide x)))) (-1074) := by rw [n1]; exact word_rg okS hlt
 have k2 : sgn single (rootP x) = false := by rw [n1]; exact word_sgn okS hlt
 have hRd : Rd single (Vk .f64 (rk .f64 (fsqrt .f64 (wide x)))) cw (rungN single (Vk .f64 (rk .f64 (fsqrt .f64 (wide x)))) (-1074)) :=
  ⟨hlt, fun q hq h => rung_le okS (by decide) hq (by rw [cw_eq]; exact h), fun q hq h => le_rung okS (by decide) hq (by rw [cw_eq]; exact h)⟩
 obtain ⟨g1, g2⟩ := err_R cw_pos hRd n2
 rw [← k1] at g1 g2 n2
 have f1 : fr .f32 (rootP x) * (dn .f32 : Rat) = ((V single (rk .f32 (rootP x)) : Nat) : Rat) := by
  rcases fr_cases (k := .f32) (rootP x) with ⟨_, e⟩ | ⟨e, _⟩
  ·exact e
  ·rw [show sgn FloatKind.f32.format (rootP x) = false from k2] at e; cases e
 have f2 : fr .f64 (fsqrt .f64 (wide x)) * (dn .f64 : Rat) = ((Vk .f64 (rk .f64 (fsqrt .f64 (wide x))) : Nat) : Rat) := by
  rcases fr_cases (k := .f64) (fsqrt .f64 (wide x)) with ⟨_, e⟩ | ⟨e, _⟩
  ·exact e
  ·rw [show sgn FloatKind.f64.format (fsqrt .f64 (wide x)) = false from hsw] at e; cases e
 have h3 : (dn .f64 : Rat) = (dn .f32 : Rat) * (cw : Rat) := by
  have : dn .f64 = dn .f32 * cw := by decide +kernel
  rw [this]
  push_cast
  rfl
 have hbi : ((single.binade : Nat) : Rat) = 8388608 := by
  have : single.binade = 8388608 := by decide
  rw [this]; rfl
 rw [← f1, ← f2, h3, hbi] at g1 g2
 have hc : (0 : Rat) < (cw : Rat) := by
  have := cw_pos
  exact_mod_cast this
 have hd := dn_pos .f32
 have h149 : tp (-149) * (dn .f32 : Rat) = 1 := by
  rw [dn_tp, show -FloatKind.f32.format.leastPlace = 149 by decide, ← tp_add]
  exact tp_zero
 obtain ⟨q1, q2⟩ := near_cut2 hd hc h149 g1 g2
 obtain ⟨r1, r2, r3⟩ := root_cut hlow e0 e1 q1 q2
 refine ⟨⟨r1, r2⟩, k2, n2, ?_, r3⟩
 rcases Nat.lt_or_ge single.binade (rk .f32 (rootP x)) with h | h
 ·exact h
 ·exfalso
  have h4 := V_mono single h;rw [show V single single.binade = 8388608 by decide] at h4
  have h5 : ((V single (rk .f32 (rootP x)) : Nat) : Rat) ≤ 8388608 := by exact_mod_cast h4
  rw [← f1] at h5;have h6 := mul_le_r (Rat.le_of_lt hd) r3;have h7 : tp (-77) * (dn .f32 : Rat) = tp 72 := by
   rw [dn_tp, show -FloatKind.f32.format.leastPlace = 149 by decide, ← tp_add]
   congr 1
  have h8 : tp 24 ≤ tp 72 := tp_mono (by decide)
  have h9 : tp 24 = 16777216 := by unfold tp; rfl
  grind
theorem rootP_zero {x : Nat} (h : rk .f32 x = 0) (hs : sgn single x = false) : rootP x = 0 := by
 have hx : rk .f32 x < inf .f32 := by rw [h]; decide
 obtain ⟨n1, _⟩ := rootP_N hx hs
 have hw := (wide_sv hx)
 have h1 : sv .f64 (wide x) = 0 := by
  rw [hw.2.1];have : sv .f32 x = 0 := by unfold sv; rw [h]; simp [Vk, V_zero]
  rw [this, Int.zero_mul]
 have h2 : rk .f64 (wide x) = 0 := by
  have := sv_abs .f64 (wide x);rw [h1] at this
  rcases Nat.eq_zero_or_pos (rk .f64 (wide x)) with h0 | h0
  ·exact h0
  ·have h3 : 0 < Vk .f64 (rk .f64 (wide x)) := V_pos (f := double) h0
   omega
 have h3 : fsqrt .f64 (wide x) = double.word false 0 := by
  unfold fsqrt Format.sqrt;rw [read_zero h2, show sgn FloatKind.f64.format (wide x) = false by rw [← hs]; exact hw.2.2]
  decide
 rw [h3] at n1
 rw [n1]
 decide
end Vs
