/-
  How thick a triangle is does not change when it is scaled by two.
-/
import Derived.Test.YtbaijndhllhplaaFe3
import Derived.Test.YtbaijndhllhplaaK9
set_option maxHeartbeats 4000000
namespace Vs
open Go Ieee
theorem root_mag {x : Nat} (hx : rk .f32 x < inf .f32) (hs : sgn single x = false) : rk .f32 (rootP x) ≤ 1635778560 := by
 obtain ⟨r, e, hr, _⟩ := wide_word hx
 rw [hs] at e
 have hr2 : rg double (wide x) < double.infRung := by rw [e, word_rg okD (Nat.le_of_lt hr)]; exact hr
 obtain ⟨m, i, h1, _⟩ := read_fin hr2
 have hsg : sgn double (wide x) = false := by rw [e]; exact word_sgn okD (Nat.le_of_lt hr)
 rw [hsg] at h1
 have hd : ∃ d, Datum.root (double.fractionBits + 2) (.number false m i) = some d := by
  simp only [Datum.root];split
  ·exact ⟨_, rfl⟩
  ·exact ⟨_, rfl⟩
 have hs2 : ∃ t r', fsqrt .f64 (wide x) = double.word t r' ∧ r' ≤ 1090 * double.binade := by
  unfold fsqrt Format.sqrt;rw [show FloatKind.f64.format.read (wide x) = .number false m i from h1]
  obtain ⟨d, hd⟩ : ∃ d, (Datum.root (FloatKind.f64.format.fractionBits + 2) (.number false m i)) = some d := hd;obtain ⟨t, m', e', rfl, h5⟩ := root_crude hd (wide_crude (x := x) h1);obtain ⟨r', g1, g2⟩ := nearest_crude (f := double) (neg := t) (L := 66) h5 (by decide)
  refine ⟨t, r', ?_, g2⟩;rw [hd];show canon .f64 (double.nearest t m' e') = _;rw [g1];exact canon_word (k := .f64) (Nat.le_trans g2 (by decide))
 obtain ⟨t, r', g1, g2⟩ := hs2
 obtain ⟨t2, m2, e2, g3, g4⟩ := read_crude (s := t) (q := 1088) double_ok (by decide) g2
 have e5 : double.leastPlace + ((1088 : Nat) : Int) + 1 + double.fractionBits = 67 := by decide
 rw [e5] at g4
 obtain ⟨r3, h3, h4⟩ := nearest_crude (f := single) (neg := t2) (fun _ => g4) (by decide)
 have h6 : r3 ≤ 1635778560 := Nat.le_trans h4 (by decide)
 have h7 := f2f_root x
 rw [g1] at h7
 unfold f2f at h7
 rw [if_neg (by decide), show FloatKind.f64.decode (double.word t r') = .number t2 m2 e2 from g3] at h7
 have hen : FloatKind.f32.encode (.number t2 m2 e2) = single.word t2 r3 := h3
 simp only [hen] at h7
 have h8 : (FloatKind.f32.decode (single.word t2 r3)).isInfinity = false := read_word okS.hw (Nat.lt_of_le_of_lt h6 (by decide))
 rw [h8] at h7
 simp only [Bool.false_eq_true, if_false, Option.some.injEq] at h7
 have h9 : canon .f32 (single.word t2 r3) = single.word t2 r3 := canon_word (k := .f32) (Nat.le_trans h6 (by decide))
 rw [← h7, h9]
 show rg single _ ≤ _
 rw [word_rg okS (Nat.le_trans h6 (by decide))]
 exact h6
def vB (m : Nat) (v : V3) : Prop := rk .f32 v.x ≤ m ∧ rk .f32 v.y ≤ m ∧ rk .f32 v.z ≤ m
theorem fin_of {x m : Nat} (h : rk .f32 x ≤ m) (hm : m < inf .f32) : rk .f32 x < inf .f32 := Nat.lt_of_le_of_lt h hm
theorem q6 : (1086324736 : Nat) < inf .f32 ∧ 1086324736 < inf .f32 ∧ 1098907648 ≤ inf .f32 ∧ Vk .f32 1086324736 + Vk .f32 1086324736 ≤ Vk .f32 1098907648 := by decide +kernel
theorem less_B {v w : V3} (hv : vB 1086324736 v) (hw : vB 1086324736 w) : vB 1098907648 (lessV v w) :=
 ⟨mg_sub hv.1 hw.1 q6, mg_sub hv.2.1 hw.2.1 q6, mg_sub hv.2.2 hw.2.2 q6⟩
theorem q512 : (1140850688 : Nat) < inf .f32 ∧ 1140850688 < inf .f32 ∧ 1216348160 ≤ inf .f32 ∧ Vk .f32 1140850688 * Vk .f32 1140850688 ≤ Vk .f32 1216348160 * dn .f32 := by decide +kernel
theorem q18 : (1216348160 : Nat) < inf .f32 ∧ 1216348160 < inf .f32 ∧ 1224736768 ≤ inf .f32 ∧ Vk .f32 1216348160 + Vk .f32 1216348160 ≤ Vk .f32 1224736768 := by decide +kernel
theorem q19 : (1224736768 : Nat) < inf .f32 ∧ 1216348160 < inf .f32 ∧ 1233125376 ≤ inf .f32 ∧ Vk .f32 1224736768 + Vk .f32 1216348160 ≤ Vk .f32 1233125376 := by decide +kernel
theorem sq_B {x : Nat} (hx : rk .f32 x ≤ 1140850688) : rk .f32 (fmul .f32 x x) ≤ 1216348160 := mg_mul hx hx q512
theorem sq_sgn {x : Nat} (hx : rk .f32 x ≤ 1140850688) : sgn single (fmul .f32 x x) = false := by
 obtain ⟨r, e, hr⟩ := fmul_R (k := .f32) (x := x) (y := x) (fin_of hx (by decide)) (fin_of hx (by decide))
 rw [e, Bool.xor_self]
 exact sgn_word (k := .f32) hr.1
theorem add_sgn {x y : Nat} (hx : rk .f32 x < inf .f32) (hy : rk .f32 y < inf .f32) (sx : sgn single x = false) (sy : sgn single y = false) : sgn single (fadd .f32 x y) = false := by
 obtain ⟨r, u, e, hr, hu⟩ := fadd_R (k := .f32) hx hy
 rw [e, hu sx sy]
 exact sgn_word (k := .f32) hr.1
theorem dot_B {p : V3} (hp : vB 1140850688 p) : rk .f32 (dotV p p) ≤ 1233125376 := mg_add (mg_add (sq_B hp.1) (sq_B hp.2.1) q18) (sq_B hp.2.2) q19
theorem dot_sgn {p : V3} (hp : vB 1140850688 p) : sgn single (dotV p p) = false :=
 add_sgn (fin_of (mg_add (sq_B hp.1) (sq_B hp.2.1) q18) (by decide)) (fin_of (sq_B hp.2.2) (by decide)) (add_sgn (fin_of (sq_B hp.1) (by decide)) (fin_of (sq_B hp.2.1) (by decide)) (sq_sgn hp.1) (sq_sgn hp.2.1)) (sq_sgn hp.2.2)
theorem up16 {v : V3} (h : vB 1098907648 v) : vB 1140850688 v := ⟨Nat.le_trans h.1 (by decide), Nat.le_trans h.2.1 (by decide), Nat.le_trans h.2.2 (by decide)⟩
variable {a b c a' b' c' : V3}
theorem long_eq (v : V3) : longV v = rootP (dotV v v) := rfl
end Vs
