/-
  Lengths and gains in the moved forms: all are finite, and a gain turned round is its opposite.
-/
import Derived.Test.YtaakjnkllodchaaGreatK49
import Derived.Test.YtaakjnkllodchaaGreatK29
import Derived.Test.YtaakjnkllodchaaGreatK32
set_option maxHeartbeats 4000000
namespace Vs
open Go Go.Sort Ieee
theorem root_fin {x : Nat} (hx : rk .f32 x < inf .f32) (hs : sgn single x = false) : rk .f32 (rootP x) ≤ 1635778560 := by
 obtain ⟨r, e, hr, _⟩ := wide_word hx
 rw [hs] at e
 have hr2 : rg double (wide x) < double.infRung := by rw [e, word_rg okD (Nat.le_of_lt hr)]; exact hr
 obtain ⟨m, i, h1, _⟩ := read_fin hr2
 have hsg : sgn double (wide x) = false := by rw [e]; exact word_sgn okD (Nat.le_of_lt hr)
 rw [hsg] at h1
 have hd : ∃ d, Datum.root (double.fractionBits + 2) (.number false m i) = some d := by
  simp only [Datum.root];split
  ·exact ⟨_, rfl⟩
  ·exact ⟨_, rfl⟩
 have hs2 : ∃ t r', fsqrt .f64 (wide x) = double.word t r' ∧ r' ≤ 1090 * double.binade := by
  unfold fsqrt Format.sqrt;rw [show FloatKind.f64.format.read (wide x) = .number false m i from h1]
  obtain ⟨d, hd⟩ : ∃ d, (Datum.root (FloatKind.f64.format.fractionBits + 2) (.number false m i)) = some d := hd;obtain ⟨t, m', e', rfl, h5⟩ := root_crude hd (wide_crude (x := x) h1);obtain ⟨r', g1, g2⟩ := nearest_crude (f := double) (neg := t) (L := 66) h5 (by decide)
  refine ⟨t, r', ?_, g2⟩;rw [hd];show canon .f64 (double.nearest t m' e') = _;rw [g1];exact canon_word (k := .f64) (Nat.le_trans g2 (by decide))
 obtain ⟨t, r', g1, g2⟩ := hs2
 obtain ⟨t2, m2, e2, g3, g4⟩ := read_crude (s := t) (q := 1088) double_ok (by decide) g2
 have e5 : double.leastPlace + ((1088 : Nat) : Int) + 1 + double.fractionBits = 67 := by decide
 rw [e5] at g4
 obtain ⟨r3, h3, h4⟩ := nearest_crude (f := single) (neg := t2) (fun _ => g4) (by decide)
 have h6 : r3 ≤ 1635778560 := Nat.le_trans h4 (by decide)
 have h7 := f2f_root x
 rw [g1] at h7
 unfold f2f at h7
 rw [if_neg (by decide), show FloatKind.f64.decode (double.word t r') = .number t2 m2 e2 from g3] at h7
 have hen : FloatKind.f32.encode (.number t2 m2 e2) = single.word t2 r3 := h3
 simp only [hen] at h7
 have h8 : (FloatKind.f32.decode (single.word t2 r3)).isInfinity = false := read_word okS.hw (Nat.lt_of_le_of_lt h6 (by decide))
 rw [h8] at h7
 simp only [Bool.false_eq_true, if_false, Option.some.injEq] at h7
 have h9 : canon .f32 (single.word t2 r3) = single.word t2 r3 := canon_word (k := .f32) (Nat.le_trans h6 (by decide))
 rw [← h7, h9]
 show rg single _ ≤ _
 rw [word_rg okS (Nat.le_trans h6 (by decide))]
 exact h6
def cB (v : V3) (c : Nat) : Prop := rk .f32 v.x ≤ c ∧ rk .f32 v.y ≤ c ∧ rk .f32 v.z ≤ c
instance (v : V3) (c : Nat) : Decidable (cB v c) := inferInstanceAs (Decidable (_ ∧ _))
theorem form_c0 : ∀ v ∈ fv0, cB v 1073741824 := by decide +kernel
theorem form_c1 : ∀ v ∈ fv1, cB v 1073741824 := by decide +kernel
theorem form_c2 : ∀ v ∈ fv2, cB v 1073741824 := by decide +kernel
theorem form_c3 : ∀ v ∈ fv3, cB v 1073741824 := by decide +kernel
theorem form_c4 : ∀ v ∈ fv4, cB v 1073741824 := by decide +kernel
theorem form_c : ∀ k, ∀ v ∈ formV k, cB v 1073741824
 | 0 => form_c0
 | 1 => form_c1
 | 2 => form_c2
 | 3 => form_c3
 | _ + 4 => form_c4
theorem off9 : ∀ n : Fin 9, rk .f32 (fdiv .f32 (i2f .f32 ((n.1 : Int) - 4)) 1090519040) ≤ 1056964608 := by decide +kernel
theorem off_c {cs : List Int} (h : bytes cs) (j : Nat) : rk .f32 (offF cs j) ≤ 1056964608 := by
 obtain ⟨h0, h1⟩ := pkN_rng h j
 have := off9 ⟨(pkN cs j).toNat, by omega⟩
 simp only [Int.toNat_of_nonneg h0] at this
 exact this
theorem add_c {x y : Nat} (hx : rk .f32 x ≤ 1073741824) (hy : rk .f32 y ≤ 1056964608) : rk .f32 (fadd .f32 x y) ≤ 1077936128 := mg_add hx hy (by decide +kernel)
theorem get_c {vs : List V3} {c : Nat} (h : ∀ v ∈ vs, cB v c) (j : Nat) : cB (vs.getD j ⟨0, 0, 0⟩) c := by
 rw [List.getD_eq_getElem?_getD]
 cases e : vs[j]? with
 | none => exact ⟨Nat.zero_le _, Nat.zero_le _, Nat.zero_le _⟩
 | some v => exact h v (List.mem_of_getElem? e)
theorem mv_c {cs : List Int} (h : bytes cs) (k : Nat) (p : Int) : cB (atV (mvA cs (formV k)) p) 1077936128 := by
 unfold atV mvA
 rw [mvN_get]
 have hg := get_c (form_c k) p.toNat
 split
 ·exact ⟨add_c hg.1 (off_c h _), add_c hg.2.1 (off_c h _), add_c hg.2.2 (off_c h _)⟩
 ·exact ⟨Nat.le_trans hg.1 (by decide), Nat.le_trans hg.2.1 (by decide), Nat.le_trans hg.2.2 (by decide)⟩
theorem sum_c {a b c : Nat} (x y : Nat) (hx : rk .f32 x ≤ a) (hy : rk .f32 y ≤ b) (sx : sgn single x = false) (sy : sgn single y = false) (h : a < inf .f32 ∧ b < inf .f32 ∧ c ≤ inf .f32 ∧ Vk .f32 a + Vk .f32 b ≤ Vk .f32 c) :
  rk .f32 (fadd .f32 x y) ≤ c ∧ sgn single (fadd .f32 x y) = false := by
 obtain ⟨r, u, e, hr, hu⟩ := fadd_R (k := .f32) (x := x) (y := y) (Nat.lt_of_le_of_lt hx h.1) (Nat.lt_of_le_of_lt hy h.2.1)
 refine ⟨mg_add hx hy h, ?_⟩
 rw [e, hu sx sy]
 exact sgn_word (k := .f32) hr.1
theorem bst_max {num : E2 → Option Nat} {es : List E2} (hf : ∀ e v, num e = some v → rk .f32 v < inf .f32) : ∀ i,
  (∀ j v, bstN num (betL true) es i = some (j, v) → rk .f32 v < inf .f32) ∧ ∀ j x, j < i → num (es.getD j (0, 0)) = some x → ∃ j' v, bstN num (betL true) es i = some (j', v) ∧ sv .f32 x ≤ sv .f32 v
 | 0 => ⟨fun _ _ h => (nomatch (show (none : Option (Nat × Nat)) = some _ from h)), fun _ _ h _ => absurd h (Nat.not_lt_zero _)⟩
 | i + 1 => by
  obtain ⟨hA, hB⟩ := bst_max hf i;show (∀ j v, bstS num (betL true) es (bstN num (betL true) es i) i = some (j, v) → _) ∧ ∀ j x, _ → _ → ∃ j' v, bstS num (betL true) es (bstN num (betL true) es i) i = some (j', v) ∧ _
  cases hn : num (es.getD i (0, 0)) with
  | none =>
   rw [bstS_none hn];refine ⟨hA, fun j x hj hx => ?_⟩
   rcases Nat.lt_or_ge j i with h | h
   ·exact hB j x h hx
   ·rw [show j = i by omega, hn] at hx; cases hx
  | some z =>
   have hz := hf _ _ hn;have hzz : feq .f32 z z = true := by rw [feq_R hz hz]; exact decide_eq_true rfl
   rw [bstS_some hn, hzz, Bool.true_and]
   cases hs : bstN num (betL true) es i with
   | none =>
    refine ⟨fun j v h => ?_, fun j x hj hx => ?_⟩
    ·rw [if_pos (show betO (betL true) none z = true from rfl)] at h
     simp only [Option.some.injEq, Prod.mk.injEq] at h;rw [← h.2]; exact hz
    ·rcases Nat.lt_or_ge j i with h | h
     ·obtain ⟨_, _, h2, _⟩ := hB j x h hx
      rw [hs] at h2; cases h2
     ·rw [show j = i by omega, hn] at hx
      simp only [Option.some.injEq] at hx;subst hx;exact ⟨i, z, if_pos (show betO (betL true) none z = true from rfl), Int.le_refl _⟩
   | some st =>
    obtain ⟨j0, v0⟩ := st;have hv0 := hA j0 v0 hs;have hb : betO (betL true) (some (j0, v0)) z = decide (sv .f32 v0 < sv .f32 z) := by show fgt .f32 z v0 = _;exact fgt_R hz hv0
    rw [hb];refine ⟨fun j v h => ?_, fun j x hj hx => ?_⟩
    ·split at h
     ·simp only [Option.some.injEq, Prod.mk.injEq] at h
      rw [← h.2]; exact hz
     ·simp only [Option.some.injEq, Prod.mk.injEq] at h
      rw [← h.2]; exact hv0
    ·rcases Nat.lt_or_ge j i with h | h
     ·obtain ⟨j', v', h2, h3⟩ := hB j x h hx
      rw [hs] at h2;simp only [Option.some.injEq, Prod.mk.injEq] at h2;obtain ⟨rfl, rfl⟩ := h2
      by_cases hc : sv .f32 v0 < sv .f32 z
      ·exact ⟨i, z, if_pos (decide_eq_true hc), by omega⟩
      ·exact ⟨j0, v0, if_neg (by simpa using hc), h3⟩
     ·rw [show j = i by omega, hn] at hx
      simp only [Option.some.injEq] at hx;subst hx
      by_cases hc : sv .f32 v0 < sv .f32 z
      ·exact ⟨i, z, if_pos (decide_eq_true hc), Int.le_refl _⟩
      ·exact ⟨j0, v0, if_neg (by simpa using hc), by omega⟩
end Vs
