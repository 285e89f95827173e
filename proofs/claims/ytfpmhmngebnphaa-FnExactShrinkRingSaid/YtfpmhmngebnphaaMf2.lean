/-
  The square root of a number in single precision, taken in double precision, is narrowed without overflow.
-/
import Derived.Test.YtfpmhmngebnphaaMf1
namespace Vs
open Go Ieee

/-- Where the leading digit lies at most at L, the rung is bounded. -/
theorem nearest_crude {f : Format} {neg : Bool} {mag : Nat} {place L : Int} (h : mag ≠ 0 → place + mag.log2 ≤ L) (hL : f.leastPlace + f.fractionBits ≤ L) :
    ∃ r, f.nearest neg mag place = f.word neg r ∧ r ≤ ((L - f.fractionBits - f.leastPlace).toNat + 2) * f.binade := by
  have hb : f.binade = 2 ^ f.fractionBits := rfl
  unfold Format.nearest
  split
  · exact ⟨0, rfl, Nat.zero_le _⟩
  · rename_i h0
    have hp := h h0
    refine ⟨_, rfl, Nat.le_trans (Nat.min_le_left _ _) ?_⟩
    simp only [cut_rnd, Nat.shiftLeft_eq]
    generalize hlast : max (place + (mag.log2 : Int) - f.fractionBits) f.leastPlace = last
    have k1 : rnd (mag * 2 ^ (place - last).toNat) (last - place).toNat ≤ 2 * f.binade := by
      have hm2 : mag < 2 ^ (mag.log2 + 1) := Nat.lt_log2_self
      have hexp : mag.log2 + 1 + (place - last).toNat ≤ (f.fractionBits + 1) + (last - place).toNat := by omega
      have hm3 : mag * 2 ^ (place - last).toNat ≤ 2 ^ (f.fractionBits + 1) * 2 ^ (last - place).toNat := by
        refine Nat.le_trans (Nat.mul_le_mul_right _ (Nat.le_of_lt hm2)) ?_
        rw [← Nat.pow_add, ← Nat.pow_add]
        exact Nat.pow_le_pow_right (by decide) hexp
      have := rnd_mono (d := (last - place).toNat) hm3
      have hx := rnd_mul (2 ^ (f.fractionBits + 1)) 0 (last - place).toNat
      rw [Nat.zero_add, rnd_zero] at hx
      rw [hx, show 2 ^ (f.fractionBits + 1) = 2 * f.binade by rw [Nat.pow_succ, Nat.mul_comm, hb]] at this
      exact this
    have k2 : (last - f.leastPlace).toNat ≤ (L - f.fractionBits - f.leastPlace).toNat := by omega
    have k3 := Nat.mul_le_mul_right f.binade k2
    rw [Nat.add_mul]
    omega

theorem word_mod {f : Format} {s : Bool} {r : Nat} (h : r < f.signWeight) : f.word s r % f.signWeight = r := by
  unfold Format.word
  split
  · rw [Nat.add_mod_left]; exact Nat.mod_eq_of_lt h
  · exact Nat.mod_eq_of_lt h

/-- What a bounded rung reads as. -/
theorem read_crude {f : Format} {s : Bool} {r q : Nat} (hw : f.infRung < f.signWeight) (hq : (q + 2) * f.binade < f.infRung) (h : r ≤ (q + 2) * f.binade) :
    ∃ t m e, f.read (f.word s r) = .number t m e ∧ e + m.log2 ≤ f.leastPlace + q + 1 + f.fractionBits := by
  have hb : f.binade = 2 ^ f.fractionBits := rfl
  have hbp : 0 < f.binade := Nat.two_pow_pos _
  unfold Format.read
  simp only [word_mod (show r < f.signWeight by omega)]
  split
  · rename_i hlt
    refine ⟨_, _, _, rfl, ?_⟩
    have : r.log2 ≤ f.fractionBits := by
      by_cases h0 : r = 0
      · subst h0; simp
      · have := (Nat.log2_lt h0).2 hlt
        omega
    omega
  · rw [if_pos (by omega)]
    refine ⟨_, _, _, rfl, ?_⟩
    have hmod : r % f.binade < f.binade := Nat.mod_lt _ hbp
    have h0 : f.binade + r % f.binade ≠ 0 := by omega
    have h1 : (f.binade + r % f.binade).log2 < f.fractionBits + 1 := (Nat.log2_lt h0).2 (by rw [Nat.pow_succ, ← hb]; omega)
    have h2 : r / f.binade ≤ q + 2 := by
      have := Nat.div_le_div_right (c := f.binade) h
      rw [Nat.mul_div_cancel _ hbp] at this
      exact this
    omega

theorem rootFrom_sq (n : Nat) : ∀ (todo root : Nat), root * root ≤ n → Datum.rootFrom n todo root * Datum.rootFrom n todo root ≤ n
  | 0, root, h => h
  | todo + 1, root, h => by
    unfold Datum.rootFrom
    simp only
    split
    · rename_i hl
      exact rootFrom_sq n todo _ hl
    · exact rootFrom_sq n todo _ h

/-- A root has half the digits. -/
theorem root_crude {digits : Nat} {s : Bool} {m : Nat} {i L : Int} {d : Datum} (h : Datum.root digits (.number s m i) = some d) (hL : i + m.log2 ≤ L) :
    ∃ t m' e', d = .number t m' e' ∧ (m' ≠ 0 → e' + m'.log2 ≤ L / 2 + 2) := by
  simp only [Datum.root] at h
  split at h
  · rename_i h0
    simp only [Option.some.injEq] at h
    subst h
    exact ⟨_, _, _, rfl, fun h => absurd h0 h⟩
  · rename_i h0
    split at h
    · cases h
    · simp only [Option.some.injEq] at h
      subst h
      generalize hmore : 2 * digits - m.log2 + ((i - ((2 * digits - m.log2 : Nat) : Int)) % 2).toNat = more at *
      refine ⟨_, _, _, rfl, ?_⟩
      generalize hw : Datum.rootFrom (m <<< more) ((m <<< more).log2 / 2 + 1) 0 = whole
      have hsq : whole * whole ≤ m * 2 ^ more := by
        rw [← hw, ← Nat.shiftLeft_eq]
        exact rootFrom_sq _ _ 0 (by simp)
      have hwl : whole ≠ 0 → 2 * whole.log2 ≤ m.log2 + more := by
        intro hw0
        have h1 := Nat.log2_self_le hw0
        have h2 : 2 ^ (whole.log2 + whole.log2) ≤ m * 2 ^ more := by
          rw [Nat.pow_add]
          exact Nat.le_trans (Nat.mul_le_mul h1 h1) hsq
        have h3 : m * 2 ^ more ≠ 0 := Nat.mul_ne_zero h0 (Nat.pos_iff_ne_zero.1 (Nat.two_pow_pos _))
        have := (Nat.le_log2 h3).2 h2
        rw [log2_mul_pow h0] at this
        omega
      have hlog : ∀ b : Bool, 2 * whole + b.toNat ≠ 0 → (2 * whole + b.toNat).log2 ≤ (m.log2 + more) / 2 + 1 := by
        intro b hb
        by_cases hw0 : whole = 0
        · subst hw0
          have : (2 * 0 + b.toNat).log2 = 0 := by cases b <;> decide
          omega
        · have h4 : 2 * whole + b.toNat < 2 ^ (whole.log2 + 2) := by
            have h5 : whole < 2 ^ (whole.log2 + 1) := Nat.lt_log2_self
            have h6 : 2 ^ (whole.log2 + 2) = 2 * 2 ^ (whole.log2 + 1) := by rw [Nat.pow_succ, Nat.mul_comm]
            have h7 := Bool.toNat_le b
            omega
          have h8 := (Nat.log2_lt hb).2 h4
          have h9 := hwl hw0
          omega
      have hfin : ∀ b : Bool, 2 * whole + b.toNat ≠ 0 → (i - (more : Nat)) / 2 - 1 + ((2 * whole + b.toNat).log2 : Int) ≤ L / 2 + 2 := by
        intro b hb
        have := hlog b hb
        omega
      exact fun hb => hfin _ hb

theorem nan_fnan (k : FloatKind) : ∃ s t, k.decode (fnan k) = .nan s t := by
  cases k
  · exact ⟨_, _, rfl⟩
  · exact ⟨_, _, rfl⟩

theorem num_canon {k : FloatKind} {x : Nat} {s : Bool} {m : Nat} {e : Int} (h : k.decode (canon k x) = .number s m e) : k.decode x = .number s m e := by
  unfold canon at h
  split at h
  · obtain ⟨a, b, hn⟩ := nan_fnan k
    rw [hn] at h
    cases h
  · exact h

theorem single_ok : single.infRung < single.signWeight := by decide

theorem wide_crude {x : Nat} {s : Bool} {m : Nat} {i : Int} (h : FloatKind.f64.decode (wide x) = .number s m i) : i + m.log2 ≤ 128 := by
  have hx := f2f_wide x
  unfold f2f at hx
  rw [if_neg (by decide)] at hx
  split at hx
  · simp only [Option.some.injEq] at hx
    rw [← hx] at h
    obtain ⟨a, b, hn⟩ := nan_fnan .f64
    rw [hn] at h
    cases h
  · simp only [Option.some.injEq] at hx
    rw [← hx] at h
    have := num_canon h
    rename_i s' _
    cases s' <;> cases this
  · rename_i s' m' e' hr
    split at hx
    · cases hx
    · simp only [Option.some.injEq] at hx
      rw [← hx] at h
      have h2 := num_canon h
      obtain ⟨a, b, c⟩ := read_single hr
      have hlog : m' ≠ 0 → e' + m'.log2 ≤ 127 := fun h0 => by
        have := (Nat.log2_lt h0).2 a
        omega
      obtain ⟨r, g1, g2⟩ := nearest_crude (f := double) (neg := s') hlog (by decide)
      have h3 : double.read (double.nearest s' m' e') = .number s m i := h2
      rw [g1] at h3
      obtain ⟨t, m2, e2, g3, g4⟩ := read_crude (s := s') (q := 1149) double_ok (by decide) g2
      rw [g3] at h3
      simp only [Datum.number.injEq] at h3
      obtain ⟨_, rfl, rfl⟩ := h3
      have e5 : double.leastPlace + ((1149 : Nat) : Int) + 1 + double.fractionBits = 128 := by decide
      omega

/-- A double of modest size is narrowed without overflow. -/
theorem narrow_crude {z : Nat} (h : ∀ s m i, FloatKind.f64.decode z = .number s m i → m ≠ 0 → i + m.log2 ≤ 120) : ∃ y, f2f .f64 .f32 z = some y := by
  unfold f2f
  rw [if_neg (by decide)]
  split
  · exact ⟨_, rfl⟩
  · exact ⟨_, rfl⟩
  · rename_i s m e hr
    obtain ⟨r, g1, g2⟩ := nearest_crude (f := single) (neg := s) (fun h0 => h s m e hr h0) (by decide)
    obtain ⟨t, m2, e2, g3, g4⟩ := read_crude (s := s) (q := 246) single_ok (by decide) g2
    have : (FloatKind.f32.decode (FloatKind.f32.encode (.number s m e))).isInfinity = false := by
      show (single.read (single.nearest s m e)).isInfinity = false
      rw [g1, g3]
      rfl
    rw [this]
    exact ⟨_, rfl⟩

theorem root_modest {z : Nat} (h : ∀ s m i, FloatKind.f64.decode z = .number s m i → i + m.log2 ≤ 128) : ∀ s m i, FloatKind.f64.decode (fsqrt .f64 z) = .number s m i → m ≠ 0 → i + m.log2 ≤ 120 := by
  intro s m i hd _
  unfold fsqrt fin at hd
  split at hd
  · rename_i r hr
    have h2 := num_canon hd
    unfold Format.sqrt at hr
    cases hz : FloatKind.f64.format.read z with
    | nan a b => rw [hz] at hr; simp [Datum.root] at hr
    | infinity a =>
      rw [hz] at hr
      cases a with
      | true => simp [Datum.root] at hr
      | false =>
        simp [Datum.root] at hr
        subst hr
        cases h2
    | number a b c =>
      rw [hz] at hr
      simp only [Option.map_eq_some_iff] at hr
      obtain ⟨d, h3, h4⟩ := hr
      obtain ⟨t, m', e', rfl, h5⟩ := root_crude h3 (h a b c hz)
      obtain ⟨r', g1, g2⟩ := nearest_crude (f := double) (neg := t) (L := 66) h5 (by decide)
      have h6 : double.read (double.nearest t m' e') = .number s m i := by
        have : double.nearest t m' e' = r := h4
        rw [this]
        exact h2
      rw [g1] at h6
      obtain ⟨t2, m2, e2, g3, g4⟩ := read_crude (s := t) (q := 1088) double_ok (by decide) g2
      rw [g3] at h6
      simp only [Datum.number.injEq] at h6
      obtain ⟨_, rfl, rfl⟩ := h6
      have e5 : double.leastPlace + ((1088 : Nat) : Int) + 1 + double.fractionBits = 67 := by decide
      omega
  · obtain ⟨a, b, hn⟩ := nan_fnan .f64
    rw [hn] at hd
    cases hd

/-- The square root in single precision. -/
def rootP (x : Nat) : Nat := (f2f .f64 .f32 (fsqrt .f64 (wide x))).getD 0

theorem f2f_root (x : Nat) : f2f .f64 .f32 (fsqrt .f64 (wide x)) = some (rootP x) := by
  obtain ⟨y, hy⟩ := narrow_crude (root_modest (fun s m i => wide_crude (x := x) (s := s) (m := m) (i := i)))
  rw [rootP, hy]
  rfl

end Vs
