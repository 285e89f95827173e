/-
  Where three films meet: a third of a turn apart, by evaluation.
-/
import Derived.Test.YtbaijndhllhplaaK17
import Derived.Test.YtbaijndhllhplaaK20
import Derived.Test.YtbaijndhllhplaaKm1
set_option maxHeartbeats 4000000
namespace Vs
open Go Ieee
def ttP (t j : Nat) : Nat := fadd .f32 (fdiv .f32 (i2f .f32 (t : Int)) 1098907648) (fdiv .f32 (i2f .f32 (j : Int)) 1077936128)
def sinT (x : Nat) : Nat := (sineO x).getD 0
def trX (t j : Nat) : Nat := fmul .f32 1073741824 (sinT (fadd .f32 (ttP t j) 1048576000))
def trY (t j : Nat) : Nat := fmul .f32 1073741824 (sinT (ttP t j))
theorem F474_at {x : Nat} (h : (sOk x && (sineO x).isSome) = true) : F474 [.flt x] = some [.flt (sinT x)] := by
 rw [Bool.and_eq_true] at h
 obtain ⟨z, hz⟩ := Option.isSome_iff_exists.1 h.2
 unfold sinT
 simp [F474, h.1, hz]
theorem tr_ok : ((List.range 16).all fun t => (List.range 3).all fun j => (sOk (ttP t j) && (sineO (ttP t j)).isSome) && (sOk (fadd .f32 (ttP t j) 1048576000) && (sineO (fadd .f32 (ttP t j) 1048576000)).isSome)) = true := by decide +kernel
def trL : List (List (Nat × Nat)) := [[(1073741824, 0), (3212836868, 1071494103), (3212836860, 3218977752)],
 [(1072464734, 1061416725), (3217758519, 1067177929), (3196430496, 3221081941)],
 [(1068827891, 1068827891), (3220653803, 1057260524), (1057260542, 3220653802)],
 [(1061416725, 1072464734), (3221081940, 3196430521), (1067177937, 3217758515)],
 [(2147483648, 1073741824), (3218977749, 3212836868), (1071494107, 3212836860)],
 [(3208900373, 1072464734), (3214661575, 3217758519), (1073598294, 3196430496)],
 [(3216311539, 1068827891), (3204744166, 3220653803), (1073170152, 1057260542)],
 [(3219948382, 1061416725), (1048946873, 3221081940), (1070274863, 1067177937)],
 [(3221225472, 2147483648), (1065353220, 3218977749), (1065353201, 1071494107)],
 [(3219948382, 3208900373), (1070274871, 3214661575), (1048946823, 1073598294)],
 [(3216311539, 3216311539), (1073170155, 3204744166), (3204744190, 1073170152)],
 [(3208900373, 3219948382), (1073598292, 1048946873), (3214661585, 1070274863)],
 [(0, 3221225472), (1071494101, 1065353220), (3218977755, 1065353201)],
 [(1061416725, 3219948382), (1067177927, 1070274871), (3221081942, 1048946823)],
 [(1068827891, 3216311539), (1057260518, 1073170155), (3220653800, 3204744190)],
 [(1072464734, 3208900373), (3196430521, 1073598292), (3217758511, 3214661585)]]
theorem tr_tab : ((List.range 16).map fun t => (List.range 3).map fun j => (trX t j, trY t j)) = trL := by decide +kernel
def rs3 (r : Nat) : Bool := fltF .f64 (wideF r) 4562254508917369340
def rs2 (a b c d e f : Nat) : Bool := rs3 (lngF (faddF .f32 (faddF .f32 a c) e) (faddF .f32 (faddF .f32 b d) f) (faddF .f32 (faddF .f32 0 0) 0))
def rs1 (g h k a b c d e f : Nat) : Bool := Nat.beq (fmulF .f32 0 g) 0 && (Nat.beq (fmulF .f32 0 h) 0 && Nat.beq (fmulF .f32 0 k) 0) && rs2 (fmulF .f32 a g) (fmulF .f32 b g) (fmulF .f32 c h) (fmulF .f32 d h) (fmulF .f32 e k) (fmulF .f32 f k)
def rs0 (a b c d e f : Nat) : Bool := rs1 (fdivF .f32 1065353216 (lngF a b 0)) (fdivF .f32 1065353216 (lngF c d 0)) (fdivF .f32 1065353216 (lngF e f 0)) a b c d e f
def trOk : List (Nat × Nat) → Bool
 | [(a, b), (c, d), (e, f)] => !badV ⟨a, b, 0⟩ && !badV ⟨c, d, 0⟩ && !badV ⟨e, f, 0⟩ && rs0 a b c d e f
 | _ => false
theorem tr_all : trL.all trOk = true := by decide +kernel
theorem lngF_eq (x y z : Nat) : lngF x y z = longP x y z := by
 unfold lngF longP rootP innerP
 rw [narF_eq, wideF_eq, faddF_eq, faddF_eq, fmulF_eq, fmulF_eq, fmulF_eq]
def trV (t j : Nat) : V3 := ⟨trX t j, trY t j, 0⟩
theorem turn_ok {t : Nat} (h : t < 16) : badV (trV t 0) = false ∧ badV (trV t 1) = false ∧ badV (trV t 2) = false ∧ flt .f64 (wide (restV (trV t 0) (trV t 1) (trV t 2))) 4562254508917369340 = true := by
 have h1 := tr_all
 rw [← tr_tab, List.all_eq_true] at h1
 have h2 := h1 _ (List.mem_map.2 ⟨t, List.mem_range.2 h, rfl⟩)
 replace h2 : trOk [(trX t 0, trY t 0), (trX t 1, trY t 1), (trX t 2, trY t 2)] = true := h2
 unfold trOk at h2
 simp only [Bool.and_eq_true, Bool.not_eq_true'] at h2
 obtain ⟨⟨⟨a, b⟩, c⟩, d⟩ := h2
 refine ⟨a, b, c, ?_⟩
 unfold rs0 rs1 rs2 rs3 at d
 simp only [Bool.and_eq_true, lngF_eq, fltF_eq, wideF_eq, faddF_eq, fmulF_eq, fdivF_eq, Nat.beq_eq] at d
 obtain ⟨⟨d1, d2, d3⟩, d4⟩ := d
 unfold restV longV3 unitV longV3 V3.add V3.scale part1 trV
 simp only [d1, d2, d3]
 exact d4
theorem turn_call {t j : Nat} (h : t < 16) (hj : j < 3) : F474 [.flt (fadd .f32 (ttP t j) 1048576000)] = some [.flt (sinT (fadd .f32 (ttP t j) 1048576000))] ∧ F474 [.flt (ttP t j)] = some [.flt (sinT (ttP t j))] := by
 have h1 := tr_ok
 rw [List.all_eq_true] at h1
 have h2 := h1 t (List.mem_range.2 h)
 rw [List.all_eq_true] at h2
 have h3 := h2 j (List.mem_range.2 hj)
 rw [Bool.and_eq_true] at h3
 exact ⟨F474_at h3.2, F474_at h3.1⟩
end Vs
