/-
  The exponential and what is built on it, written for the kernel.
-/
import Derived.Test.YthgocnlbnghbbaaMf7
namespace Vs
open Go Ieee

def fnegF (k : FloatKind) (x : Nat) : Nat := bif Nat.ble (kI k) (Nat.mod x (kS k)) then fneg k x else Nat.xor x (kS k)
theorem fnegF_eq (k : FloatKind) (x : Nat) : fnegF k x = fneg k x := by
  unfold fnegF
  cases h : Nat.ble (kI k) (Nat.mod x (kS k))
  case true => rfl
  rw [cond_false]
  have hx : rk k x < inf k := by
    rw [← Bool.not_eq_true, Nat.ble_eq] at h
    unfold rk rg
    rw [kS_eq, show inf k = kI k from kI_eq k]
    exact Nat.lt_of_not_le h
  have e : rk k (Op.negFloat k x) = rk k x := by
    unfold rk rg Op.negFloat Format.signWeight
    rw [Nat.xor_mod_two_pow, Nat.mod_self, Nat.xor_zero]
  unfold fneg canon
  rw [isnan_R (by rw [e]; exact hx)]
  show Nat.xor x (kS k) = Op.negFloat k x
  rw [← kS_eq]
  rfl
def stF (t p k : Nat) : Nat := faddF .f64 4607182418800017408 (fdivF .f64 (fmulF .f64 t p) k)
def hornF (t : Nat) : Nat :=
  stF t (stF t (stF t (stF t (stF t (stF t (stF t (stF t (stF t (stF t (stF t (stF t 4607182418800017408 4622945017495814144) 4622382067542392832) 4621819117588971520) 4621256167635550208) 4620693217682128896) 4619567317775286272) 4618441417868443648) 4617315517961601024) 4616189618054758400) 4613937818241073152) 4611686018427387904) 4607182418800017408
theorem hornK : i2f .f64 12 = 4622945017495814144 ∧ i2f .f64 11 = 4622382067542392832 ∧ i2f .f64 10 = 4621819117588971520 ∧ i2f .f64 9 = 4621256167635550208 ∧ i2f .f64 8 = 4620693217682128896 ∧ i2f .f64 7 = 4619567317775286272 ∧ i2f .f64 6 = 4618441417868443648 ∧
    i2f .f64 5 = 4617315517961601024 ∧ i2f .f64 4 = 4616189618054758400 ∧ i2f .f64 3 = 4613937818241073152 ∧ i2f .f64 2 = 4611686018427387904 ∧ i2f .f64 1 = 4607182418800017408 := by decide +kernel
theorem hornF_eq (t : Nat) : hornF t = hornE t 12 4607182418800017408 := by
  obtain ⟨k12, k11, k10, k9, k8, k7, k6, k5, k4, k3, k2, k1⟩ := hornK
  unfold hornF stF
  simp only [faddF_eq, fdivF_eq, fmulF_eq]
  rw [← k12, ← k11, ← k10, ← k9, ← k8, ← k7, ← k6, ← k5, ← k4, ← k3, ← k2, ← k1]
  rfl
def sqF1 (p : Nat) : Nat := fmulF .f64 p p
def expWF (x : Nat) : Nat :=
  bif fgtF .f64 x 4641240890982006784 then 9218868437227405312 else bif fltF .f64 x 13864612927836782592 then 0 else
    sqF1 (sqF1 (sqF1 (sqF1 (sqF1 (sqF1 (sqF1 (sqF1 (hornF (fdivF .f64 x 4643211215818981376)))))))))
theorem expWF_eq (x : Nat) : expWF x = expW x := by
  unfold expWF expW sqF1
  simp only [fgtF_eq, fltF_eq, fdivF_eq, hornF_eq, fmulF_eq]
  cases fgt .f64 x 4641240890982006784 <;> cases flt .f64 x 13864612927836782592 <;> rfl
def expOF (x : Nat) : Option Nat := narF (expWF (wideF x))
theorem expOF_eq (x : Nat) : expOF x = expO x := by unfold expOF expO; rw [narF_eq, expWF_eq, wideF_eq]
def coshOF (x : Nat) : Option Nat := (expOF x).bind fun a => (expOF (fnegF .f32 x)).map fun b => fmulF .f32 1056964608 (faddF .f32 a b)
theorem coshOF_eq (x : Nat) : coshOF x = coshO x := by unfold coshOF coshO; simp only [expOF_eq, fnegF_eq, fmulF_eq, faddF_eq]
def sinhOF (x : Nat) : Option Nat := (expOF x).bind fun a => (expOF (fnegF .f32 x)).map fun b => fmulF .f32 1056964608 (fsubF .f32 a b)
theorem sinhOF_eq (x : Nat) : sinhOF x = sinhO x := by unfold sinhOF sinhO; simp only [expOF_eq, fnegF_eq, fmulF_eq, fsubF_eq]
def widthOF (n z : Nat) : Option Nat := (coshOF (fdivF .f32 z n)).map fun c => fmulF .f32 n c
theorem widthOF_eq (n z : Nat) : widthOF n z = widthO n z := by unfold widthOF widthO; simp only [coshOF_eq, fdivF_eq, fmulF_eq]
def areaOF (n g : Nat) : Option Nat := (sinhOF (fdivF .f32 g n)).map fun s => fmulF .f32 (fmulF .f32 1078530011 n) (faddF .f32 g (fmulF .f32 n s))
theorem areaOF_eq (n g : Nat) : areaOF n g = areaO n g := by unfold areaOF areaO; simp only [sinhOF_eq, fdivF_eq, fmulF_eq, faddF_eq]
def overF (x : Nat) : Bool := bif Nat.ble 2139095040 x then overP x else Nat.ble 1 x
theorem overF_eq (x : Nat) : overF x = overP x := by
  unfold overF
  cases h : Nat.ble 2139095040 x
  case true => rfl
  rw [cond_false]
  rw [← Bool.not_eq_true, Nat.ble_eq] at h
  rcases Nat.eq_zero_or_pos x with h0 | h0
  · subst h0
    decide +kernel
  · rw [over_small h0 (by omega)]
    exact bleT h0
def fitsOF (r half c : Nat) : Option Bool := bif overF c then (widthOF c half).map fun w => fleF .f32 w r else some false
theorem fitsOF_eq (r half c : Nat) : fitsOF r half c = fitsO r half c := by
  unfold fitsOF fitsO
  rw [overF_eq]
  simp only [widthOF_eq, fleF_eq]
  cases overP c <;> rfl
def midF (lo hi : Nat) : Nat := fmulF .f32 1056964608 (faddF .f32 lo hi)
theorem midF_eq (lo hi : Nat) : midF lo hi = midP lo hi := by unfold midF midP; rw [fmulF_eq, faddF_eq]
def neckGoF (r half : Nat) : Nat → Nat → Nat → Option Nat
  | 0, lo, _ => some lo
  | n + 1, lo, hi => (fun c => (fitsOF r half c).bind fun b => bif b then neckGoF r half n c hi else neckGoF r half n lo c) (midF lo hi)
theorem neckGoF_eq (r half : Nat) : ∀ n lo hi, neckGoF r half n lo hi = neckGo r half n lo hi
  | 0, _, _ => rfl
  | n + 1, lo, hi => by
    unfold neckGoF neckGo
    simp only [midF_eq, fitsOF_eq]
    congr 1
    funext b
    rw [neckGoF_eq r half n, neckGoF_eq r half n]
    cases b <;> rfl
def neckOF (r g : Nat) : Option (Option Nat) :=
  (fun h => (fun l => (fitsOF r h l).bind fun b => bif b && !fgtF .f32 l r then (neckGoF r h 30 l r).map some else some none) (fdivF .f32 h 1067028242)) (fmulF .f32 1056964608 g)
theorem neckOF_eq (r g : Nat) : neckOF r g = neckO r g := by
  unfold neckOF neckO lowP halfP
  simp only [fmulF_eq, fdivF_eq, fitsOF_eq, fgtF_eq, neckGoF_eq]
  congr 1
  funext b
  cases b <;> cases fgt .f32 (fdiv .f32 (fmul .f32 1056964608 g) 1067028242) r <;> rfl
end Vs
