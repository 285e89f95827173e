/-
  Functions that are run: what a text answers with so much fuel.
-/
import Derived.Test.YthgocnlbnghbbaaD
import Derived.Test.YthgocnlbnghbbaaE
namespace Vs
open Go

/-! ### A text sees only the functions that it calls -/
def callsOf : T → List Nat
  | .op _ _ _ k => callsOf k
  | .call _ f _ _ k => f :: callsOf k
  | .ite _ t e => callsOf t ++ callsOf e
  | .join _ t k => callsOf t ++ callsOf k
  | .loop _ b => callsOf b
  | .out _ _ => []
theorem run_congr {G G' : Told} {fuel : Nat} : ∀ {t : T}, (∀ f ∈ callsOf t, G f = G' f) → ∀ ρ, run G fuel t ρ = run G' fuel t ρ
  | .op g p xs k, h, ρ => by
    simp only [run]
    have ih := run_congr (fuel := fuel) (t := k) h
    split
    · split
      · exact ih _
      · rfl
    · exact ih _
  | .call g f xs m k, h, ρ => by
    simp only [run]
    have ih := run_congr (fuel := fuel) (t := k) (fun f hf => h f (by simp [callsOf, hf]))
    rw [h f (by simp [callsOf])]
    split
    · split
      · split
        · exact ih _
        · rfl
      · rfl
    · exact ih _
  | .ite c t e, h, ρ => by
    simp only [run]
    rw [run_congr (t := t) (fun f hf => h f (by simp [callsOf, hf])) ρ, run_congr (t := e) (fun f hf => h f (by simp [callsOf, hf])) ρ]
  | .join m t k, h, ρ => by
    simp only [run]
    rw [run_congr (t := t) (fun f hf => h f (by simp [callsOf, hf])) ρ]
    have ih := run_congr (fuel := fuel) (t := k) (fun f hf => h f (by simp [callsOf, hf]))
    split
    · split
      · exact ih _
      · rfl
    · rfl
    · rfl
  | .loop xs b, h, ρ => by
    simp only [run]
    congr 1
    funext ds
    split
    · exact run_congr (t := b) h _
    · rfl
  | .out l xs, _, ρ => rfl

def Frun (G : Told) (fuel : Nat) (t : T) (ds : List D) : Option (List D) := match run G fuel t ds with | some (0, rs) => some rs | _ => none
theorem Frun_run {G G' : Told} {fuel : Nat} {t : T} (h : ∀ f ∈ callsOf t, G f = G' f) : ∀ ds rs, Frun G' fuel t ds = some rs → ∃ fuel, run G fuel t ds = some (0, rs) := by
  intro ds rs hf
  unfold Frun at hf
  split at hf
  · rename_i rs' hr
    cases hf
    exact ⟨fuel, by rw [run_congr h, hr]⟩
  · cases hf

def T231 : T :=
(.op none (.far .sub .f64) [(.v 0), (.v 1)] <|
(.op none (.far .sub .f64) [(.v 1), (.v 0)] <|
(.op none (.fmax .f64) [(.v 2), (.v 3)] <|
(.out 0 [(.v 4)]))))
def G231 : Told := fun _ => fun _ => none
def F231 : List D → Option (List D) := Frun G231 40 T231
theorem run231 {G : Told} : ∀ ds rs, F231 ds = some rs → ∃ fuel, run G fuel T231 ds = some (0, rs) :=
  Frun_run (fun f hf => by
    have e : callsOf T231 = [] := by kernel_rfl
    rw [e] at hf
    cases hf)
/-! ### The inputs, all of them -/
end Vs
