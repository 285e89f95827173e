/-
  A function of a program, its callees and its contract: what a seat's texts use.
-/
import Derived.Test.YtfpmhmngebnphaaNs17
namespace Vs
open Go Go.RowKit

def symFn (E : Env) (fn : Func) (sg : Sig) (h : H) : Res T :=
  match fn.body with
  | some c => symFun E fn c sg h
  | none => .error "no body"

abbrev Callees := List (FuncId × Nat × Sig)
def mkEnv (P : Program) (X : List (FuncId × Ext)) (l : Callees) : Env :=
  { P, ext := fun f => (X.find? fun x => x.1 == f).map (·.2), sig := fun f => (l.find? fun x => x.1 == f).map (·.2) }

abbrev Told := Nat → List D → Option (List D)

def AllSound (P : Program) (G : Told) (l : Callees) : Prop := ∀ x ∈ l, SoundCall P x.1 x.2.2 (G x.2.1)
theorem AllSound.nil {P : Program} {G : Told} : AllSound P G [] := by simp [AllSound]
theorem AllSound.cons {P : Program} {G : Told} {f key : Nat} {sg : Sig} {l : Callees} (h : SoundCall P f sg (G key)) (hl : AllSound P G l) : AllSound P G ((f, key, sg) :: l) := by
  intro x hx
  rcases List.mem_cons.1 hx with rfl | hx
  · exact h
  · exact hl x hx

theorem mkEnv_ok {P : Program} {X : List (FuncId × Ext)} {l : Callees} {G : Told} (hX : ∀ x ∈ X, ∀ args w, (callFunc x.1 args).run P w = ((extFn x.2 args).run P w).andThen fun v w' => .ok (.value v) w') (hl : AllSound P G l) :
    EnvOk (mkEnv P X l) G where
  ext := by
    intro f e hf args w
    simp only [mkEnv, Option.map_eq_some_iff] at hf
    obtain ⟨x, hx, rfl⟩ := hf
    have h1 := List.find?_some hx
    simp only [beq_iff_eq] at h1
    subst h1
    exact hX x (List.mem_of_find?_eq_some hx) args w
  sig := by
    intro f key sg hf
    simp only [mkEnv, Option.map_eq_some_iff] at hf
    obtain ⟨x, hx, e⟩ := hf
    have h1 := List.find?_some hx
    simp only [beq_iff_eq] at h1
    subst h1
    have := hl x (List.mem_of_find?_eq_some hx)
    rw [e] at this
    exact this

/-- What a seat says of one function. -/
theorem sound {P : Program} {X : List (FuncId × Ext)} {l : Callees} {G : Told} {f key : Nat} {fn : Func} {sg : Sig} {h : H} {t : T}
    (hX : ∀ x ∈ X, ∀ args w, (callFunc x.1 args).run P w = ((extFn x.2 args).run P w).andThen fun v w' => .ok (.value v) w')
    (hf : P.funcs[f]? = some fn) (hname : (fn.name == "runtime.NumGoroutine") = false) (hsym : symFn (mkEnv P X l) fn sg h = .ok t)
    (hF : ∀ ds rs, G key ds = some rs → ∃ fuel, run G fuel t ds = some (0, rs)) (hl : AllSound P G l) : SoundCall P f sg (G key) := by
  unfold symFn at hsym
  split at hsym
  · rename_i c hb
    exact symFun_sound (E := mkEnv P X l) (mkEnv_ok hX hl) hf hname hb hsym hF
  · cases hsym

end Vs
