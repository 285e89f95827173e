/-
  Colours of springs: ColoursOf, CountColours: what the functions compute, and the laws.
-/
import Derived.Test.YtaakjnkllodchaaGreatK11
set_option maxHeartbeats 4000000
namespace Vs
open Go
theorem st_ift2 {c : D} {a b X : Option (Nat × List D)} (h : c = .bool true) (k : a = X) : tif c a b = X := by subst h; exact k
theorem st_iff2 {c : D} {a b X : Option (Nat × List D)} (h : c = .bool false) (k : b = X) : tif c a b = X := by subst h; exact k
noncomputable def F205 : List D → Option (List D)
 | [a, .int n] => (dI a).bind fun l => if l.length ≤ 1000 then some [.bool (l.contains n)] else none
 | _ => none
theorem F205_m {l : List Int} {n : Int} (h : l.length ≤ 1000) : F205 [il l, .int n] = some [.bool (l.contains n)] := by
 simp only [F205, dI_il, Option.bind_some]
 exact if_pos h
def T205 : T :=
(.join 4
 (.loop [kI 0]
  (oo .len [0] <|
  oo (.icm .lss) [2, 3] <|
  .ite 4
   (oo .idx [0, 2] <|
   oo (.icm .eql) [5, 1] <|
   .ite 6
    (.out 2 [kT])
    (oo (.iar .add .i64) [2, kI 1] <|
    .out 0 [7]))
   (.out 1 [2, 2, 3, 4])))
(.out 0 [kN]))
def S205L0 (_G : Told) (x0 : D) (x1 : D) : List D → Option (Nat × List D) := fun e2 =>
   (gev none .len [x0]).bind fun x3 =>
   (gev none (.icm .lss) [e2.getD 0 .undef, x3]).bind fun x4 =>
   tif x4 (
    (gev none .idx [x0, e2.getD 0 .undef]).bind fun x5 =>
    (gev none (.icm .eql) [x5, x1]).bind fun x6 =>
    tif x6 (
     some (2, [.bool true])) (
     (gev none (.iar .add .i64) [e2.getD 0 .undef, .int 1]).bind fun x7 =>
     some (0, [x7]))) (
    some (1, [e2.getD 0 .undef, e2.getD 0 .undef, x3, x4]))
def S205 (G : Told) (fuel : Nat) (x0 x1 : D) : Option (Nat × List D) :=
 tjoin 4 (
  iter (tbody 1 (S205L0 G x0 x1)) fuel [.int 0]) fun _e2 =>
 some (0, [.bool false])
theorem eq205 {G fuel} (x0 x1) : run G fuel T205 [x0, x1] = S205 G fuel x0 x1 := by rw [run_eq]; kernel_rfl
attribute [local irreducible] tif tjoin IntKind.wrap feq fadd fmul fsub fdiv fgt fge flt fneg i2f sameP wide eqV vl il tl sl fl totL validB szM szP marksV marksT inr triP validP innerP longP rootP

theorem run205 {G : Told} : Runs G F205 T205 := by
 intro ds rs h
 unfold F205 at h
 split at h
 case h_2 => cases h
 rename_i a n
 obtain ⟨l, ha, h⟩ := Option.bind_eq_some_iff.1 h
 rw [dI_inv ha]
 split at h
 case isFalse => cases h
 rename_i hc
 simp only [Option.some.injEq] at h
 subst h
 have hn := len_il (l := l)
 refine ⟨l.length + 1, ?_⟩
 rw [eq205]
 unfold S205
 have hin : ∀ i, (hi : i < l.length) → tbody 1 (S205L0 G (il l) (.int n)) [.int (i : Int)] = if l[i] == n then some (2, [.bool true]) else some (0, [.int ((i + 1 : Nat) : Int)]) := by
  intro i hi;refine tb rfl ?_;have h0 : decide ((i : Int) < (l.length : Int)) = true := by simpa using hi
  have hx := idx_il hi;have ha := add1n (i := i) (by omega)
  unfold S205L0
  cases he : l[i] == n
  ·rw [if_neg (by simp)]
   repeat' first
    | with_reducible refine st_ift ?_
    | with_reducible refine st_iff ?_
    | ((with_reducible apply st_ift2); exact rfl)
    | ((with_reducible apply st_iff2); exact rfl)
    | ((with_reducible apply st_some); exact hn)
    | ((with_reducible apply st_some); exact hx)
    | ((with_reducible apply st_some); exact ha)
    | ((with_reducible apply st_callt); assumption; exact rfl; exact rfl; assumption)
    | ((with_reducible apply st_callf); assumption; exact rfl; exact rfl; assumption)
    | ((with_reducible apply st_call); assumption; exact rfl; exact rfl; exact rfl)
    | ((with_reducible apply st_wide); exact rfl; exact rfl)
    | ((with_reducible apply st_skip); exact rfl)
    | ((with_reducible apply st_t); exact rfl; exact rfl)
    | ((with_reducible apply st_f); exact rfl; exact rfl)
    | ((with_reducible apply st_t); exact rfl; assumption)
    | ((with_reducible apply st_f); exact rfl; assumption)
    | ((with_reducible apply st_some); exact rfl)
    | exact rfl
  ·rw [if_pos rfl]
   repeat' first
    | with_reducible refine st_ift ?_
    | with_reducible refine st_iff ?_
    | ((with_reducible apply st_ift2); exact rfl)
    | ((with_reducible apply st_iff2); exact rfl)
    | ((with_reducible apply st_some); exact hn)
    | ((with_reducible apply st_some); exact hx)
    | ((with_reducible apply st_some); exact ha)
    | ((with_reducible apply st_callt); assumption; exact rfl; exact rfl; assumption)
    | ((with_reducible apply st_callf); assumption; exact rfl; exact rfl; assumption)
    | ((with_reducible apply st_call); assumption; exact rfl; exact rfl; exact rfl)
    | ((with_reducible apply st_wide); exact rfl; exact rfl)
    | ((with_reducible apply st_skip); exact rfl)
    | ((with_reducible apply st_t); exact rfl; exact rfl)
    | ((with_reducible apply st_f); exact rfl; exact rfl)
    | ((with_reducible apply st_t); exact rfl; assumption)
    | ((with_reducible apply st_f); exact rfl; assumption)
    | ((with_reducible apply st_some); exact rfl)
    | exact rfl
 cases hcn : l.contains n
 ·have hloop : iter (tbody 1 (S205L0 G (il l) (.int n))) (l.length + 1) [.int 0] = some (0, [.int (l.length : Int), .int (l.length : Int), .int (l.length : Int), .bool false]) := by
   refine iter_upto (body := tbody 1 (S205L0 G (il l) (.int n))) (n := l.length) (l := 0) (fun i => [.int (i : Int)]) (fun i hi => ?_) ?_
   ·rw [hin i hi, if_neg]
    intro he;have hm : n ∈ l := by have := beq_iff_eq.1 he;rw [← this];exact List.getElem_mem hi
    rw [← List.contains_iff_mem, hcn] at hm
    cases hm
   ·refine tb rfl ?_
    have h0 : decide ((l.length : Int) < (l.length : Int)) = false := by simp
    unfold S205L0
    repeat' first
     | with_reducible refine st_ift ?_
     | with_reducible refine st_iff ?_
     | ((with_reducible apply st_ift2); exact rfl)
     | ((with_reducible apply st_iff2); exact rfl)
     | ((with_reducible apply st_some); exact hn)
     | ((with_reducible apply st_callt); assumption; exact rfl; exact rfl; assumption)
     | ((with_reducible apply st_callf); assumption; exact rfl; exact rfl; assumption)
     | ((with_reducible apply st_call); assumption; exact rfl; exact rfl; exact rfl)
     | ((with_reducible apply st_wide); exact rfl; exact rfl)
     | ((with_reducible apply st_skip); exact rfl)
     | ((with_reducible apply st_t); exact rfl; exact rfl)
     | ((with_reducible apply st_f); exact rfl; exact rfl)
     | ((with_reducible apply st_t); exact rfl; assumption)
     | ((with_reducible apply st_f); exact rfl; assumption)
     | ((with_reducible apply st_some); exact rfl)
     | exact rfl
  repeat' first
   | with_reducible refine st_ift ?_
   | with_reducible refine st_iff ?_
   | ((with_reducible apply st_ift2); exact rfl)
   | ((with_reducible apply st_iff2); exact rfl)
   | ((with_reducible apply st_join); exact hloop; exact rfl)
   | ((with_reducible apply st_callt); assumption; exact rfl; exact rfl; assumption)
   | ((with_reducible apply st_callf); assumption; exact rfl; exact rfl; assumption)
   | ((with_reducible apply st_call); assumption; exact rfl; exact rfl; exact rfl)
   | ((with_reducible apply st_wide); exact rfl; exact rfl)
   | ((with_reducible apply st_skip); exact rfl)
   | ((with_reducible apply st_t); exact rfl; exact rfl)
   | ((with_reducible apply st_f); exact rfl; exact rfl)
   | ((with_reducible apply st_t); exact rfl; assumption)
   | ((with_reducible apply st_f); exact rfl; assumption)
   | ((with_reducible apply st_some); exact rfl)
   | exact rfl
 ·have hm : n ∈ l := by rw [← List.contains_iff_mem]; exact hcn
  obtain ⟨i, hi, he⟩ := List.getElem_of_mem hm;have hloop : iter (tbody 1 (S205L0 G (il l) (.int n))) (l.length + 1) [.int 0] = some (1, [.bool true]) := by
   refine iter_bad (body := tbody 1 (S205L0 G (il l) (.int n))) (n := l.length) (l := 1) (fun i => [.int (i : Int)]) (fun i => ¬ l.getD i 0 = n) (by omega) (fun i hi hg => ?_) (fun i hi hg => ?_) ⟨i, hi, by rw [getD_lt hi]; simpa using he⟩
   ·rw [getD_lt hi] at hg
    rw [hin i hi, if_neg (by simpa using hg)]
   ·rw [getD_lt hi] at hg
    rw [hin i hi, if_pos (by simpa using hg)]
  repeat' first
   | with_reducible refine st_ift ?_
   | with_reducible refine st_iff ?_
   | ((with_reducible apply st_ift2); exact rfl)
   | ((with_reducible apply st_iff2); exact rfl)
   | ((with_reducible apply st_out); exact hloop)
   | ((with_reducible apply st_callt); assumption; exact rfl; exact rfl; assumption)
   | ((with_reducible apply st_callf); assumption; exact rfl; exact rfl; assumption)
   | ((with_reducible apply st_call); assumption; exact rfl; exact rfl; exact rfl)
   | ((with_reducible apply st_wide); exact rfl; exact rfl)
   | ((with_reducible apply st_skip); exact rfl)
   | ((with_reducible apply st_t); exact rfl; exact rfl)
   | ((with_reducible apply st_f); exact rfl; exact rfl)
   | ((with_reducible apply st_t); exact rfl; assumption)
   | ((with_reducible apply st_f); exact rfl; assumption)
   | ((with_reducible apply st_some); exact rfl)
   | exact rfl
end Vs
