/-
  Which meshes are valid; copies.
-/
import Derived.Test.YtaakjnkllodchaaGreatK6
set_option maxHeartbeats 4000000
namespace Vs
open Go
theorem getD_lt {α : Type} {l : List α} {i : Nat} {d : α} (h : i < l.length) : l.getD i d = l[i] := by
 rw [List.getD_eq_getElem?_getD, List.getElem?_eq_getElem h]
 rfl
theorem sub1 {n : Int} (h0 : 0 ≤ n) (h1 : n ≤ 1048576) : gev none (.iar .sub .i64) [.int n, .int 1] = some (.int (n - 1)) := by
 have e : gev none (.iar .sub .i64) [.int n, .int 1] = some (.int (IntKind.wrap .i64 (n - 1))) := rfl
 rw [e, wrap_sub h0 h1 (by omega) (by omega)]
theorem F19_in (p n : Int) : F19 [.int p, .int 0, .int (n - 1)] = some [.bool (inr n p)] := rfl
theorem triP_false {n : Int} {l : List Int} (h : l.length ≠ 3) : triP n l = false := by
 match l, h with
 | [], _ => rfl
 | [_], _ => rfl
 | [_, _], _ => rfl
 | [_, _, _], h => simp at h
 | _ :: _ :: _ :: _ :: _, _ => rfl
theorem len3 {l : List Int} (h : l.length = 3) : ∃ a b c, l = [a, b, c] := by
 match l, h with
 | [a, b, c], _ => exact ⟨a, b, c, rfl⟩
theorem triP3 (n a b c : Int) : triP n [a, b, c] = (!(a == b) && !(b == c) && !(a == c) && [a, b, c].all (inr n)) := rfl
theorem F143_il {l : List Int} (h : l.length ≤ 1048576) : F143 [il l] = some [il l] := by
 simp only [F143, dI_il, Option.bind_some]
 rw [if_pos h]
attribute [local irreducible] tif tjoin IntKind.wrap feq fadd fmul fsub fdiv fgt i2f wide vl il tl totL szM inr triP validP

theorem run150 {G : Told} (g19 : G 19 = F19) : Runs G F150 T150 := by
 intro ds rs h
 unfold F150 at h
 split at h
 case h_2 => cases h
 rename_i a b
 obtain ⟨vs, ha, h⟩ := Option.bind_eq_some_iff.1 h
 obtain ⟨ts, hb, h⟩ := Option.bind_eq_some_iff.1 h
 rw [dV_inv ha, dT_inv hb]
 split at h
 case isFalse => cases h
 rename_i hc
 have hz : szM vs ts = vs.length + ts.length + totL ts := by unfold szM; rfl
 simp only [Option.some.injEq] at h
 subst h
 have hn := len_vl (l := vs)
 have hm := len_tl (l := ts)
 refine ⟨ts.length + 4, ?_⟩
 rw [eq150]
 unfold S150
 by_cases h64 : vs.length ≤ 64
 case neg =>
  have d1 : decide ((vs.length : Int) > 64) = true := by simp; omega
  have e : validP vs.length ts = false := by unfold validP; simp; omega
  rw [e]
  repeat' first
   | with_reducible refine st_ift ?_
   | ((with_reducible apply st_some); exact hn)
   | ((with_reducible apply st_t); exact rfl; exact rfl)
   | ((with_reducible apply st_t); exact rfl; assumption)
   | ((with_reducible apply st_some); exact rfl)
   | exact rfl
 have d1 : decide ((vs.length : Int) > 64) = false := by simp; omega
 by_cases h128 : ts.length ≤ 128
 case neg =>
  have d2 : decide ((ts.length : Int) > 128) = true := by simp; omega
  have e : validP vs.length ts = false := by unfold validP; simp; omega
  rw [e]
  repeat' first
   | with_reducible refine st_ift ?_
   | ((with_reducible apply st_some); exact hn)
   | ((with_reducible apply st_some); exact hm)
   | ((with_reducible apply st_t); exact rfl; exact rfl)
   | ((with_reducible apply st_t); exact rfl; assumption)
   | ((with_reducible apply st_f); exact rfl; assumption)
   | ((with_reducible apply st_some); exact rfl)
   | exact rfl
 have d2 : decide ((ts.length : Int) > 128) = false := by simp; omega
 have hv : validP vs.length ts = ts.all (triP vs.length) := by unfold validP;simp [h64, h128]
 rw [hv]
 have hlen : ∀ i, (hi : i < ts.length) → ts[i].length ≤ 1048576 := fun i hi => by have := len_le_totL hi;omega
 have hgo : ∀ i, (hi : i < ts.length) → triP vs.length ts[i] = true → tbody 1 (S150L1 G (ts.length + 4) (tl ts) (.int (vs.length : Int)) (.int (ts.length : Int))) [.int (i : Int)] = some (0, [.int ((i + 1 : Nat) : Int)]) := by
  intro i hi hg;refine tb rfl ?_;have h0 : decide ((i : Int) < (ts.length : Int)) = true := by simpa using hi
  have hx := idx_tl hi;have hli := len_il (l := ts[i]);have hs := sub1 (n := vs.length) (by omega) (by omega)
  have ha := add1n (i := i) (by omega)
  have h3 : ts[i].length = 3 := by
   rcases Nat.decEq ts[i].length 3 with h | h
   ·rw [triP_false h] at hg
    cases hg
   ·exact h
  obtain ⟨a, b, c, he⟩ := len3 h3;rw [he] at hx hg hli;rw [triP3] at hg;simp only [Bool.and_eq_true, Bool.not_eq_true', List.all_eq_true] at hg;obtain ⟨⟨⟨hab, hbc⟩, hac⟩, hg⟩ := hg;have hx0 : gev none .idx [il [a, b, c], .int 0] = some (.int a) := idx_il (l := [a, b, c]) (i := 0) (by simp)
  have hx1 : gev none .idx [il [a, b, c], .int 1] = some (.int b) := idx_il (l := [a, b, c]) (i := 1) (by simp)
  have hx2 : gev none .idx [il [a, b, c], .int 2] = some (.int c) := idx_il (l := [a, b, c]) (i := 2) (by simp)
  have hl3 : gev none .len [il [a, b, c]] = some (.int 3) := len_il (l := [a, b, c]);have hin : ∀ j : Nat, (hj : j < 3) → tbody 1 (S150L0 G (.int (vs.length : Int)) (il [a, b, c]) (.int 3)) [.int (j : Int)] = if inr vs.length ([a, b, c][j]'hj) = true then some (0, [.int ((j + 1 : Nat) : Int)]) else some (4, [.bool false]) := by
   intro j hj;refine tb rfl ?_;have h0 : decide ((j : Int) < 3) = true := by simp; omega
   have hx := idx_il (l := [a, b, c]) (i := j) hj;have ha := add1n (i := j) (by omega)
   have hf := F19_in ([a, b, c][j]'hj) vs.length;generalize [a, b, c][j]'hj = p at hx hf
   cases hg : inr vs.length p
   ·rw [hg] at hf
    rw [if_neg (by simp)]
    unfold S150L0
    repeat' first
     | with_reducible refine st_ift ?_
     | ((with_reducible apply st_call); exact g19; exact rfl; exact hf; exact rfl)
     | ((with_reducible apply st_some); exact hx)
     | ((with_reducible apply st_some); exact hs)
     | ((with_reducible apply st_t); exact rfl; exact rfl)
     | ((with_reducible apply st_t); exact rfl; assumption)
     | exact rfl
   ·rw [hg] at hf
    rw [if_pos rfl];unfold S150L0
    repeat' first
     | with_reducible refine st_ift ?_
     | with_reducible refine st_iff ?_
     | ((with_reducible apply st_call); exact g19; exact rfl; exact hf; exact rfl)
     | ((with_reducible apply st_some); exact hx)
     | ((with_reducible apply st_some); exact ha)
     | ((with_reducible apply st_some); exact hs)
     | ((with_reducible apply st_f); exact rfl; exact rfl)
     | ((with_reducible apply st_t); exact rfl; assumption)
     | exact rfl
  have hloop : iter (tbody 1 (S150L0 G (.int (vs.length : Int)) (il [a, b, c]) (.int 3))) (ts.length + 4) [.int 0] = some (0, [.int 3, .bool false]) := by
   refine iter_to (body := tbody 1 (S150L0 G (.int (vs.length : Int)) (il [a, b, c]) (.int 3))) (n := 3) (l := 0) (fun j => [.int (j : Int)]) (by omega) (fun j hj => ?_) ?_
   ·rw [hin j hj, if_pos (hg _ (List.getElem_mem hj))]
   ·refine tb rfl ?_
    unfold S150L0
    repeat' first
     | with_reducible refine st_iff ?_
     | ((with_reducible apply st_f); exact rfl; exact rfl)
     | exact rfl
  unfold S150L1
  repeat' first
   | with_reducible refine st_ift ?_
   | with_reducible refine st_iff ?_
   | ((with_reducible apply st_join); exact hloop; exact rfl)
   | ((with_reducible apply st_some); exact hx)
   | ((with_reducible apply st_some); exact ha)
   | ((with_reducible apply st_some); exact hl3)
   | ((with_reducible apply st_some); exact hx0)
   | ((with_reducible apply st_some); exact hx1)
   | ((with_reducible apply st_some); exact hx2)
   | ((with_reducible apply st_f); exact rfl; exact rfl)
   | ((with_reducible apply st_t); exact rfl; assumption)
   | ((with_reducible apply st_f); exact rfl; assumption)
   | ((with_reducible apply st_some); exact rfl)
   | exact rfl
 have hbad : ∀ i, (hi : i < ts.length) → triP vs.length ts[i] = false → tbody 1 (S150L1 G (ts.length + 4) (tl ts) (.int (vs.length : Int)) (.int (ts.length : Int))) [.int (i : Int)] = some (2, [.bool false]) := by
  intro i hi hg;refine tb rfl ?_;have h0 : decide ((i : Int) < (ts.length : Int)) = true := by simpa using hi
  have hx := idx_tl hi;have hli := len_il (l := ts[i]);have hs := sub1 (n := vs.length) (by omega) (by omega)
  by_cases h3 : ts[i].length = 3
  case neg =>
   have hd : ((ts[i].length : Int) != 3) = true := by simp; omega
   unfold S150L1
   repeat' first
    | with_reducible refine st_ift ?_
    | ((with_reducible apply st_some); exact hx)
    | ((with_reducible apply st_some); exact hli)
    | ((with_reducible apply st_t); exact rfl; exact rfl)
    | ((with_reducible apply st_t); exact rfl; assumption)
    | ((with_reducible apply st_some); exact rfl)
    | exact rfl
  obtain ⟨a, b, c, he⟩ := len3 h3;rw [he] at hx hg hli;rw [triP3] at hg;have hx0 : gev none .idx [il [a, b, c], .int 0] = some (.int a) := idx_il (l := [a, b, c]) (i := 0) (by simp)
  have hx1 : gev none .idx [il [a, b, c], .int 1] = some (.int b) := idx_il (l := [a, b, c]) (i := 1) (by simp)
  have hx2 : gev none .idx [il [a, b, c], .int 2] = some (.int c) := idx_il (l := [a, b, c]) (i := 2) (by simp)
  have hl3 : gev none .len [il [a, b, c]] = some (.int 3) := len_il (l := [a, b, c]);have hin : ∀ j : Nat, (hj : j < 3) → tbody 1 (S150L0 G (.int (vs.length : Int)) (il [a, b, c]) (.int 3)) [.int (j : Int)] = if inr vs.length ([a, b, c][j]'hj) = true then some (0, [.int ((j + 1 : Nat) : Int)]) else some (4, [.bool false]) := by
   intro j hj;refine tb rfl ?_;have h0 : decide ((j : Int) < 3) = true := by simp; omega
   have hx := idx_il (l := [a, b, c]) (i := j) hj;have ha := add1n (i := j) (by omega)
   have hf := F19_in ([a, b, c][j]'hj) vs.length;generalize [a, b, c][j]'hj = p at hx hf
   cases hg : inr vs.length p
   ·rw [hg] at hf
    rw [if_neg (by simp)]
    unfold S150L0
    repeat' first
     | with_reducible refine st_ift ?_
     | ((with_reducible apply st_call); exact g19; exact rfl; exact hf; exact rfl)
     | ((with_reducible apply st_some); exact hx)
     | ((with_reducible apply st_some); exact hs)
     | ((with_reducible apply st_t); exact rfl; exact rfl)
     | ((with_reducible apply st_t); exact rfl; assumption)
     | exact rfl
   ·rw [hg] at hf
    rw [if_pos rfl];unfold S150L0
    repeat' first
     | with_reducible refine st_ift ?_
     | with_reducible refine st_iff ?_
     | ((with_reducible apply st_call); exact g19; exact rfl; exact hf; exact rfl)
     | ((with_reducible apply st_some); exact hx)
     | ((with_reducible apply st_some); exact ha)
     | ((with_reducible apply st_some); exact hs)
     | ((with_reducible apply st_f); exact rfl; exact rfl)
     | ((with_reducible apply st_t); exact rfl; assumption)
     | exact rfl
  unfold S150L1
  cases hab : a == b
  case true =>
   repeat' first
    | with_reducible refine st_ift ?_
    | ((with_reducible apply st_some); exact hx)
    | ((with_reducible apply st_some); exact hl3)
    | ((with_reducible apply st_some); exact hx0)
    | ((with_reducible apply st_some); exact hx1)
    | ((with_reducible apply st_t); exact rfl; exact rfl)
    | ((with_reducible apply st_f); exact rfl; exact rfl)
    | ((with_reducible apply st_t); exact rfl; assumption)
    | ((with_reducible apply st_some); exact rfl)
    | exact rfl
  cases hbc : b == c
  case true =>
   repeat' first
    | with_reducible refine st_ift ?_
    | ((with_reducible apply st_some); exact hx)
    | ((with_reducible apply st_some); exact hl3)
    | ((with_reducible apply st_some); exact hx0)
    | ((with_reducible apply st_some); exact hx1)
    | ((with_reducible apply st_some); exact hx2)
    | ((with_reducible apply st_t); exact rfl; exact rfl)
    | ((with_reducible apply st_f); exact rfl; exact rfl)
    | ((with_reducible apply st_t); exact rfl; assumption)
    | ((with_reducible apply st_f); exact rfl; assumption)
    | ((with_reducible apply st_some); exact rfl)
    | exact rfl
  cases hac : a == c
  case true =>
   repeat' first
    | with_reducible refine st_ift ?_
    | ((with_reducible apply st_some); exact hx)
    | ((with_reducible apply st_some); exact hl3)
    | ((with_reducible apply st_some); exact hx0)
    | ((with_reducible apply st_some); exact hx1)
    | ((with_reducible apply st_some); exact hx2)
    | ((with_reducible apply st_t); exact rfl; exact rfl)
    | ((with_reducible apply st_f); exact rfl; exact rfl)
    | ((with_reducible apply st_t); exact rfl; assumption)
    | ((with_reducible apply st_f); exact rfl; assumption)
    | ((with_reducible apply st_some); exact rfl)
    | exact rfl
  rw [hab, hbc, hac] at hg;simp only [Bool.not_false, Bool.true_and, List.all_eq_false] at hg;obtain ⟨p, hp, hg⟩ := hg;obtain ⟨j, hj, rfl⟩ := List.getElem_of_mem hp;have hloop : iter (tbody 1 (S150L0 G (.int (vs.length : Int)) (il [a, b, c]) (.int 3))) (ts.length + 4) [.int 0] = some (3, [.bool false]) := by
   refine iter_bad (body := tbody 1 (S150L0 G (.int (vs.length : Int)) (il [a, b, c]) (.int 3))) (n := 3) (l := 3) (fun j => [.int (j : Int)]) (fun j => inr vs.length ([a, b, c].getD j 0) = true) (by omega) (fun k hk hg => ?_) (fun k hk hg => ?_) ⟨j, hj, ?_⟩
   ·have e : [a, b, c].getD k 0 = [a, b, c][k]'hk := getD_lt hk
    rw [hin k hk, if_pos (by rw [← e]; exact hg)]
   ·have e : [a, b, c].getD k 0 = [a, b, c][k]'hk := getD_lt hk
    rw [hin k hk, if_neg (by rw [← e]; exact hg)]
   ·have e : [a, b, c].getD j 0 = [a, b, c][j]'hj := getD_lt hj
    rw [e];exact hg
  repeat' first
   | with_reducible refine st_ift ?_
   | with_reducible refine st_iff ?_
   | ((with_reducible apply st_out); exact hloop)
   | ((with_reducible apply st_some); exact hx)
   | ((with_reducible apply st_some); exact hl3)
   | ((with_reducible apply st_some); exact hx0)
   | ((with_reducible apply st_some); exact hx1)
   | ((with_reducible apply st_some); exact hx2)
   | ((with_reducible apply st_f); exact rfl; exact rfl)
   | ((with_reducible apply st_t); exact rfl; assumption)
   | ((with_reducible apply st_f); exact rfl; assumption)
   | ((with_reducible apply st_some); exact rfl)
   | exact rfl
 cases hall : ts.all (triP vs.length)
 case true =>
  have hloop : iter (tbody 1 (S150L1 G (ts.length + 4) (tl ts) (.int (vs.length : Int)) (.int (ts.length : Int)))) (ts.length + 4) [.int 0] = some (0, [.int (ts.length : Int), .bool false]) := by
   refine iter_to (body := tbody 1 (S150L1 G (ts.length + 4) (tl ts) (.int (vs.length : Int)) (.int (ts.length : Int)))) (n := ts.length) (l := 0) (fun i => [.int (i : Int)]) (by omega) (fun i hi => hgo i hi ?_) ?_
   ·exact List.all_eq_true.1 hall _ (List.getElem_mem hi)
   ·refine tb rfl ?_
    have h0 : decide ((ts.length : Int) < (ts.length : Int)) = false := by simp
    unfold S150L1
    repeat' first
     | with_reducible refine st_iff ?_
     | ((with_reducible apply st_f); exact rfl; assumption)
     | exact rfl
  repeat' first
   | with_reducible refine st_iff ?_
   | ((with_reducible apply st_join); exact hloop; exact rfl)
   | ((with_reducible apply st_some); exact hn)
   | ((with_reducible apply st_some); exact hm)
   | ((with_reducible apply st_f); exact rfl; exact rfl)
   | ((with_reducible apply st_f); exact rfl; assumption)
   | ((with_reducible apply st_some); exact rfl)
   | exact rfl
 case false =>
  have hloop : iter (tbody 1 (S150L1 G (ts.length + 4) (tl ts) (.int (vs.length : Int)) (.int (ts.length : Int)))) (ts.length + 4) [.int 0] = some (1, [.bool false]) := by
   refine iter_bad (body := tbody 1 (S150L1 G (ts.length + 4) (tl ts) (.int (vs.length : Int)) (.int (ts.length : Int)))) (n := ts.length) (l := 1) (fun i => [.int (i : Int)]) (fun i => triP vs.length (ts.getD i []) = true) (by omega) (fun i hi hg => hgo i hi ?_) (fun i hi hg => hbad i hi ?_) ?_
   ·simpa [List.getD_eq_getElem?_getD, hi] using hg
   ·simpa [List.getD_eq_getElem?_getD, hi] using hg
   ·rw [List.all_eq_false] at hall
    obtain ⟨t, ht, hg⟩ := hall;obtain ⟨i, hi, rfl⟩ := List.getElem_of_mem ht;exact ⟨i, hi, by simpa [List.getD_eq_getElem?_getD, hi] using hg⟩
  repeat' first
   | with_reducible refine st_iff ?_
   | ((with_reducible apply st_out); exact hloop)
   | ((with_reducible apply st_some); exact hn)
   | ((with_reducible apply st_some); exact hm)
   | ((with_reducible apply st_f); exact rfl; exact rfl)
   | ((with_reducible apply st_f); exact rfl; assumption)
   | ((with_reducible apply st_some); exact rfl)
   | exact rfl
theorem run151 {G : Told} : Runs G F151 T151 := by
 intro ds rs h
 unfold F151 F145 at h
 split at h
 case h_2 => cases h
 rename_i a b
 obtain ⟨vs, ha, h⟩ := Option.bind_eq_some_iff.1 h
 obtain ⟨ts, hb, h⟩ := Option.bind_eq_some_iff.1 h
 rw [dV_inv ha, dT_inv hb]
 split at h
 case isFalse => cases h
 rename_i hc
 have hz : szM vs ts = vs.length + ts.length + totL ts := by unfold szM; rfl
 simp only [Option.some.injEq] at h
 subst h
 refine ⟨ts.length + 1, ?_⟩
 rw [eq151]
 unfold S151
 have ev : vl [] = .lst [] := by unfold vl; rfl
 have ei : il [] = .lst [] := by unfold il; rfl
 have et : tl [] = .lst [] := by unfold tl; rfl
 have hm := len_tl (l := ts)
 have hv := app_vls (l := []) (m := vs) (by simp; omega)
 rw [ev] at hv
 have hloop : iter (tbody 2 (S151L0 G (tl ts) (.int (ts.length : Int)))) (ts.length + 1) [.lst [], .int 0] = some (0, [tl ts, .int (ts.length : Int), .bool false]) := by
  have h1 := iter_upto (body := tbody 2 (S151L0 G (tl ts) (.int (ts.length : Int)))) (n := ts.length) (l := 0) (ds := [tl ts, .int (ts.length : Int), .bool false])
   (fun i => [tl (ts.take i), .int (i : Int)]) ?_ ?_
  ·simpa [et] using h1
  ·intro i hi
   refine tb rfl ?_;have h0 : decide ((i : Int) < (ts.length : Int)) = true := by simpa using hi
   have hx := idx_tl hi;have hle := len_le_totL hi;have ha := add1n (i := i) (by omega)
   have hp := app_tl (l := ts.take i) (v := ts[i]) (by simp; omega)
   rw [← take_step] at hp;have hq := app_il (l := []) (m := ts[i]) (by simp; omega)
   rw [ei] at hq;have hf := F143_il (l := ts[i]) (by omega)
   unfold S151L0
   repeat' first
    | with_reducible refine st_ift ?_
    | ((with_reducible apply st_some); exact hx)
    | ((with_reducible apply st_some); exact ha)
    | ((with_reducible apply st_some); exact hp)
    | ((with_reducible apply st_some); exact hq)
    | ((with_reducible apply st_t); exact rfl; assumption)
    | ((with_reducible apply st_some); exact rfl)
    | exact rfl
  ·refine tb rfl ?_
   have h0 : decide ((ts.length : Int) < (ts.length : Int)) = false := by simp
   rw [List.take_length];unfold S151L0
   repeat' first
    | with_reducible refine st_iff ?_
    | ((with_reducible apply st_f); exact rfl; assumption)
    | exact rfl
 repeat' first
  | ((with_reducible apply st_join); exact hloop; exact rfl)
  | ((with_reducible apply st_some); exact hm)
  | ((with_reducible apply st_some); exact hv)
  | ((with_reducible apply st_some); exact rfl)
  | exact rfl
theorem run151s {G : Told} (g143 : G 143 = F143) : Runs G F151 T151s := by
 intro ds rs h
 unfold F151 F145 at h
 split at h
 case h_2 => cases h
 rename_i a b
 obtain ⟨vs, ha, h⟩ := Option.bind_eq_some_iff.1 h
 obtain ⟨ts, hb, h⟩ := Option.bind_eq_some_iff.1 h
 rw [dV_inv ha, dT_inv hb]
 split at h
 case isFalse => cases h
 rename_i hc
 have hz : szM vs ts = vs.length + ts.length + totL ts := by unfold szM; rfl
 simp only [Option.some.injEq] at h
 subst h
 refine ⟨ts.length + 1, ?_⟩
 rw [eq151s]
 unfold S151s
 have ev : vl [] = .lst [] := by unfold vl; rfl
 have ei : il [] = .lst [] := by unfold il; rfl
 have et : tl [] = .lst [] := by unfold tl; rfl
 have hm := len_tl (l := ts)
 have hv := app_vls (l := []) (m := vs) (by simp; omega)
 rw [ev] at hv
 have hloop : iter (tbody 2 (S151sL0 G (tl ts))) (ts.length + 1) [.lst [], .int 0] = some (0, [tl ts, .int (ts.length : Int), .int (ts.length : Int), .int (ts.length : Int), .bool false]) := by
  have h1 := iter_upto (body := tbody 2 (S151sL0 G (tl ts))) (n := ts.length) (l := 0) (ds := [tl ts, .int (ts.length : Int), .int (ts.length : Int), .int (ts.length : Int), .bool false])
   (fun i => [tl (ts.take i), .int (i : Int)]) ?_ ?_
  ·simpa [et] using h1
  ·intro i hi
   refine tb rfl ?_;have h0 : decide ((i : Int) < (ts.length : Int)) = true := by simpa using hi
   have hx := idx_tl hi;have hle := len_le_totL hi;have ha := add1n (i := i) (by omega)
   have hp := app_tl (l := ts.take i) (v := ts[i]) (by simp; omega)
   rw [← take_step] at hp;have hq := app_il (l := []) (m := ts[i]) (by simp; omega)
   rw [ei] at hq;have hf := F143_il (l := ts[i]) (by omega)
   unfold S151sL0
   repeat' first
    | with_reducible refine st_ift ?_
    | ((with_reducible apply st_call); exact g143; exact rfl; exact hf; exact rfl)
    | ((with_reducible apply st_some); exact hx)
    | ((with_reducible apply st_some); exact ha)
    | ((with_reducible apply st_some); exact hp)
    | ((with_reducible apply st_some); exact hm)
    | ((with_reducible apply st_t); exact rfl; assumption)
    | ((with_reducible apply st_some); exact rfl)
    | exact rfl
  ·refine tb rfl ?_
   have h0 : decide ((ts.length : Int) < (ts.length : Int)) = false := by simp
   rw [List.take_length];unfold S151sL0
   repeat' first
    | with_reducible refine st_iff ?_
    | ((with_reducible apply st_some); exact hm)
    | ((with_reducible apply st_f); exact rfl; assumption)
    | exact rfl
 repeat' first
  | ((with_reducible apply st_join); exact hloop; exact rfl)
  | ((with_reducible apply st_some); exact hv)
  | ((with_reducible apply st_some); exact rfl)
  | exact rfl
end Vs
