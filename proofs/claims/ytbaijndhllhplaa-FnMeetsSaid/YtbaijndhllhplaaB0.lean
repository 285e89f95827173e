/-
  Bytes that choose: what all laws with a code read.
-/
import Derived.Test.YtbaijndhllhplaaK6
set_option maxHeartbeats 4000000
namespace Vs
open Go Go.RowKit Go.ChangeShapes Go.WideShapes
theorem st_ift3 {c : D} {a b X : Option (Nat × List D)} (h : c = .bool true) (k : a = X) : tif c a b = X := by subst h; exact k
theorem st_iff3 {c : D} {a b X : Option (Nat × List D)} (h : c = .bool false) (k : b = X) : tif c a b = X := by subst h; exact k
theorem getD_ltB {α : Type} {l : List α} {i : Nat} {d : α} (h : i < l.length) : l.getD i d = l[i] := by
 rw [List.getD_eq_getElem?_getD, List.getElem?_eq_getElem h]
 rfl
def atP (l : List Int) (k n : Nat) : Nat := if l.length ≤ k then 0 else ((l.getD k 0) % (n : Int)).toNat
theorem atP_lt {l : List Int} {k n : Nat} (h : 0 < n) : atP l k n < n := by
 unfold atP
 split
 ·exact h
 ·have h1 := Int.emod_nonneg (l.getD k 0) (show (n : Int) ≠ 0 by omega)
  have h2 := Int.emod_lt_of_pos (l.getD k 0) (show (0 : Int) < n by omega)
  omega
noncomputable def F220 : List D → Option (List D)
 | [a, b] => (dI a).bind fun l => (dI b).bind fun m => some [.bool (decide (l.length > 48) || decide (m.length > 48))]
 | _ => none
open Classical in
noncomputable def F221 : List D → Option (List D)
 | [a, .int k, .int n] => (dI a).bind fun l => if (∀ x ∈ l, 0 ≤ x ∧ x ≤ 255) ∧ 0 ≤ k ∧ 2 ≤ n then some [.int (atP l k.toNat n.toNat : Nat)] else none
 | _ => none
theorem F220_m {l m : List Int} : F220 [il l, il m] = some [.bool (decide (l.length > 48) || decide (m.length > 48))] := by simp only [F220, dI_il, Option.bind_some]
theorem F221_m {l : List Int} {k n : Nat} (h : ∀ x ∈ l, 0 ≤ x ∧ x ≤ 255) (hn : 2 ≤ n) : F221 [il l, .int k, .int n] = some [.int (atP l k n : Nat)] := by
 simp only [F221, dI_il, Option.bind_some]
 exact if_pos ⟨h, by omega, by omega⟩
def T220 : T :=
(oo .len [0] <|
oo (.icm .gtr) [2, kI 48] <|
oN 3 .id [1] <|
oN 3 .len [4] <|
oN 3 (.icm .gtr) [5, kI 48] <|
oo .pick [3, kT, 6] <|
.out 0 [7])
def S220 (_G : Told) (_fuel : Nat) (x0 x1 : D) : Option (Nat × List D) :=
 (gev none .len [x0]).bind fun x2 =>
 (gev none (.icm .gtr) [x2, .int 48]).bind fun x3 =>
 (gev (some (x3, false)) .id [x1]).bind fun x4 =>
 (gev (some (x3, false)) .len [x4]).bind fun x5 =>
 (gev (some (x3, false)) (.icm .gtr) [x5, .int 48]).bind fun x6 =>
 (gev none .pick [x3, .bool true, x6]).bind fun x7 =>
 some (0, [x7])
theorem eq220 {G fuel} (x0 x1) : run G fuel T220 [x0, x1] = S220 G fuel x0 x1 := by rw [run_eq]; kernel_rfl
def T221 : T :=
(oo (.icm .leq) [2, kI 1] <|
oN 3 .id [1] <|
oN 3 .id [0] <|
oN 3 .len [5] <|
oN 3 (.icm .geq) [4, 6] <|
oo .pick [3, kT, 7] <|
.ite 8
 (.out 0 [kI 0])
 (oo .idx [0, 1] <|
 oo (.i2i .i64) [9] <|
 oo (.idv .rem .i64) [10, 2] <|
 .out 0 [11]))
def S221 (_G : Told) (_fuel : Nat) (x0 x1 x2 : D) : Option (Nat × List D) :=
 (gev none (.icm .leq) [x2, .int 1]).bind fun x3 =>
 (gev (some (x3, false)) .id [x1]).bind fun x4 =>
 (gev (some (x3, false)) .id [x0]).bind fun x5 =>
 (gev (some (x3, false)) .len [x5]).bind fun x6 =>
 (gev (some (x3, false)) (.icm .geq) [x4, x6]).bind fun x7 =>
 (gev none .pick [x3, .bool true, x7]).bind fun x8 =>
 tif x8 (
  some (0, [.int 0])) (
  (gev none .idx [x0, x1]).bind fun x9 =>
  (gev none (.i2i .i64) [x9]).bind fun x10 =>
  (gev none (.idv .rem .i64) [x10, x2]).bind fun x11 =>
  some (0, [x11]))
theorem eq221 {G fuel} (x0 x1 x2) : run G fuel T221 [x0, x1, x2] = S221 G fuel x0 x1 x2 := by rw [run_eq]; kernel_rfl
attribute [local irreducible] tif tjoin IntKind.wrap il atP

theorem run220 {G : Told} : Runs G F220 T220 := by
 intro ds rs h
 unfold F220 at h
 split at h
 case h_2 => cases h
 rename_i a b
 obtain ⟨l, ha, h⟩ := Option.bind_eq_some_iff.1 h
 obtain ⟨m, hb, h⟩ := Option.bind_eq_some_iff.1 h
 rw [dI_inv ha, dI_inv hb]
 simp only [Option.some.injEq] at h
 subst h
 refine ⟨0, ?_⟩
 rw [eq220]
 unfold S220
 have hn := len_il (l := l)
 have hm := len_il (l := m)
 have e : decide (l.length > 48) = decide ((l.length : Int) > 48) := by rw [decide_eq_decide];omega
 have e2 : decide (m.length > 48) = decide ((m.length : Int) > 48) := by rw [decide_eq_decide];omega
 rw [e, e2]
 cases h1 : decide ((l.length : Int) > 48)
 ·repeat' first
   | with_reducible refine st_ift ?_
   | with_reducible refine st_iff ?_
   | ((with_reducible apply st_ift3); exact rfl)
   | ((with_reducible apply st_iff3); exact rfl)
   | ((with_reducible apply st_some); exact hn)
   | ((with_reducible apply st_some); exact hm)
   | ((with_reducible apply st_callt); assumption; exact rfl; exact rfl; assumption)
   | ((with_reducible apply st_callf); assumption; exact rfl; exact rfl; assumption)
   | ((with_reducible apply st_call); assumption; exact rfl; exact rfl; exact rfl)
   | ((with_reducible apply st_wide); exact rfl; exact rfl)
   | ((with_reducible apply st_skip); exact rfl)
   | ((with_reducible apply st_t); exact rfl; exact rfl)
   | ((with_reducible apply st_f); exact rfl; exact rfl)
   | ((with_reducible apply st_t); exact rfl; assumption)
   | ((with_reducible apply st_f); exact rfl; assumption)
   | ((with_reducible apply st_some); exact rfl)
   | exact rfl
 ·repeat' first
   | with_reducible refine st_ift ?_
   | with_reducible refine st_iff ?_
   | ((with_reducible apply st_ift3); exact rfl)
   | ((with_reducible apply st_iff3); exact rfl)
   | ((with_reducible apply st_some); exact hn)
   | ((with_reducible apply st_some); exact hm)
   | ((with_reducible apply st_callt); assumption; exact rfl; exact rfl; assumption)
   | ((with_reducible apply st_callf); assumption; exact rfl; exact rfl; assumption)
   | ((with_reducible apply st_call); assumption; exact rfl; exact rfl; exact rfl)
   | ((with_reducible apply st_wide); exact rfl; exact rfl)
   | ((with_reducible apply st_skip); exact rfl)
   | ((with_reducible apply st_t); exact rfl; exact rfl)
   | ((with_reducible apply st_f); exact rfl; exact rfl)
   | ((with_reducible apply st_t); exact rfl; assumption)
   | ((with_reducible apply st_f); exact rfl; assumption)
   | ((with_reducible apply st_some); exact rfl)
   | exact rfl
theorem run221 {G : Told} : Runs G F221 T221 := by
 intro ds rs h
 unfold F221 at h
 split at h
 case h_2 => cases h
 rename_i a k n
 obtain ⟨l, ha, h⟩ := Option.bind_eq_some_iff.1 h
 rw [dI_inv ha]
 split at h
 case isFalse => cases h
 rename_i hc
 obtain ⟨hb, hk, hn2⟩ := hc
 simp only [Option.some.injEq] at h
 subst h
 obtain ⟨k, rfl⟩ : ∃ j : Nat, k = j := ⟨k.toNat, by omega⟩
 obtain ⟨n, rfl⟩ : ∃ j : Nat, n = j := ⟨n.toNat, by omega⟩
 rw [Int.toNat_natCast, Int.toNat_natCast]
 refine ⟨0, ?_⟩
 rw [eq221]
 unfold S221
 have hn := len_il (l := l)
 have d1 : decide ((n : Int) ≤ 1) = false := by simp; omega
 by_cases hkl : l.length ≤ k
 ·have d2 : decide ((k : Int) ≥ (l.length : Int)) = true := by simp; omega
  have e : atP l k n = 0 := by unfold atP;rw [if_pos hkl]
  rw [e]
  repeat' first
   | with_reducible refine st_ift ?_
   | with_reducible refine st_iff ?_
   | ((with_reducible apply st_ift3); exact rfl)
   | ((with_reducible apply st_iff3); exact rfl)
   | ((with_reducible apply st_some); exact hn)
   | ((with_reducible apply st_callt); assumption; exact rfl; exact rfl; assumption)
   | ((with_reducible apply st_callf); assumption; exact rfl; exact rfl; assumption)
   | ((with_reducible apply st_call); assumption; exact rfl; exact rfl; exact rfl)
   | ((with_reducible apply st_wide); exact rfl; exact rfl)
   | ((with_reducible apply st_skip); exact rfl)
   | ((with_reducible apply st_t); exact rfl; exact rfl)
   | ((with_reducible apply st_f); exact rfl; exact rfl)
   | ((with_reducible apply st_t); exact rfl; assumption)
   | ((with_reducible apply st_f); exact rfl; assumption)
   | ((with_reducible apply st_some); exact rfl)
   | exact rfl
 ·have d2 : decide ((k : Int) ≥ (l.length : Int)) = false := by simp; omega
  have hx := idx_il (l := l) (i := k) (by omega)
  have hr := hb l[k] (List.getElem_mem (by omega))
  have e : ((atP l k n : Nat) : Int) = l[k] % (n : Int) := by
   unfold atP;rw [if_neg hkl, getD_ltB (by omega)]
   have h1 := Int.emod_nonneg l[k] (show (n : Int) ≠ 0 by omega)
   omega
  rw [e];have hw : gev none (.i2i .i64) [.int l[k]] = some (.int l[k]) := by have e : gev none (.i2i .i64) [.int l[k]] = some (.int (IntKind.wrap .i64 l[k])) := rfl;rw [e, wrap_small hr.1 (by omega)]
  have hd : gev none (.idv .rem .i64) [.int l[k], .int n] = some (.int (l[k] % (n : Int))) := by
   have e : gev none (.idv .rem .i64) [.int l[k], .int n] = if (n : Int) = 0 then none else some (.int (l[k].tmod n)) := by simp only [gev, gok, if_true, Prim.ev, idiv];split <;> rfl
   rw [e, if_neg (by omega), Int.tmod_eq_emod_of_nonneg hr.1]
  repeat' first
   | with_reducible refine st_ift ?_
   | with_reducible refine st_iff ?_
   | ((with_reducible apply st_ift3); exact rfl)
   | ((with_reducible apply st_iff3); exact rfl)
   | ((with_reducible apply st_some); exact hn)
   | ((with_reducible apply st_some); exact hx)
   | ((with_reducible apply st_some); exact hw)
   | ((with_reducible apply st_some); exact hd)
   | ((with_reducible apply st_callt); assumption; exact rfl; exact rfl; assumption)
   | ((with_reducible apply st_callf); assumption; exact rfl; exact rfl; assumption)
   | ((with_reducible apply st_call); assumption; exact rfl; exact rfl; exact rfl)
   | ((with_reducible apply st_wide); exact rfl; exact rfl)
   | ((with_reducible apply st_skip); exact rfl)
   | ((with_reducible apply st_t); exact rfl; exact rfl)
   | ((with_reducible apply st_f); exact rfl; exact rfl)
   | ((with_reducible apply st_t); exact rfl; assumption)
   | ((with_reducible apply st_f); exact rfl; assumption)
   | ((with_reducible apply st_some); exact rfl)
   | exact rfl
def bytesB (P : Program) (t : TypeId) : Bool :=
 match P.underlying t with
 | some (.slice e) => (match P.underlying e with | some (.int .u8) => true | _ => false) && P.cellsOf e == 1
 | _ => false
section
variable {HH : Type} {enc : TypeId × Value → HH} {P : Program} {W : World}
theorem trod_byte {base : Nat} {sp : Nat → Bool} {hd : Bool} {fuel : Nat} {t : TypeId} {cs : List Value} {x : DataW HH × List MemPlace} (hu : P.underlying t = some (.int .u8)) (h : DataW.trod enc P W base sp hd fuel t cs = some x) :
  ∃ n, cs = [.int .u8 n] ∧ 0 ≤ n ∧ n ≤ 255 := by
 cases fuel with
 | zero => cases h
 | succ fuel =>
  unfold DataW.trod at h;rw [hu] at h;split at h <;> first | (rename_i heq; cases heq; done) | (cases h; done) | skip
  all_goals
   rename_i heq
   cases heq
   split at h
   ·rename_i hc
    obtain ⟨rfl, hw⟩ := hc;refine ⟨_, rfl, ?_⟩;simp [Lit.wf, IntKind.min, IntKind.max, IntKind.signed, IntKind.bits] at hw;omega
   ·cases h
theorem trod_bytes {base : Nat} {sp : Nat → Bool} {hd : Bool} {fuel : Nat} {t : TypeId} {cs : List Value} {x : DataW HH × List MemPlace} (hb : bytesB P t = true) (h : DataW.trod enc P W base sp hd fuel t cs = some x) :
  ∃ v l, cs = [v] ∧ RdC W (fun b => b < W.heap.size) (.s1 ⟨false, [.int .u8]⟩) v (il l) ∧ ∀ x ∈ l, 0 ≤ x ∧ x ≤ 255 := by
 unfold bytesB at hb
 split at hb
 ·rename_i e hu
  simp only [Bool.and_eq_true, beq_iff_eq] at hb;obtain ⟨he, hk⟩ := hb;split at he
  ·rename_i hue
   obtain ⟨v, d, rfl, ⟨ls, hl, hr⟩, _⟩ := trod_sl (Q := fun (t : BT) v d => RdB t v d ∧ ∃ n : Int, d = .int n ∧ 0 ≤ n ∧ n ≤ 255) (bts := [BT.int .u8]) (ag := false) hu (fun h => by
    obtain ⟨n, rfl, h0, h1⟩ := trod_byte hue h
    exact ⟨[.int n], ⟨⟨n, rfl, rfl⟩, n, rfl, h0, h1⟩, trivial⟩) (by rw [hk]; rfl) (by simp) h
   have hw : ∃ l : List Int, ls.map (unflat false) = l.map D.int ∧ ∀ x ∈ l, 0 ≤ x ∧ x ≤ 255 := by
    have key : ∀ {ls : List (List D)} {xs : List Value}, RdRow (fun (t : BT) v d => RdB t v d ∧ ∃ n : Int, d = .int n ∧ 0 ≤ n ∧ n ≤ 255) [BT.int .u8] xs ls → ∃ l : List Int, ls.map (unflat false) = l.map D.int ∧ ∀ x ∈ l, 0 ≤ x ∧ x ≤ 255 := by
     intro ls
     induction ls with
     | nil => intro xs _; exact ⟨[], rfl, by simp⟩
     | cons l0 ls ih =>
      intro xs ⟨c, r, _, h1, h2⟩;obtain ⟨l, e, hx⟩ := ih h2;obtain ⟨_, hd⟩ := h1.length;obtain ⟨_, d, _, e1, _, n, hn, h0, h1⟩ := h1.get (j := 0) rfl;refine ⟨n :: l, ?_, ?_⟩
      ·rw [List.map_cons, e, List.map_cons]
       congr 1
       simp only [unflat];rw [List.headD_eq_head?_getD, List.head?_eq_getElem?, e1, hn];rfl
      ·intro x hm
       rcases List.mem_cons.1 hm with rfl | hm
       ·exact ⟨h0, h1⟩
       ·exact hx x hm
    rcases hr with ⟨_, rfl⟩ | ⟨_, _, _, xs, _, _, _, _, hr⟩
    ·exact ⟨[], rfl, by simp⟩
    ·exact key hr
   obtain ⟨l, e, hx⟩ := hw;have e2 : d = il l := by rw [hl, e]; unfold il; rfl
   refine ⟨v, l, rfl, ?_, hx⟩;rw [← e2];exact ⟨ls, hl, hr.imp id fun ⟨b, off, cap, xs, g1, g2, g3, g4, g5⟩ => ⟨b, off, cap, xs, g1, g2, g3, g4, g5.mono fun _ _ _ h => h.1⟩⟩
  ·cases he
 ·cases hb
theorem args_bytes2 {r : Reach} {b0 : Nat} {base : Nat} {sp : Nat → Bool} {hd : Bool} {t u : TypeId} {vs : List Value} {ds : List (DataW HH)} {p : List MemPlace} (h1 : bytesB P t = true) (h2 : bytesB P u = true)
  (hc1 : cellB P t (.s1 ⟨false, [.int .u8]⟩) = true) (hc2 : cellB P u (.s1 ⟨false, [.int .u8]⟩) = true)
  (hA : DataW.TrodAll enc P W base sp hd [t, u] vs ds p) (hv : ∀ (j : Nat) t' v, [t, u][j]? = some t' → vs[j]? = some v → Value.okWide P W r b0 t' v) :
  ∃ l m : List Int, ArgsR W (fun b => b < W.heap.size) [.val false [.rd (.s1 ⟨false, [.int .u8]⟩)], .val false [.rd (.s1 ⟨false, [.int .u8]⟩)]] vs [il l, il m] [] ∧ (∀ x ∈ l, 0 ≤ x ∧ x ≤ 255) ∧ (∀ x ∈ m, 0 ≤ x ∧ x ≤ 255) ∧ ds.length = 2 := by
 have key : ∃ v w d e, vs = [v, w] ∧ ds = [d, e] := by
  cases vs with
  | nil => cases ds <;> exact hA.elim
  | cons v vs =>
   cases ds with
   | nil => exact hA.elim
   | cons d ds =>
    obtain ⟨_, _, _, h2', _⟩ := hA
    cases vs with
    | nil => cases ds <;> exact h2'.elim
    | cons w vs =>
     cases ds with
     | nil => exact h2'.elim
     | cons e ds =>
      obtain ⟨_, _, _, h3', _⟩ := h2'
      cases vs with
      | nil =>
       cases ds with
       | nil => exact ⟨v, w, d, e, rfl, rfl⟩
       | cons _ _ => exact h3'.elim
      | cons _ _ => cases ds <;> exact h3'.elim
 obtain ⟨v, w, d, e, rfl, rfl⟩ := key
 obtain ⟨_, _, ⟨fuel, q1⟩, ⟨_, _, ⟨fuel', q2⟩, _, _⟩, _⟩ := hA
 rw [not_agg hc1 (hv 0 t v rfl rfl)] at q1
 rw [not_agg hc2 (hv 1 u w rfl rfl)] at q2
 obtain ⟨v', l, e1, r1, x1⟩ := trod_bytes h1 q1
 obtain ⟨w', m, e2, r2, x2⟩ := trod_bytes h2 q2
 simp only [List.cons.injEq, and_true] at e1 e2
 subst e1
 subst e2
 exact ⟨l, m, ⟨[il l], [il m], [], [], rfl, rfl, ⟨il l, [], [], [], rfl, rfl, ⟨rfl, r1⟩, rfl, rfl⟩, [il m], [], [], [], rfl, rfl, ⟨il m, [], [], [], rfl, rfl, ⟨rfl, r2⟩, rfl, rfl⟩, rfl, rfl⟩, x1, x2, rfl⟩
end
end Vs
