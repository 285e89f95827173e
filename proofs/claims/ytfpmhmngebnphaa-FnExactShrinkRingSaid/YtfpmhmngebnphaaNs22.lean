/-
  The small language once more, with each way written once: what a printed text of it is held against.
-/
import Derived.Test.YtfpmhmngebnphaaNs18
import Derived.Test.YtfpmhmngebnphaaNs19
namespace Vs
open Go

def gok : Option (D × Bool) → Bool
  | none => true
  | some (.bool b, w) => b == w
  | some _ => false
def gev (g : Option (D × Bool)) (p : Prim) (xs : List D) : Option D := if gok g then p.ev xs else some .undef
def gcall (G : Told) (g : Option (D × Bool)) (f : Nat) (xs : List D) (m : Nat) : Option (List D) :=
  if gok g then (match G f xs with | some ds => if ds.length = m then some ds else none | none => none) else some (List.replicate m .undef)
def tif {α : Type} (c : D) (a b : Option α) : Option α := match c with | .bool true => a | .bool false => b | _ => none
def tjoin (m : Nat) (r : Option (Nat × List D)) (k : List D → Option (Nat × List D)) : Option (Nat × List D) :=
  match r with
  | some (0, ds) => if ds.length = m then k ds else none
  | some (l + 1, ds) => some (l, ds)
  | none => none
def tbody (m : Nat) (k : List D → Option (Nat × List D)) (ds : List D) : Option (Nat × List D) := if ds.length = m then k ds else none
def padTo (ds : List D) : Nat → Nat → List D
  | 0, _ => []
  | m + 1, j => ds.getD j .undef :: padTo ds m (j + 1)
def gat (ρ : List D) : Guard → Option (D × Bool)
  | none => none
  | some (x, w) => some (x.ev ρ, w)

def runS (G : Told) (fuel : Nat) : T → List D → Option (Nat × List D)
  | .op g p xs k, ρ => (gev (gat ρ g) p (evs ρ xs)).bind fun d => runS G fuel k (ρ ++ [d])
  | .call g f xs m k, ρ => (gcall G (gat ρ g) f (evs ρ xs) m).bind fun ds => runS G fuel k (ρ ++ padTo ds m 0)
  | .ite c t e, ρ => tif (c.ev ρ) (runS G fuel t ρ) (runS G fuel e ρ)
  | .join m t k, ρ => tjoin m (runS G fuel t ρ) fun ds => runS G fuel k (ρ ++ padTo ds m 0)
  | .loop xs b, ρ => iter (tbody xs.length fun ds => runS G fuel b (ρ ++ padTo ds xs.length 0)) fuel (evs ρ xs)
  | .out l xs, ρ => some (l, evs ρ xs)

theorem padTo_eq (ds : List D) : ∀ (m j : Nat), ds.length = j + m → padTo ds m j = ds.drop j
  | 0, j, h => by rw [List.drop_of_length_le (by omega)]; rfl
  | m + 1, j, h => by
    rw [padTo, padTo_eq ds m (j + 1) (by omega), List.drop_eq_getElem_cons (by omega : j < ds.length)]
    simp [List.getD_eq_getElem?_getD, List.getElem?_eq_getElem (by omega : j < ds.length)]
theorem padTo_all {ds : List D} {m : Nat} (h : ds.length = m) : padTo ds m 0 = ds := by
  rw [padTo_eq ds m 0 (by omega)]; rfl
theorem padTo_undef (m : Nat) : padTo (List.replicate m D.undef) m 0 = List.replicate m .undef := padTo_all (by simp)

theorem gok_eq (ρ : List D) (g : Guard) : gok (gat ρ g) = g.ok ρ := by
  cases g with
  | none => rfl
  | some p =>
    obtain ⟨x, w⟩ := p
    simp only [gat, Guard.ok]
    cases x.ev ρ <;> rfl

theorem run_eq {G : Told} {fuel : Nat} : ∀ (t : T) (ρ : List D), run G fuel t ρ = runS G fuel t ρ
  | .op g p xs k, ρ => by
    simp only [run, runS, gev, gok_eq]
    split
    · cases p.ev (evs ρ xs) with
      | none => rfl
      | some d => exact run_eq k _
    · exact run_eq k _
  | .call g f xs m k, ρ => by
    simp only [run, runS, gcall, gok_eq]
    split
    · cases G f (evs ρ xs) with
      | none => rfl
      | some ds =>
        dsimp only
        split
        · rename_i h
          rw [Option.bind_some, padTo_all h]
          exact run_eq k _
        · rfl
    · rw [Option.bind_some, padTo_undef]
      exact run_eq k _
  | .ite c t e, ρ => by
    simp only [run, runS, tif, run_eq t, run_eq e]
    cases c.ev ρ with
    | bool b => cases b <;> rfl
    | _ => rfl
  | .join m t k, ρ => by
    simp only [run, runS, tjoin, run_eq t]
    cases runS G fuel t ρ with
    | none => rfl
    | some r =>
      obtain ⟨l, ds⟩ := r
      cases l with
      | succ l => rfl
      | zero =>
        dsimp only
        split
        · rename_i h
          rw [padTo_all h]
          exact run_eq k _
        · rfl
  | .loop xs b, ρ => by
    simp only [run, runS]
    congr 1
    funext ds
    unfold tbody
    split
    · rename_i h
      show _ = runS G fuel b (ρ ++ padTo ds xs.length 0)
      rw [padTo_all h]
      exact run_eq b _
    · rfl
  | .out l xs, ρ => rfl

/-! ### Steps -/
section
variable {α : Type} {G : Told} {X : Option (Nat × List D)}
theorem st_some {r : Option α} {d : α} {K : α → Option (Nat × List D)} (h : r = some d) (k : K d = X) : r.bind K = X := by rw [h]; exact k
theorem st_t {r : Option D} {b : Bool} {K : D → Option (Nat × List D)} (h : r = some (.bool b)) (hb : b = true) (k : K (.bool true) = X) : r.bind K = X := by rw [h, hb]; exact k
theorem st_f {r : Option D} {b : Bool} {K : D → Option (Nat × List D)} (h : r = some (.bool b)) (hb : b = false) (k : K (.bool false) = X) : r.bind K = X := by rw [h, hb]; exact k
theorem gcall_on {g : Option (D × Bool)} {f : Nat} {xs : List D} {m : Nat} {F : List D → Option (List D)} {ds : List D} (hg : G f = F) (hk : gok g = true) (h : F xs = some ds) (hl : ds.length = m) : gcall G g f xs m = some ds := by
  subst hg
  simp [gcall, hk, h, hl]
theorem st_call {g : Option (D × Bool)} {f : Nat} {xs : List D} {m : Nat} {F : List D → Option (List D)} {ds : List D} {K : List D → Option (Nat × List D)} (hg : G f = F) (hk : gok g = true) (h : F xs = some ds) (hl : ds.length = m) (k : K ds = X) :
    (gcall G g f xs m).bind K = X := by rw [gcall_on hg hk h hl]; exact k
theorem st_callt {g : Option (D × Bool)} {f : Nat} {xs : List D} {F : List D → Option (List D)} {b : Bool} {K : List D → Option (Nat × List D)} (hg : G f = F) (hk : gok g = true) (h : F xs = some [.bool b]) (hb : b = true) (k : K [.bool true] = X) :
    (gcall G g f xs 1).bind K = X := by subst hb; rw [gcall_on (m := 1) hg hk h rfl]; exact k
theorem st_callf {g : Option (D × Bool)} {f : Nat} {xs : List D} {F : List D → Option (List D)} {b : Bool} {K : List D → Option (Nat × List D)} (hg : G f = F) (hk : gok g = true) (h : F xs = some [.bool b]) (hb : b = false) (k : K [.bool false] = X) :
    (gcall G g f xs 1).bind K = X := by subst hb; rw [gcall_on (m := 1) hg hk h rfl]; exact k
theorem st_skip {g : Option (D × Bool)} {f : Nat} {xs : List D} {m : Nat} {K : List D → Option (Nat × List D)} (hk : gok g = false) (k : K (List.replicate m .undef) = X) : (gcall G g f xs m).bind K = X := by
  simp [gcall, hk]; exact k
theorem st_wide {g : Option (D × Bool)} {d : D} {x : Nat} {K : D → Option (Nat × List D)} (hg : gok g = true) (hd : d = .flt x) (k : K (.flt (wide x)) = X) : (gev g (.f2f .f32 .f64) [d]).bind K = X := by
  subst hd
  simp only [gev, hg, if_true, Prim.ev, f2f_wide, Option.map_some, Option.bind_some]
  exact k
theorem st_ift {a b : Option (Nat × List D)} (k : a = X) : tif (.bool true) a b = X := k
theorem st_iff {a b : Option (Nat × List D)} (k : b = X) : tif (.bool false) a b = X := k
theorem st_join {m : Nat} {r : Option (Nat × List D)} {ds : List D} {K : List D → Option (Nat × List D)} (h : r = some (0, ds)) (hl : ds.length = m) (k : K ds = X) : tjoin m r K = X := by
  subst h; simp only [tjoin, hl, if_true]; exact k
theorem st_out {m l : Nat} {r : Option (Nat × List D)} {ds : List D} {K : List D → Option (Nat × List D)} (h : r = some (l + 1, ds)) (k : some (l, ds) = X) : tjoin m r K = X := by
  subst h; exact k
theorem iter_go {body : List D → Option (Nat × List D)} {f : Nat} {ds ds' : List D} (h : body ds = some (0, ds')) (k : iter body f ds' = X) : iter body (f + 1) ds = X := by
  rw [iter, h]; exact k
theorem iter_end {body : List D → Option (Nat × List D)} {f l : Nat} {ds ds' : List D} (h : body ds = some (l + 1, ds')) (k : some (l, ds') = X) : iter body (f + 1) ds = X := by
  rw [iter, h]; exact k
end

end Vs
