/-
  Lists of edges that are looked at.
-/
import Derived.Test.YtaakjnkllodchaaK47
import Derived.Test.YtaakjnkllodchaaK29
set_option maxHeartbeats 4000000
namespace Vs
open Go Go.Sort
theorem lss_t {x y : Int} (h : x < y) : gev none (.icm .lss) [.int x, .int y] = some (.bool true) := p_lss.trans (congrArg (fun b => some (D.bool b)) (decide_eq_true h))
theorem lss_f {x y : Int} (h : ¬ x < y) : gev none (.icm .lss) [.int x, .int y] = some (.bool false) := p_lss.trans (congrArg (fun b => some (D.bool b)) (decide_eq_false h))
theorem eql_t {x y : Int} (h : x = y) : gev none (.icm .eql) [.int x, .int y] = some (.bool true) := p_eql.trans (congrArg (fun b => some (D.bool b)) (beq_iff_eq.2 h))
theorem eql_f {x y : Int} (h : x ≠ y) : gev none (.icm .eql) [.int x, .int y] = some (.bool false) := p_eql.trans (congrArg (fun b => some (D.bool b)) (beq_eq_false_iff_ne.2 h))
attribute [local irreducible] IntKind.wrap il tl vl inr validP szM

theorem idx_loop {G : Told} (g453 : G 453 = F453) (g210 : G 210 = F210m) {es : List (List Int)} {a b r : Int} (hl : es.length ≤ 1000) : ∀ (m k : Nat), k + m = es.length → idxP a b (es.drop k) k = some r → ∀ F, m < F →
  (∃ ds : List D, ds.length = 4 ∧ r = 0 ∧ iter (tbody 1 (S552L0 G (tl es) (.int a) (.int b))) F [.int (k : Int)] = some (0, ds)) ∨ iter (tbody 1 (S552L0 G (tl es) (.int a) (.int b))) F [.int (k : Int)] = some (1, [.int r])
 | 0, k, hk, hi, F, hF => by
  rw [List.drop_eq_nil_of_le (by omega), idxP] at hi
  simp only [Option.some.injEq] at hi;obtain ⟨F, rfl⟩ : ∃ E, F = E + 1 := ⟨F - 1, by omega⟩
  refine .inl ⟨[.int (k : Int), .int (k : Int), .int (es.length : Int), .bool false], rfl, hi.symm, ?_⟩;refine iter_end (l := 0) (tb rfl ?_) rfl;unfold S552L0;refine st_some len_tl ?_;refine st_some (lss_f (by omega)) ?_
  rfl
 | m + 1, k, hk, hi, F, hF => by
  obtain ⟨F, rfl⟩ : ∃ E, F = E + 1 := ⟨F - 1, by omega⟩
  have hlt : k < es.length := by omega
  rw [List.drop_eq_getElem_cons hlt] at hi;have hti := p_ti hlt;rw [getD_lt hlt] at hti;generalize es[k] = t at hi hti;have c1 : gcall G none 453 [.int a, .int b] 1 = some [.int (min a b)] := gcall_on g453 rfl rfl rfl;have c2 : gcall G none 210 [.int a, .int b] 1 = some [.int (max a b)] := gcall_on g210 rfl rfl rfl
  match t, hi, hti with
  | x :: y :: t, hi, hti =>
  have h0 : gev none .idx [il (x :: y :: t), .int 0] = some (.int x) := by
   have := p_ii (l := x :: y :: t) (i := 0) (by simp)
   exact this
  have h1 : gev none .idx [il (x :: y :: t), .int 1] = some (.int y) := by
   have := p_ii (l := x :: y :: t) (i := 1) (by simp)
   exact this
  rw [idxP] at hi;have hadd := add1n (i := k) (by omega)
  by_cases hx : x = min a b
  ·by_cases hy : y = max a b
   ·rw [if_pos ⟨beq_iff_eq.2 hx, beq_iff_eq.2 hy⟩] at hi
    simp only [Option.some.injEq] at hi
    right
    rw [← hi];refine iter_end (l := 1) (tb rfl ?_) rfl;unfold S552L0;refine st_some len_tl ?_;refine st_some (lss_t (by omega)) ?_
    refine st_ift ?_;refine st_some hti ?_;refine st_some h0 ?_;refine st_some c1 ?_;refine st_some (eql_t hx) ?_;refine st_some (g_tt.trans p_id) ?_;refine st_some (g_tt.trans p_id) ?_;refine st_some (g_tt.trans hti) ?_;refine st_some (g_tt.trans p_id) ?_;refine st_some (g_tt.trans h1) ?_;refine st_some (g_tt.trans p_id) ?_;refine st_some (g_tt.trans p_id) ?_;refine st_some (g_tt.trans p_id) ?_;refine st_some (c_tt.trans c2) ?_;refine st_some (g_tt.trans (eql_t hy)) ?_;refine st_some p_pt ?_;refine st_ift ?_;rfl
   ·rw [if_neg (fun h => hy (beq_iff_eq.1 h.2))] at hi
    have ih := idx_loop g453 g210 hl m (k + 1) (by omega) hi F (by omega)
    have hb : S552L0 G (tl es) (.int a) (.int b) [.int (k : Int)] = some (0, [.int ((k + 1 : Nat) : Int)]) := by
     unfold S552L0;refine st_some len_tl ?_;refine st_some (lss_t (by omega)) ?_
     refine st_ift ?_;refine st_some hti ?_;refine st_some h0 ?_;refine st_some c1 ?_;refine st_some (eql_t hx) ?_;refine st_some (g_tt.trans p_id) ?_;refine st_some (g_tt.trans p_id) ?_;refine st_some (g_tt.trans hti) ?_;refine st_some (g_tt.trans p_id) ?_;refine st_some (g_tt.trans h1) ?_;refine st_some (g_tt.trans p_id) ?_;refine st_some (g_tt.trans p_id) ?_;refine st_some (g_tt.trans p_id) ?_;refine st_some (c_tt.trans c2) ?_;refine st_some (g_tt.trans (eql_f hy)) ?_;refine st_some p_pt ?_;refine st_iff ?_;refine st_some hadd ?_;rfl
    rcases ih with ⟨ds, i1, i2, i3⟩ | i3
    ·exact .inl ⟨ds, i1, i2, iter_go (tb rfl hb) i3⟩
    ·exact .inr (iter_go (tb rfl hb) i3)
  ·rw [if_neg (fun h => hx (beq_iff_eq.1 h.1))] at hi
   have ih := idx_loop g453 g210 hl m (k + 1) (by omega) hi F (by omega)
   have hb : S552L0 G (tl es) (.int a) (.int b) [.int (k : Int)] = some (0, [.int ((k + 1 : Nat) : Int)]) := by
    unfold S552L0;refine st_some len_tl ?_;refine st_some (lss_t (by omega)) ?_
    refine st_ift ?_;refine st_some hti ?_;refine st_some h0 ?_;refine st_some c1 ?_;refine st_some (eql_f hx) ?_;refine st_some g_ft ?_;refine st_some g_ft ?_;refine st_some g_ft ?_;refine st_some g_ft ?_;refine st_some g_ft ?_;refine st_some g_ft ?_;refine st_some g_ft ?_;refine st_some g_ft ?_;refine st_some c_ft ?_;refine st_some g_ft ?_;refine st_some p_pf ?_;refine st_iff ?_;refine st_some hadd ?_;rfl
   rcases ih with ⟨ds, i1, i2, i3⟩ | i3
   ·exact .inl ⟨ds, i1, i2, iter_go (tb rfl hb) i3⟩
   ·exact .inr (iter_go (tb rfl hb) i3)
theorem run552 {G : Told} (g210 : G 210 = F210m) (g453 : G 453 = F453) : Runs G F552 T552 := by
 intro ds rs h
 unfold F552 at h
 split at h
 case h_2 => cases h
 rename_i e a b
 split at h
 case h_2 => cases h
 rename_i es he
 split at h
 case isFalse => cases h
 rename_i hl
 obtain ⟨r, hr, rfl⟩ := Option.map_eq_some_iff.1 h
 refine ⟨1001, ?_⟩
 rw [tlC_ok he, eq552]
 unfold S552
 rcases idx_loop g453 g210 hl es.length 0 (by omega) hr 1001 (by omega) with ⟨ds, i1, i2, i3⟩ | i3
 ·subst i2
  exact st_join i3 i1 rfl
 ·exact st_out (l := 0) i3 rfl
end Vs
