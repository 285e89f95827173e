/-
  An edge joined: the mesh stays valid; twins by sorted triples and by places.
-/
import Derived.Test.YtaakjnkllodchaaK29
import Derived.Test.YtaakjnkllodchaaK14
import Derived.Test.YtaakjnkllodchaaNx1
import Derived.Shelf.SortG.Plain
import Derived.Shelf.SortG.SortNone
set_option maxHeartbeats 4000000
namespace Vs
open Go Go.Sort
theorem valid_of {n : Nat} {ts : List (List Int)} (h : TriOk n ts) (hn : n ≤ 64) (ht : ts.length ≤ 128) : validP n ts = true := by
 unfold validP
 rw [Bool.and_eq_true, Bool.and_eq_true, decide_eq_true_eq, decide_eq_true_eq, List.all_eq_true]
 refine ⟨⟨hn, ht⟩, fun t hm => ?_⟩
 obtain ⟨x, y, z, rfl, h1, h2, h3, hx, hy, hz⟩ := h t hm
 unfold triP inr
 simp only [List.all_cons, List.all_nil, Bool.and_true, Bool.and_eq_true, Bool.not_eq_true', beq_eq_false_iff_ne, decide_eq_true_eq]
 omega
end Vs
