/-
  Necks between rings of one radius: each gap.
-/
import Derived.Test.YthgocnlbnghbbaaMf9
namespace Vs

theorem nk9_0 : nkOk 1075838976 1031798784 = true := by decide +kernel
theorem nk9_1 : nkOk 1075838976 1040187392 = true := by decide +kernel
theorem nk9_2 : nkOk 1075838976 1044381696 = true := by decide +kernel
theorem nk9_3 : nkOk 1075838976 1048576000 = true := by decide +kernel
theorem nk9_4 : nkOk 1075838976 1050673152 = true := by decide +kernel
theorem nk9_5 : nkOk 1075838976 1052770304 = true := by decide +kernel
theorem nk9_6 : nkOk 1075838976 1054867456 = true := by decide +kernel
theorem nk9_7 : nkOk 1075838976 1056964608 = true := by decide +kernel
theorem nk9_8 : nkOk 1075838976 1058013184 = true := by decide +kernel
theorem nk9_9 : nkOk 1075838976 1059061760 = true := by decide +kernel
theorem nk9_10 : nkOk 1075838976 1060110336 = true := by decide +kernel
theorem nk9_11 : nkOk 1075838976 1061158912 = true := by decide +kernel
theorem nk9_12 : nkOk 1075838976 1062207488 = true := by decide +kernel
theorem nk9_13 : nkOk 1075838976 1063256064 = true := by decide +kernel
theorem nk9_14 : nkOk 1075838976 1064304640 = true := by decide +kernel
theorem nk9_15 : nkOk 1075838976 1065353216 = true := by decide +kernel
theorem nk9_16 : nkOk 1075838976 1065877504 = true := by decide +kernel
theorem nk9_17 : nkOk 1075838976 1066401792 = true := by decide +kernel
theorem nk9_18 : nkOk 1075838976 1066926080 = true := by decide +kernel
theorem nk9_19 : nkOk 1075838976 1067450368 = true := by decide +kernel
theorem nk9_20 : nkOk 1075838976 1067974656 = true := by decide +kernel
theorem nk9_21 : nkOk 1075838976 1068498944 = true := by decide +kernel
theorem nk9_22 : nkOk 1075838976 1069023232 = true := by decide +kernel
theorem nk9_23 : nkOk 1075838976 1069547520 = true := by decide +kernel
theorem nk9_24 : nkOk 1075838976 1070071808 = true := by decide +kernel
theorem nk9_25 : nkOk 1075838976 1070596096 = true := by decide +kernel
theorem nk9_26 : nkOk 1075838976 1071120384 = true := by decide +kernel
theorem nk9_27 : nkOk 1075838976 1071644672 = true := by decide +kernel
theorem nk9_28 : nkOk 1075838976 1072168960 = true := by decide +kernel
theorem nk9_29 : nkOk 1075838976 1072693248 = true := by decide +kernel
theorem nk9_30 : nkOk 1075838976 1073217536 = true := by decide +kernel
theorem nk9_31 : nkOk 1075838976 1073741824 = true := by decide +kernel
theorem nk9 : ∀ g ∈ [1031798784, 1040187392, 1044381696, 1048576000, 1050673152, 1052770304, 1054867456, 1056964608, 1058013184, 1059061760, 1060110336, 1061158912, 1062207488, 1063256064, 1064304640, 1065353216, 1065877504, 1066401792, 1066926080, 1067450368, 1067974656, 1068498944, 1069023232, 1069547520, 1070071808, 1070596096, 1071120384, 1071644672, 1072168960, 1072693248, 1073217536, 1073741824], nkOk 1075838976 g = true := List.forall_mem_cons.2 ⟨nk9_0, List.forall_mem_cons.2 ⟨nk9_1, List.forall_mem_cons.2 ⟨nk9_2, List.forall_mem_cons.2 ⟨nk9_3, List.forall_mem_cons.2 ⟨nk9_4, List.forall_mem_cons.2 ⟨nk9_5, List.forall_mem_cons.2 ⟨nk9_6, List.forall_mem_cons.2 ⟨nk9_7, List.forall_mem_cons.2 ⟨nk9_8, List.forall_mem_cons.2 ⟨nk9_9, List.forall_mem_cons.2 ⟨nk9_10, List.forall_mem_cons.2 ⟨nk9_11, List.forall_mem_cons.2 ⟨nk9_12, List.forall_mem_cons.2 ⟨nk9_13, List.forall_mem_cons.2 ⟨nk9_14, List.forall_mem_cons.2 ⟨nk9_15, List.forall_mem_cons.2 ⟨nk9_16, List.forall_mem_cons.2 ⟨nk9_17, List.forall_mem_cons.2 ⟨nk9_18, List.forall_mem_cons.2 ⟨nk9_19, List.forall_mem_cons.2 ⟨nk9_20, List.forall_mem_cons.2 ⟨nk9_21, List.forall_mem_cons.2 ⟨nk9_22, List.forall_mem_cons.2 ⟨nk9_23, List.forall_mem_cons.2 ⟨nk9_24, List.forall_mem_cons.2 ⟨nk9_25, List.forall_mem_cons.2 ⟨nk9_26, List.forall_mem_cons.2 ⟨nk9_27, List.forall_mem_cons.2 ⟨nk9_28, List.forall_mem_cons.2 ⟨nk9_29, List.forall_mem_cons.2 ⟨nk9_30, List.forall_mem_cons.2 ⟨nk9_31, List.forall_mem_nil _⟩⟩⟩⟩⟩⟩⟩⟩⟩⟩⟩⟩⟩⟩⟩⟩⟩⟩⟩⟩⟩⟩⟩⟩⟩⟩⟩⟩⟩⟩⟩⟩
end Vs
