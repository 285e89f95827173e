/-
  Necks between rings of one radius: each gap.
-/
import Derived.Test.YthgocnlbnghbbaaMf9
namespace Vs

theorem nk15_0 : nkOk 1082130432 1031798784 = true := by decide +kernel
theorem nk15_1 : nkOk 1082130432 1040187392 = true := by decide +kernel
theorem nk15_2 : nkOk 1082130432 1044381696 = true := by decide +kernel
theorem nk15_3 : nkOk 1082130432 1048576000 = true := by decide +kernel
theorem nk15_4 : nkOk 1082130432 1050673152 = true := by decide +kernel
theorem nk15_5 : nkOk 1082130432 1052770304 = true := by decide +kernel
theorem nk15_6 : nkOk 1082130432 1054867456 = true := by decide +kernel
theorem nk15_7 : nkOk 1082130432 1056964608 = true := by decide +kernel
theorem nk15_8 : nkOk 1082130432 1058013184 = true := by decide +kernel
theorem nk15_9 : nkOk 1082130432 1059061760 = true := by decide +kernel
theorem nk15_10 : nkOk 1082130432 1060110336 = true := by decide +kernel
theorem nk15_11 : nkOk 1082130432 1061158912 = true := by decide +kernel
theorem nk15_12 : nkOk 1082130432 1062207488 = true := by decide +kernel
theorem nk15_13 : nkOk 1082130432 1063256064 = true := by decide +kernel
theorem nk15_14 : nkOk 1082130432 1064304640 = true := by decide +kernel
theorem nk15_15 : nkOk 1082130432 1065353216 = true := by decide +kernel
theorem nk15_16 : nkOk 1082130432 1065877504 = true := by decide +kernel
theorem nk15_17 : nkOk 1082130432 1066401792 = true := by decide +kernel
theorem nk15_18 : nkOk 1082130432 1066926080 = true := by decide +kernel
theorem nk15_19 : nkOk 1082130432 1067450368 = true := by decide +kernel
theorem nk15_20 : nkOk 1082130432 1067974656 = true := by decide +kernel
theorem nk15_21 : nkOk 1082130432 1068498944 = true := by decide +kernel
theorem nk15_22 : nkOk 1082130432 1069023232 = true := by decide +kernel
theorem nk15_23 : nkOk 1082130432 1069547520 = true := by decide +kernel
theorem nk15_24 : nkOk 1082130432 1070071808 = true := by decide +kernel
theorem nk15_25 : nkOk 1082130432 1070596096 = true := by decide +kernel
theorem nk15_26 : nkOk 1082130432 1071120384 = true := by decide +kernel
theorem nk15_27 : nkOk 1082130432 1071644672 = true := by decide +kernel
theorem nk15_28 : nkOk 1082130432 1072168960 = true := by decide +kernel
theorem nk15_29 : nkOk 1082130432 1072693248 = true := by decide +kernel
theorem nk15_30 : nkOk 1082130432 1073217536 = true := by decide +kernel
theorem nk15_31 : nkOk 1082130432 1073741824 = true := by decide +kernel
theorem nk15 : ∀ g ∈ [1031798784, 1040187392, 1044381696, 1048576000, 1050673152, 1052770304, 1054867456, 1056964608, 1058013184, 1059061760, 1060110336, 1061158912, 1062207488, 1063256064, 1064304640, 1065353216, 1065877504, 1066401792, 1066926080, 1067450368, 1067974656, 1068498944, 1069023232, 1069547520, 1070071808, 1070596096, 1071120384, 1071644672, 1072168960, 1072693248, 1073217536, 1073741824], nkOk 1082130432 g = true := List.forall_mem_cons.2 ⟨nk15_0, List.forall_mem_cons.2 ⟨nk15_1, List.forall_mem_cons.2 ⟨nk15_2, List.forall_mem_cons.2 ⟨nk15_3, List.forall_mem_cons.2 ⟨nk15_4, List.forall_mem_cons.2 ⟨nk15_5, List.forall_mem_cons.2 ⟨nk15_6, List.forall_mem_cons.2 ⟨nk15_7, List.forall_mem_cons.2 ⟨nk15_8, List.forall_mem_cons.2 ⟨nk15_9, List.forall_mem_cons.2 ⟨nk15_10, List.forall_mem_cons.2 ⟨nk15_11, List.forall_mem_cons.2 ⟨nk15_12, List.forall_mem_cons.2 ⟨nk15_13, List.forall_mem_cons.2 ⟨nk15_14, List.forall_mem_cons.2 ⟨nk15_15, List.forall_mem_cons.2 ⟨nk15_16, List.forall_mem_cons.2 ⟨nk15_17, List.forall_mem_cons.2 ⟨nk15_18, List.forall_mem_cons.2 ⟨nk15_19, List.forall_mem_cons.2 ⟨nk15_20, List.forall_mem_cons.2 ⟨nk15_21, List.forall_mem_cons.2 ⟨nk15_22, List.forall_mem_cons.2 ⟨nk15_23, List.forall_mem_cons.2 ⟨nk15_24, List.forall_mem_cons.2 ⟨nk15_25, List.forall_mem_cons.2 ⟨nk15_26, List.forall_mem_cons.2 ⟨nk15_27, List.forall_mem_cons.2 ⟨nk15_28, List.forall_mem_cons.2 ⟨nk15_29, List.forall_mem_cons.2 ⟨nk15_30, List.forall_mem_cons.2 ⟨nk15_31, List.forall_mem_nil _⟩⟩⟩⟩⟩⟩⟩⟩⟩⟩⟩⟩⟩⟩⟩⟩⟩⟩⟩⟩⟩⟩⟩⟩⟩⟩⟩⟩⟩⟩⟩⟩
end Vs
