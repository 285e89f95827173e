/-
  Necks between rings of one radius: each gap.
-/
import Derived.Test.YthgocnlbnghbbaaMf9
namespace Vs

theorem nk1_0 : nkOk 1056964608 1031798784 = true := by decide +kernel
theorem nk1_1 : nkOk 1056964608 1040187392 = true := by decide +kernel
theorem nk1_2 : nkOk 1056964608 1044381696 = true := by decide +kernel
theorem nk1_3 : nkOk 1056964608 1048576000 = true := by decide +kernel
theorem nk1_4 : nkOk 1056964608 1050673152 = true := by decide +kernel
theorem nk1_5 : nkOk 1056964608 1052770304 = true := by decide +kernel
theorem nk1_6 : nkOk 1056964608 1054867456 = true := by decide +kernel
theorem nk1_7 : nkOk 1056964608 1056964608 = true := by decide +kernel
theorem nk1_8 : nkOk 1056964608 1058013184 = true := by decide +kernel
theorem nk1_9 : nkOk 1056964608 1059061760 = true := by decide +kernel
theorem nk1_10 : nkOk 1056964608 1060110336 = true := by decide +kernel
theorem nk1_11 : nkOk 1056964608 1061158912 = true := by decide +kernel
theorem nk1_12 : nkOk 1056964608 1062207488 = true := by decide +kernel
theorem nk1_13 : nkOk 1056964608 1063256064 = true := by decide +kernel
theorem nk1_14 : nkOk 1056964608 1064304640 = true := by decide +kernel
theorem nk1_15 : nkOk 1056964608 1065353216 = true := by decide +kernel
theorem nk1_16 : nkOk 1056964608 1065877504 = true := by decide +kernel
theorem nk1_17 : nkOk 1056964608 1066401792 = true := by decide +kernel
theorem nk1_18 : nkOk 1056964608 1066926080 = true := by decide +kernel
theorem nk1_19 : nkOk 1056964608 1067450368 = true := by decide +kernel
theorem nk1_20 : nkOk 1056964608 1067974656 = true := by decide +kernel
theorem nk1_21 : nkOk 1056964608 1068498944 = true := by decide +kernel
theorem nk1_22 : nkOk 1056964608 1069023232 = true := by decide +kernel
theorem nk1_23 : nkOk 1056964608 1069547520 = true := by decide +kernel
theorem nk1_24 : nkOk 1056964608 1070071808 = true := by decide +kernel
theorem nk1_25 : nkOk 1056964608 1070596096 = true := by decide +kernel
theorem nk1_26 : nkOk 1056964608 1071120384 = true := by decide +kernel
theorem nk1_27 : nkOk 1056964608 1071644672 = true := by decide +kernel
theorem nk1_28 : nkOk 1056964608 1072168960 = true := by decide +kernel
theorem nk1_29 : nkOk 1056964608 1072693248 = true := by decide +kernel
theorem nk1_30 : nkOk 1056964608 1073217536 = true := by decide +kernel
theorem nk1_31 : nkOk 1056964608 1073741824 = true := by decide +kernel
theorem nk1 : ∀ g ∈ [1031798784, 1040187392, 1044381696, 1048576000, 1050673152, 1052770304, 1054867456, 1056964608, 1058013184, 1059061760, 1060110336, 1061158912, 1062207488, 1063256064, 1064304640, 1065353216, 1065877504, 1066401792, 1066926080, 1067450368, 1067974656, 1068498944, 1069023232, 1069547520, 1070071808, 1070596096, 1071120384, 1071644672, 1072168960, 1072693248, 1073217536, 1073741824], nkOk 1056964608 g = true := List.forall_mem_cons.2 ⟨nk1_0, List.forall_mem_cons.2 ⟨nk1_1, List.forall_mem_cons.2 ⟨nk1_2, List.forall_mem_cons.2 ⟨nk1_3, List.forall_mem_cons.2 ⟨nk1_4, List.forall_mem_cons.2 ⟨nk1_5, List.forall_mem_cons.2 ⟨nk1_6, List.forall_mem_cons.2 ⟨nk1_7, List.forall_mem_cons.2 ⟨nk1_8, List.forall_mem_cons.2 ⟨nk1_9, List.forall_mem_cons.2 ⟨nk1_10, List.forall_mem_cons.2 ⟨nk1_11, List.forall_mem_cons.2 ⟨nk1_12, List.forall_mem_cons.2 ⟨nk1_13, List.forall_mem_cons.2 ⟨nk1_14, List.forall_mem_cons.2 ⟨nk1_15, List.forall_mem_cons.2 ⟨nk1_16, List.forall_mem_cons.2 ⟨nk1_17, List.forall_mem_cons.2 ⟨nk1_18, List.forall_mem_cons.2 ⟨nk1_19, List.forall_mem_cons.2 ⟨nk1_20, List.forall_mem_cons.2 ⟨nk1_21, List.forall_mem_cons.2 ⟨nk1_22, List.forall_mem_cons.2 ⟨nk1_23, List.forall_mem_cons.2 ⟨nk1_24, List.forall_mem_cons.2 ⟨nk1_25, List.forall_mem_cons.2 ⟨nk1_26, List.forall_mem_cons.2 ⟨nk1_27, List.forall_mem_cons.2 ⟨nk1_28, List.forall_mem_cons.2 ⟨nk1_29, List.forall_mem_cons.2 ⟨nk1_30, List.forall_mem_cons.2 ⟨nk1_31, List.forall_mem_nil _⟩⟩⟩⟩⟩⟩⟩⟩⟩⟩⟩⟩⟩⟩⟩⟩⟩⟩⟩⟩⟩⟩⟩⟩⟩⟩⟩⟩⟩⟩⟩⟩
end Vs
