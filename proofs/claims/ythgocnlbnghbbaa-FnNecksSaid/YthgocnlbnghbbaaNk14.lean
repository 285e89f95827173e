/-
  Necks between rings of one radius: each gap.
-/
import Derived.Test.YthgocnlbnghbbaaMf9
namespace Vs

theorem nk14_0 : nkOk 1081081856 1031798784 = true := by decide +kernel
theorem nk14_1 : nkOk 1081081856 1040187392 = true := by decide +kernel
theorem nk14_2 : nkOk 1081081856 1044381696 = true := by decide +kernel
theorem nk14_3 : nkOk 1081081856 1048576000 = true := by decide +kernel
theorem nk14_4 : nkOk 1081081856 1050673152 = true := by decide +kernel
theorem nk14_5 : nkOk 1081081856 1052770304 = true := by decide +kernel
theorem nk14_6 : nkOk 1081081856 1054867456 = true := by decide +kernel
theorem nk14_7 : nkOk 1081081856 1056964608 = true := by decide +kernel
theorem nk14_8 : nkOk 1081081856 1058013184 = true := by decide +kernel
theorem nk14_9 : nkOk 1081081856 1059061760 = true := by decide +kernel
theorem nk14_10 : nkOk 1081081856 1060110336 = true := by decide +kernel
theorem nk14_11 : nkOk 1081081856 1061158912 = true := by decide +kernel
theorem nk14_12 : nkOk 1081081856 1062207488 = true := by decide +kernel
theorem nk14_13 : nkOk 1081081856 1063256064 = true := by decide +kernel
theorem nk14_14 : nkOk 1081081856 1064304640 = true := by decide +kernel
theorem nk14_15 : nkOk 1081081856 1065353216 = true := by decide +kernel
theorem nk14_16 : nkOk 1081081856 1065877504 = true := by decide +kernel
theorem nk14_17 : nkOk 1081081856 1066401792 = true := by decide +kernel
theorem nk14_18 : nkOk 1081081856 1066926080 = true := by decide +kernel
theorem nk14_19 : nkOk 1081081856 1067450368 = true := by decide +kernel
theorem nk14_20 : nkOk 1081081856 1067974656 = true := by decide +kernel
theorem nk14_21 : nkOk 1081081856 1068498944 = true := by decide +kernel
theorem nk14_22 : nkOk 1081081856 1069023232 = true := by decide +kernel
theorem nk14_23 : nkOk 1081081856 1069547520 = true := by decide +kernel
theorem nk14_24 : nkOk 1081081856 1070071808 = true := by decide +kernel
theorem nk14_25 : nkOk 1081081856 1070596096 = true := by decide +kernel
theorem nk14_26 : nkOk 1081081856 1071120384 = true := by decide +kernel
theorem nk14_27 : nkOk 1081081856 1071644672 = true := by decide +kernel
theorem nk14_28 : nkOk 1081081856 1072168960 = true := by decide +kernel
theorem nk14_29 : nkOk 1081081856 1072693248 = true := by decide +kernel
theorem nk14_30 : nkOk 1081081856 1073217536 = true := by decide +kernel
theorem nk14_31 : nkOk 1081081856 1073741824 = true := by decide +kernel
theorem nk14 : ∀ g ∈ [1031798784, 1040187392, 1044381696, 1048576000, 1050673152, 1052770304, 1054867456, 1056964608, 1058013184, 1059061760, 1060110336, 1061158912, 1062207488, 1063256064, 1064304640, 1065353216, 1065877504, 1066401792, 1066926080, 1067450368, 1067974656, 1068498944, 1069023232, 1069547520, 1070071808, 1070596096, 1071120384, 1071644672, 1072168960, 1072693248, 1073217536, 1073741824], nkOk 1081081856 g = true := List.forall_mem_cons.2 ⟨nk14_0, List.forall_mem_cons.2 ⟨nk14_1, List.forall_mem_cons.2 ⟨nk14_2, List.forall_mem_cons.2 ⟨nk14_3, List.forall_mem_cons.2 ⟨nk14_4, List.forall_mem_cons.2 ⟨nk14_5, List.forall_mem_cons.2 ⟨nk14_6, List.forall_mem_cons.2 ⟨nk14_7, List.forall_mem_cons.2 ⟨nk14_8, List.forall_mem_cons.2 ⟨nk14_9, List.forall_mem_cons.2 ⟨nk14_10, List.forall_mem_cons.2 ⟨nk14_11, List.forall_mem_cons.2 ⟨nk14_12, List.forall_mem_cons.2 ⟨nk14_13, List.forall_mem_cons.2 ⟨nk14_14, List.forall_mem_cons.2 ⟨nk14_15, List.forall_mem_cons.2 ⟨nk14_16, List.forall_mem_cons.2 ⟨nk14_17, List.forall_mem_cons.2 ⟨nk14_18, List.forall_mem_cons.2 ⟨nk14_19, List.forall_mem_cons.2 ⟨nk14_20, List.forall_mem_cons.2 ⟨nk14_21, List.forall_mem_cons.2 ⟨nk14_22, List.forall_mem_cons.2 ⟨nk14_23, List.forall_mem_cons.2 ⟨nk14_24, List.forall_mem_cons.2 ⟨nk14_25, List.forall_mem_cons.2 ⟨nk14_26, List.forall_mem_cons.2 ⟨nk14_27, List.forall_mem_cons.2 ⟨nk14_28, List.forall_mem_cons.2 ⟨nk14_29, List.forall_mem_cons.2 ⟨nk14_30, List.forall_mem_cons.2 ⟨nk14_31, List.forall_mem_nil _⟩⟩⟩⟩⟩⟩⟩⟩⟩⟩⟩⟩⟩⟩⟩⟩⟩⟩⟩⟩⟩⟩⟩⟩⟩⟩⟩⟩⟩⟩⟩⟩
end Vs
