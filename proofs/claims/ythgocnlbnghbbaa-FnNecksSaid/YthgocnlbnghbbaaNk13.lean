/-
  Necks between rings of one radius: each gap.
-/
import Derived.Test.YthgocnlbnghbbaaMf9
namespace Vs

theorem nk13_0 : nkOk 1080033280 1031798784 = true := by decide +kernel
theorem nk13_1 : nkOk 1080033280 1040187392 = true := by decide +kernel
theorem nk13_2 : nkOk 1080033280 1044381696 = true := by decide +kernel
theorem nk13_3 : nkOk 1080033280 1048576000 = true := by decide +kernel
theorem nk13_4 : nkOk 1080033280 1050673152 = true := by decide +kernel
theorem nk13_5 : nkOk 1080033280 1052770304 = true := by decide +kernel
theorem nk13_6 : nkOk 1080033280 1054867456 = true := by decide +kernel
theorem nk13_7 : nkOk 1080033280 1056964608 = true := by decide +kernel
theorem nk13_8 : nkOk 1080033280 1058013184 = true := by decide +kernel
theorem nk13_9 : nkOk 1080033280 1059061760 = true := by decide +kernel
theorem nk13_10 : nkOk 1080033280 1060110336 = true := by decide +kernel
theorem nk13_11 : nkOk 1080033280 1061158912 = true := by decide +kernel
theorem nk13_12 : nkOk 1080033280 1062207488 = true := by decide +kernel
theorem nk13_13 : nkOk 1080033280 1063256064 = true := by decide +kernel
theorem nk13_14 : nkOk 1080033280 1064304640 = true := by decide +kernel
theorem nk13_15 : nkOk 1080033280 1065353216 = true := by decide +kernel
theorem nk13_16 : nkOk 1080033280 1065877504 = true := by decide +kernel
theorem nk13_17 : nkOk 1080033280 1066401792 = true := by decide +kernel
theorem nk13_18 : nkOk 1080033280 1066926080 = true := by decide +kernel
theorem nk13_19 : nkOk 1080033280 1067450368 = true := by decide +kernel
theorem nk13_20 : nkOk 1080033280 1067974656 = true := by decide +kernel
theorem nk13_21 : nkOk 1080033280 1068498944 = true := by decide +kernel
theorem nk13_22 : nkOk 1080033280 1069023232 = true := by decide +kernel
theorem nk13_23 : nkOk 1080033280 1069547520 = true := by decide +kernel
theorem nk13_24 : nkOk 1080033280 1070071808 = true := by decide +kernel
theorem nk13_25 : nkOk 1080033280 1070596096 = true := by decide +kernel
theorem nk13_26 : nkOk 1080033280 1071120384 = true := by decide +kernel
theorem nk13_27 : nkOk 1080033280 1071644672 = true := by decide +kernel
theorem nk13_28 : nkOk 1080033280 1072168960 = true := by decide +kernel
theorem nk13_29 : nkOk 1080033280 1072693248 = true := by decide +kernel
theorem nk13_30 : nkOk 1080033280 1073217536 = true := by decide +kernel
theorem nk13_31 : nkOk 1080033280 1073741824 = true := by decide +kernel
theorem nk13 : ∀ g ∈ [1031798784, 1040187392, 1044381696, 1048576000, 1050673152, 1052770304, 1054867456, 1056964608, 1058013184, 1059061760, 1060110336, 1061158912, 1062207488, 1063256064, 1064304640, 1065353216, 1065877504, 1066401792, 1066926080, 1067450368, 1067974656, 1068498944, 1069023232, 1069547520, 1070071808, 1070596096, 1071120384, 1071644672, 1072168960, 1072693248, 1073217536, 1073741824], nkOk 1080033280 g = true := List.forall_mem_cons.2 ⟨nk13_0, List.forall_mem_cons.2 ⟨nk13_1, List.forall_mem_cons.2 ⟨nk13_2, List.forall_mem_cons.2 ⟨nk13_3, List.forall_mem_cons.2 ⟨nk13_4, List.forall_mem_cons.2 ⟨nk13_5, List.forall_mem_cons.2 ⟨nk13_6, List.forall_mem_cons.2 ⟨nk13_7, List.forall_mem_cons.2 ⟨nk13_8, List.forall_mem_cons.2 ⟨nk13_9, List.forall_mem_cons.2 ⟨nk13_10, List.forall_mem_cons.2 ⟨nk13_11, List.forall_mem_cons.2 ⟨nk13_12, List.forall_mem_cons.2 ⟨nk13_13, List.forall_mem_cons.2 ⟨nk13_14, List.forall_mem_cons.2 ⟨nk13_15, List.forall_mem_cons.2 ⟨nk13_16, List.forall_mem_cons.2 ⟨nk13_17, List.forall_mem_cons.2 ⟨nk13_18, List.forall_mem_cons.2 ⟨nk13_19, List.forall_mem_cons.2 ⟨nk13_20, List.forall_mem_cons.2 ⟨nk13_21, List.forall_mem_cons.2 ⟨nk13_22, List.forall_mem_cons.2 ⟨nk13_23, List.forall_mem_cons.2 ⟨nk13_24, List.forall_mem_cons.2 ⟨nk13_25, List.forall_mem_cons.2 ⟨nk13_26, List.forall_mem_cons.2 ⟨nk13_27, List.forall_mem_cons.2 ⟨nk13_28, List.forall_mem_cons.2 ⟨nk13_29, List.forall_mem_cons.2 ⟨nk13_30, List.forall_mem_cons.2 ⟨nk13_31, List.forall_mem_nil _⟩⟩⟩⟩⟩⟩⟩⟩⟩⟩⟩⟩⟩⟩⟩⟩⟩⟩⟩⟩⟩⟩⟩⟩⟩⟩⟩⟩⟩⟩⟩⟩
end Vs
