/-
  Necks between rings of one radius: each gap.
-/
import Derived.Test.YthgocnlbnghbbaaMf9
namespace Vs

theorem nk8_0 : nkOk 1074790400 1031798784 = true := by decide +kernel
theorem nk8_1 : nkOk 1074790400 1040187392 = true := by decide +kernel
theorem nk8_2 : nkOk 1074790400 1044381696 = true := by decide +kernel
theorem nk8_3 : nkOk 1074790400 1048576000 = true := by decide +kernel
theorem nk8_4 : nkOk 1074790400 1050673152 = true := by decide +kernel
theorem nk8_5 : nkOk 1074790400 1052770304 = true := by decide +kernel
theorem nk8_6 : nkOk 1074790400 1054867456 = true := by decide +kernel
theorem nk8_7 : nkOk 1074790400 1056964608 = true := by decide +kernel
theorem nk8_8 : nkOk 1074790400 1058013184 = true := by decide +kernel
theorem nk8_9 : nkOk 1074790400 1059061760 = true := by decide +kernel
theorem nk8_10 : nkOk 1074790400 1060110336 = true := by decide +kernel
theorem nk8_11 : nkOk 1074790400 1061158912 = true := by decide +kernel
theorem nk8_12 : nkOk 1074790400 1062207488 = true := by decide +kernel
theorem nk8_13 : nkOk 1074790400 1063256064 = true := by decide +kernel
theorem nk8_14 : nkOk 1074790400 1064304640 = true := by decide +kernel
theorem nk8_15 : nkOk 1074790400 1065353216 = true := by decide +kernel
theorem nk8_16 : nkOk 1074790400 1065877504 = true := by decide +kernel
theorem nk8_17 : nkOk 1074790400 1066401792 = true := by decide +kernel
theorem nk8_18 : nkOk 1074790400 1066926080 = true := by decide +kernel
theorem nk8_19 : nkOk 1074790400 1067450368 = true := by decide +kernel
theorem nk8_20 : nkOk 1074790400 1067974656 = true := by decide +kernel
theorem nk8_21 : nkOk 1074790400 1068498944 = true := by decide +kernel
theorem nk8_22 : nkOk 1074790400 1069023232 = true := by decide +kernel
theorem nk8_23 : nkOk 1074790400 1069547520 = true := by decide +kernel
theorem nk8_24 : nkOk 1074790400 1070071808 = true := by decide +kernel
theorem nk8_25 : nkOk 1074790400 1070596096 = true := by decide +kernel
theorem nk8_26 : nkOk 1074790400 1071120384 = true := by decide +kernel
theorem nk8_27 : nkOk 1074790400 1071644672 = true := by decide +kernel
theorem nk8_28 : nkOk 1074790400 1072168960 = true := by decide +kernel
theorem nk8_29 : nkOk 1074790400 1072693248 = true := by decide +kernel
theorem nk8_30 : nkOk 1074790400 1073217536 = true := by decide +kernel
theorem nk8_31 : nkOk 1074790400 1073741824 = true := by decide +kernel
theorem nk8 : ∀ g ∈ [1031798784, 1040187392, 1044381696, 1048576000, 1050673152, 1052770304, 1054867456, 1056964608, 1058013184, 1059061760, 1060110336, 1061158912, 1062207488, 1063256064, 1064304640, 1065353216, 1065877504, 1066401792, 1066926080, 1067450368, 1067974656, 1068498944, 1069023232, 1069547520, 1070071808, 1070596096, 1071120384, 1071644672, 1072168960, 1072693248, 1073217536, 1073741824], nkOk 1074790400 g = true := List.forall_mem_cons.2 ⟨nk8_0, List.forall_mem_cons.2 ⟨nk8_1, List.forall_mem_cons.2 ⟨nk8_2, List.forall_mem_cons.2 ⟨nk8_3, List.forall_mem_cons.2 ⟨nk8_4, List.forall_mem_cons.2 ⟨nk8_5, List.forall_mem_cons.2 ⟨nk8_6, List.forall_mem_cons.2 ⟨nk8_7, List.forall_mem_cons.2 ⟨nk8_8, List.forall_mem_cons.2 ⟨nk8_9, List.forall_mem_cons.2 ⟨nk8_10, List.forall_mem_cons.2 ⟨nk8_11, List.forall_mem_cons.2 ⟨nk8_12, List.forall_mem_cons.2 ⟨nk8_13, List.forall_mem_cons.2 ⟨nk8_14, List.forall_mem_cons.2 ⟨nk8_15, List.forall_mem_cons.2 ⟨nk8_16, List.forall_mem_cons.2 ⟨nk8_17, List.forall_mem_cons.2 ⟨nk8_18, List.forall_mem_cons.2 ⟨nk8_19, List.forall_mem_cons.2 ⟨nk8_20, List.forall_mem_cons.2 ⟨nk8_21, List.forall_mem_cons.2 ⟨nk8_22, List.forall_mem_cons.2 ⟨nk8_23, List.forall_mem_cons.2 ⟨nk8_24, List.forall_mem_cons.2 ⟨nk8_25, List.forall_mem_cons.2 ⟨nk8_26, List.forall_mem_cons.2 ⟨nk8_27, List.forall_mem_cons.2 ⟨nk8_28, List.forall_mem_cons.2 ⟨nk8_29, List.forall_mem_cons.2 ⟨nk8_30, List.forall_mem_cons.2 ⟨nk8_31, List.forall_mem_nil _⟩⟩⟩⟩⟩⟩⟩⟩⟩⟩⟩⟩⟩⟩⟩⟩⟩⟩⟩⟩⟩⟩⟩⟩⟩⟩⟩⟩⟩⟩⟩⟩
end Vs
