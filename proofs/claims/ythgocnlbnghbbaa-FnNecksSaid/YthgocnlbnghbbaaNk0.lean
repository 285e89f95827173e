/-
  Necks between rings of one radius: each gap.
-/
import Derived.Test.YthgocnlbnghbbaaMf9
namespace Vs

theorem nk0_0 : nkOk 1048576000 1031798784 = true := by decide +kernel
theorem nk0_1 : nkOk 1048576000 1040187392 = true := by decide +kernel
theorem nk0_2 : nkOk 1048576000 1044381696 = true := by decide +kernel
theorem nk0_3 : nkOk 1048576000 1048576000 = true := by decide +kernel
theorem nk0_4 : nkOk 1048576000 1050673152 = true := by decide +kernel
theorem nk0_5 : nkOk 1048576000 1052770304 = true := by decide +kernel
theorem nk0_6 : nkOk 1048576000 1054867456 = true := by decide +kernel
theorem nk0_7 : nkOk 1048576000 1056964608 = true := by decide +kernel
theorem nk0_8 : nkOk 1048576000 1058013184 = true := by decide +kernel
theorem nk0_9 : nkOk 1048576000 1059061760 = true := by decide +kernel
theorem nk0_10 : nkOk 1048576000 1060110336 = true := by decide +kernel
theorem nk0_11 : nkOk 1048576000 1061158912 = true := by decide +kernel
theorem nk0_12 : nkOk 1048576000 1062207488 = true := by decide +kernel
theorem nk0_13 : nkOk 1048576000 1063256064 = true := by decide +kernel
theorem nk0_14 : nkOk 1048576000 1064304640 = true := by decide +kernel
theorem nk0_15 : nkOk 1048576000 1065353216 = true := by decide +kernel
theorem nk0_16 : nkOk 1048576000 1065877504 = true := by decide +kernel
theorem nk0_17 : nkOk 1048576000 1066401792 = true := by decide +kernel
theorem nk0_18 : nkOk 1048576000 1066926080 = true := by decide +kernel
theorem nk0_19 : nkOk 1048576000 1067450368 = true := by decide +kernel
theorem nk0_20 : nkOk 1048576000 1067974656 = true := by decide +kernel
theorem nk0_21 : nkOk 1048576000 1068498944 = true := by decide +kernel
theorem nk0_22 : nkOk 1048576000 1069023232 = true := by decide +kernel
theorem nk0_23 : nkOk 1048576000 1069547520 = true := by decide +kernel
theorem nk0_24 : nkOk 1048576000 1070071808 = true := by decide +kernel
theorem nk0_25 : nkOk 1048576000 1070596096 = true := by decide +kernel
theorem nk0_26 : nkOk 1048576000 1071120384 = true := by decide +kernel
theorem nk0_27 : nkOk 1048576000 1071644672 = true := by decide +kernel
theorem nk0_28 : nkOk 1048576000 1072168960 = true := by decide +kernel
theorem nk0_29 : nkOk 1048576000 1072693248 = true := by decide +kernel
theorem nk0_30 : nkOk 1048576000 1073217536 = true := by decide +kernel
theorem nk0_31 : nkOk 1048576000 1073741824 = true := by decide +kernel
theorem nk0 : ∀ g ∈ [1031798784, 1040187392, 1044381696, 1048576000, 1050673152, 1052770304, 1054867456, 1056964608, 1058013184, 1059061760, 1060110336, 1061158912, 1062207488, 1063256064, 1064304640, 1065353216, 1065877504, 1066401792, 1066926080, 1067450368, 1067974656, 1068498944, 1069023232, 1069547520, 1070071808, 1070596096, 1071120384, 1071644672, 1072168960, 1072693248, 1073217536, 1073741824], nkOk 1048576000 g = true := List.forall_mem_cons.2 ⟨nk0_0, List.forall_mem_cons.2 ⟨nk0_1, List.forall_mem_cons.2 ⟨nk0_2, List.forall_mem_cons.2 ⟨nk0_3, List.forall_mem_cons.2 ⟨nk0_4, List.forall_mem_cons.2 ⟨nk0_5, List.forall_mem_cons.2 ⟨nk0_6, List.forall_mem_cons.2 ⟨nk0_7, List.forall_mem_cons.2 ⟨nk0_8, List.forall_mem_cons.2 ⟨nk0_9, List.forall_mem_cons.2 ⟨nk0_10, List.forall_mem_cons.2 ⟨nk0_11, List.forall_mem_cons.2 ⟨nk0_12, List.forall_mem_cons.2 ⟨nk0_13, List.forall_mem_cons.2 ⟨nk0_14, List.forall_mem_cons.2 ⟨nk0_15, List.forall_mem_cons.2 ⟨nk0_16, List.forall_mem_cons.2 ⟨nk0_17, List.forall_mem_cons.2 ⟨nk0_18, List.forall_mem_cons.2 ⟨nk0_19, List.forall_mem_cons.2 ⟨nk0_20, List.forall_mem_cons.2 ⟨nk0_21, List.forall_mem_cons.2 ⟨nk0_22, List.forall_mem_cons.2 ⟨nk0_23, List.forall_mem_cons.2 ⟨nk0_24, List.forall_mem_cons.2 ⟨nk0_25, List.forall_mem_cons.2 ⟨nk0_26, List.forall_mem_cons.2 ⟨nk0_27, List.forall_mem_cons.2 ⟨nk0_28, List.forall_mem_cons.2 ⟨nk0_29, List.forall_mem_cons.2 ⟨nk0_30, List.forall_mem_cons.2 ⟨nk0_31, List.forall_mem_nil _⟩⟩⟩⟩⟩⟩⟩⟩⟩⟩⟩⟩⟩⟩⟩⟩⟩⟩⟩⟩⟩⟩⟩⟩⟩⟩⟩⟩⟩⟩⟩⟩
end Vs
