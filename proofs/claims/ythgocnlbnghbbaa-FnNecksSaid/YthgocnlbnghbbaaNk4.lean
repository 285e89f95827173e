/-
  Necks between rings of one radius: each gap.
-/
import Derived.Test.YthgocnlbnghbbaaMf9
namespace Vs

theorem nk4_0 : nkOk 1067450368 1031798784 = true := by decide +kernel
theorem nk4_1 : nkOk 1067450368 1040187392 = true := by decide +kernel
theorem nk4_2 : nkOk 1067450368 1044381696 = true := by decide +kernel
theorem nk4_3 : nkOk 1067450368 1048576000 = true := by decide +kernel
theorem nk4_4 : nkOk 1067450368 1050673152 = true := by decide +kernel
theorem nk4_5 : nkOk 1067450368 1052770304 = true := by decide +kernel
theorem nk4_6 : nkOk 1067450368 1054867456 = true := by decide +kernel
theorem nk4_7 : nkOk 1067450368 1056964608 = true := by decide +kernel
theorem nk4_8 : nkOk 1067450368 1058013184 = true := by decide +kernel
theorem nk4_9 : nkOk 1067450368 1059061760 = true := by decide +kernel
theorem nk4_10 : nkOk 1067450368 1060110336 = true := by decide +kernel
theorem nk4_11 : nkOk 1067450368 1061158912 = true := by decide +kernel
theorem nk4_12 : nkOk 1067450368 1062207488 = true := by decide +kernel
theorem nk4_13 : nkOk 1067450368 1063256064 = true := by decide +kernel
theorem nk4_14 : nkOk 1067450368 1064304640 = true := by decide +kernel
theorem nk4_15 : nkOk 1067450368 1065353216 = true := by decide +kernel
theorem nk4_16 : nkOk 1067450368 1065877504 = true := by decide +kernel
theorem nk4_17 : nkOk 1067450368 1066401792 = true := by decide +kernel
theorem nk4_18 : nkOk 1067450368 1066926080 = true := by decide +kernel
theorem nk4_19 : nkOk 1067450368 1067450368 = true := by decide +kernel
theorem nk4_20 : nkOk 1067450368 1067974656 = true := by decide +kernel
theorem nk4_21 : nkOk 1067450368 1068498944 = true := by decide +kernel
theorem nk4_22 : nkOk 1067450368 1069023232 = true := by decide +kernel
theorem nk4_23 : nkOk 1067450368 1069547520 = true := by decide +kernel
theorem nk4_24 : nkOk 1067450368 1070071808 = true := by decide +kernel
theorem nk4_25 : nkOk 1067450368 1070596096 = true := by decide +kernel
theorem nk4_26 : nkOk 1067450368 1071120384 = true := by decide +kernel
theorem nk4_27 : nkOk 1067450368 1071644672 = true := by decide +kernel
theorem nk4_28 : nkOk 1067450368 1072168960 = true := by decide +kernel
theorem nk4_29 : nkOk 1067450368 1072693248 = true := by decide +kernel
theorem nk4_30 : nkOk 1067450368 1073217536 = true := by decide +kernel
theorem nk4_31 : nkOk 1067450368 1073741824 = true := by decide +kernel
theorem nk4 : ∀ g ∈ [1031798784, 1040187392, 1044381696, 1048576000, 1050673152, 1052770304, 1054867456, 1056964608, 1058013184, 1059061760, 1060110336, 1061158912, 1062207488, 1063256064, 1064304640, 1065353216, 1065877504, 1066401792, 1066926080, 1067450368, 1067974656, 1068498944, 1069023232, 1069547520, 1070071808, 1070596096, 1071120384, 1071644672, 1072168960, 1072693248, 1073217536, 1073741824], nkOk 1067450368 g = true := List.forall_mem_cons.2 ⟨nk4_0, List.forall_mem_cons.2 ⟨nk4_1, List.forall_mem_cons.2 ⟨nk4_2, List.forall_mem_cons.2 ⟨nk4_3, List.forall_mem_cons.2 ⟨nk4_4, List.forall_mem_cons.2 ⟨nk4_5, List.forall_mem_cons.2 ⟨nk4_6, List.forall_mem_cons.2 ⟨nk4_7, List.forall_mem_cons.2 ⟨nk4_8, List.forall_mem_cons.2 ⟨nk4_9, List.forall_mem_cons.2 ⟨nk4_10, List.forall_mem_cons.2 ⟨nk4_11, List.forall_mem_cons.2 ⟨nk4_12, List.forall_mem_cons.2 ⟨nk4_13, List.forall_mem_cons.2 ⟨nk4_14, List.forall_mem_cons.2 ⟨nk4_15, List.forall_mem_cons.2 ⟨nk4_16, List.forall_mem_cons.2 ⟨nk4_17, List.forall_mem_cons.2 ⟨nk4_18, List.forall_mem_cons.2 ⟨nk4_19, List.forall_mem_cons.2 ⟨nk4_20, List.forall_mem_cons.2 ⟨nk4_21, List.forall_mem_cons.2 ⟨nk4_22, List.forall_mem_cons.2 ⟨nk4_23, List.forall_mem_cons.2 ⟨nk4_24, List.forall_mem_cons.2 ⟨nk4_25, List.forall_mem_cons.2 ⟨nk4_26, List.forall_mem_cons.2 ⟨nk4_27, List.forall_mem_cons.2 ⟨nk4_28, List.forall_mem_cons.2 ⟨nk4_29, List.forall_mem_cons.2 ⟨nk4_30, List.forall_mem_cons.2 ⟨nk4_31, List.forall_mem_nil _⟩⟩⟩⟩⟩⟩⟩⟩⟩⟩⟩⟩⟩⟩⟩⟩⟩⟩⟩⟩⟩⟩⟩⟩⟩⟩⟩⟩⟩⟩⟩⟩
end Vs
