/-
  Necks between rings of one radius: each gap.
-/
import Derived.Test.YthgocnlbnghbbaaMf9
namespace Vs

theorem nk7_0 : nkOk 1073741824 1031798784 = true := by decide +kernel
theorem nk7_1 : nkOk 1073741824 1040187392 = true := by decide +kernel
theorem nk7_2 : nkOk 1073741824 1044381696 = true := by decide +kernel
theorem nk7_3 : nkOk 1073741824 1048576000 = true := by decide +kernel
theorem nk7_4 : nkOk 1073741824 1050673152 = true := by decide +kernel
theorem nk7_5 : nkOk 1073741824 1052770304 = true := by decide +kernel
theorem nk7_6 : nkOk 1073741824 1054867456 = true := by decide +kernel
theorem nk7_7 : nkOk 1073741824 1056964608 = true := by decide +kernel
theorem nk7_8 : nkOk 1073741824 1058013184 = true := by decide +kernel
theorem nk7_9 : nkOk 1073741824 1059061760 = true := by decide +kernel
theorem nk7_10 : nkOk 1073741824 1060110336 = true := by decide +kernel
theorem nk7_11 : nkOk 1073741824 1061158912 = true := by decide +kernel
theorem nk7_12 : nkOk 1073741824 1062207488 = true := by decide +kernel
theorem nk7_13 : nkOk 1073741824 1063256064 = true := by decide +kernel
theorem nk7_14 : nkOk 1073741824 1064304640 = true := by decide +kernel
theorem nk7_15 : nkOk 1073741824 1065353216 = true := by decide +kernel
theorem nk7_16 : nkOk 1073741824 1065877504 = true := by decide +kernel
theorem nk7_17 : nkOk 1073741824 1066401792 = true := by decide +kernel
theorem nk7_18 : nkOk 1073741824 1066926080 = true := by decide +kernel
theorem nk7_19 : nkOk 1073741824 1067450368 = true := by decide +kernel
theorem nk7_20 : nkOk 1073741824 1067974656 = true := by decide +kernel
theorem nk7_21 : nkOk 1073741824 1068498944 = true := by decide +kernel
theorem nk7_22 : nkOk 1073741824 1069023232 = true := by decide +kernel
theorem nk7_23 : nkOk 1073741824 1069547520 = true := by decide +kernel
theorem nk7_24 : nkOk 1073741824 1070071808 = true := by decide +kernel
theorem nk7_25 : nkOk 1073741824 1070596096 = true := by decide +kernel
theorem nk7_26 : nkOk 1073741824 1071120384 = true := by decide +kernel
theorem nk7_27 : nkOk 1073741824 1071644672 = true := by decide +kernel
theorem nk7_28 : nkOk 1073741824 1072168960 = true := by decide +kernel
theorem nk7_29 : nkOk 1073741824 1072693248 = true := by decide +kernel
theorem nk7_30 : nkOk 1073741824 1073217536 = true := by decide +kernel
theorem nk7_31 : nkOk 1073741824 1073741824 = true := by decide +kernel
theorem nk7 : ∀ g ∈ [1031798784, 1040187392, 1044381696, 1048576000, 1050673152, 1052770304, 1054867456, 1056964608, 1058013184, 1059061760, 1060110336, 1061158912, 1062207488, 1063256064, 1064304640, 1065353216, 1065877504, 1066401792, 1066926080, 1067450368, 1067974656, 1068498944, 1069023232, 1069547520, 1070071808, 1070596096, 1071120384, 1071644672, 1072168960, 1072693248, 1073217536, 1073741824], nkOk 1073741824 g = true := List.forall_mem_cons.2 ⟨nk7_0, List.forall_mem_cons.2 ⟨nk7_1, List.forall_mem_cons.2 ⟨nk7_2, List.forall_mem_cons.2 ⟨nk7_3, List.forall_mem_cons.2 ⟨nk7_4, List.forall_mem_cons.2 ⟨nk7_5, List.forall_mem_cons.2 ⟨nk7_6, List.forall_mem_cons.2 ⟨nk7_7, List.forall_mem_cons.2 ⟨nk7_8, List.forall_mem_cons.2 ⟨nk7_9, List.forall_mem_cons.2 ⟨nk7_10, List.forall_mem_cons.2 ⟨nk7_11, List.forall_mem_cons.2 ⟨nk7_12, List.forall_mem_cons.2 ⟨nk7_13, List.forall_mem_cons.2 ⟨nk7_14, List.forall_mem_cons.2 ⟨nk7_15, List.forall_mem_cons.2 ⟨nk7_16, List.forall_mem_cons.2 ⟨nk7_17, List.forall_mem_cons.2 ⟨nk7_18, List.forall_mem_cons.2 ⟨nk7_19, List.forall_mem_cons.2 ⟨nk7_20, List.forall_mem_cons.2 ⟨nk7_21, List.forall_mem_cons.2 ⟨nk7_22, List.forall_mem_cons.2 ⟨nk7_23, List.forall_mem_cons.2 ⟨nk7_24, List.forall_mem_cons.2 ⟨nk7_25, List.forall_mem_cons.2 ⟨nk7_26, List.forall_mem_cons.2 ⟨nk7_27, List.forall_mem_cons.2 ⟨nk7_28, List.forall_mem_cons.2 ⟨nk7_29, List.forall_mem_cons.2 ⟨nk7_30, List.forall_mem_cons.2 ⟨nk7_31, List.forall_mem_nil _⟩⟩⟩⟩⟩⟩⟩⟩⟩⟩⟩⟩⟩⟩⟩⟩⟩⟩⟩⟩⟩⟩⟩⟩⟩⟩⟩⟩⟩⟩⟩⟩
end Vs
