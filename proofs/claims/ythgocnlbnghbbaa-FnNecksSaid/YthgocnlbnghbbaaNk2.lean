/-
  Necks between rings of one radius: each gap.
-/
import Derived.Test.YthgocnlbnghbbaaMf9
namespace Vs

theorem nk2_0 : nkOk 1061158912 1031798784 = true := by decide +kernel
theorem nk2_1 : nkOk 1061158912 1040187392 = true := by decide +kernel
theorem nk2_2 : nkOk 1061158912 1044381696 = true := by decide +kernel
theorem nk2_3 : nkOk 1061158912 1048576000 = true := by decide +kernel
theorem nk2_4 : nkOk 1061158912 1050673152 = true := by decide +kernel
theorem nk2_5 : nkOk 1061158912 1052770304 = true := by decide +kernel
theorem nk2_6 : nkOk 1061158912 1054867456 = true := by decide +kernel
theorem nk2_7 : nkOk 1061158912 1056964608 = true := by decide +kernel
theorem nk2_8 : nkOk 1061158912 1058013184 = true := by decide +kernel
theorem nk2_9 : nkOk 1061158912 1059061760 = true := by decide +kernel
theorem nk2_10 : nkOk 1061158912 1060110336 = true := by decide +kernel
theorem nk2_11 : nkOk 1061158912 1061158912 = true := by decide +kernel
theorem nk2_12 : nkOk 1061158912 1062207488 = true := by decide +kernel
theorem nk2_13 : nkOk 1061158912 1063256064 = true := by decide +kernel
theorem nk2_14 : nkOk 1061158912 1064304640 = true := by decide +kernel
theorem nk2_15 : nkOk 1061158912 1065353216 = true := by decide +kernel
theorem nk2_16 : nkOk 1061158912 1065877504 = true := by decide +kernel
theorem nk2_17 : nkOk 1061158912 1066401792 = true := by decide +kernel
theorem nk2_18 : nkOk 1061158912 1066926080 = true := by decide +kernel
theorem nk2_19 : nkOk 1061158912 1067450368 = true := by decide +kernel
theorem nk2_20 : nkOk 1061158912 1067974656 = true := by decide +kernel
theorem nk2_21 : nkOk 1061158912 1068498944 = true := by decide +kernel
theorem nk2_22 : nkOk 1061158912 1069023232 = true := by decide +kernel
theorem nk2_23 : nkOk 1061158912 1069547520 = true := by decide +kernel
theorem nk2_24 : nkOk 1061158912 1070071808 = true := by decide +kernel
theorem nk2_25 : nkOk 1061158912 1070596096 = true := by decide +kernel
theorem nk2_26 : nkOk 1061158912 1071120384 = true := by decide +kernel
theorem nk2_27 : nkOk 1061158912 1071644672 = true := by decide +kernel
theorem nk2_28 : nkOk 1061158912 1072168960 = true := by decide +kernel
theorem nk2_29 : nkOk 1061158912 1072693248 = true := by decide +kernel
theorem nk2_30 : nkOk 1061158912 1073217536 = true := by decide +kernel
theorem nk2_31 : nkOk 1061158912 1073741824 = true := by decide +kernel
theorem nk2 : ∀ g ∈ [1031798784, 1040187392, 1044381696, 1048576000, 1050673152, 1052770304, 1054867456, 1056964608, 1058013184, 1059061760, 1060110336, 1061158912, 1062207488, 1063256064, 1064304640, 1065353216, 1065877504, 1066401792, 1066926080, 1067450368, 1067974656, 1068498944, 1069023232, 1069547520, 1070071808, 1070596096, 1071120384, 1071644672, 1072168960, 1072693248, 1073217536, 1073741824], nkOk 1061158912 g = true := List.forall_mem_cons.2 ⟨nk2_0, List.forall_mem_cons.2 ⟨nk2_1, List.forall_mem_cons.2 ⟨nk2_2, List.forall_mem_cons.2 ⟨nk2_3, List.forall_mem_cons.2 ⟨nk2_4, List.forall_mem_cons.2 ⟨nk2_5, List.forall_mem_cons.2 ⟨nk2_6, List.forall_mem_cons.2 ⟨nk2_7, List.forall_mem_cons.2 ⟨nk2_8, List.forall_mem_cons.2 ⟨nk2_9, List.forall_mem_cons.2 ⟨nk2_10, List.forall_mem_cons.2 ⟨nk2_11, List.forall_mem_cons.2 ⟨nk2_12, List.forall_mem_cons.2 ⟨nk2_13, List.forall_mem_cons.2 ⟨nk2_14, List.forall_mem_cons.2 ⟨nk2_15, List.forall_mem_cons.2 ⟨nk2_16, List.forall_mem_cons.2 ⟨nk2_17, List.forall_mem_cons.2 ⟨nk2_18, List.forall_mem_cons.2 ⟨nk2_19, List.forall_mem_cons.2 ⟨nk2_20, List.forall_mem_cons.2 ⟨nk2_21, List.forall_mem_cons.2 ⟨nk2_22, List.forall_mem_cons.2 ⟨nk2_23, List.forall_mem_cons.2 ⟨nk2_24, List.forall_mem_cons.2 ⟨nk2_25, List.forall_mem_cons.2 ⟨nk2_26, List.forall_mem_cons.2 ⟨nk2_27, List.forall_mem_cons.2 ⟨nk2_28, List.forall_mem_cons.2 ⟨nk2_29, List.forall_mem_cons.2 ⟨nk2_30, List.forall_mem_cons.2 ⟨nk2_31, List.forall_mem_nil _⟩⟩⟩⟩⟩⟩⟩⟩⟩⟩⟩⟩⟩⟩⟩⟩⟩⟩⟩⟩⟩⟩⟩⟩⟩⟩⟩⟩⟩⟩⟩⟩
end Vs
