/-
  Necks between rings of one radius: each gap.
-/
import Derived.Test.YthgocnlbnghbbaaMf9
namespace Vs

theorem nk11_0 : nkOk 1077936128 1031798784 = true := by decide +kernel
theorem nk11_1 : nkOk 1077936128 1040187392 = true := by decide +kernel
theorem nk11_2 : nkOk 1077936128 1044381696 = true := by decide +kernel
theorem nk11_3 : nkOk 1077936128 1048576000 = true := by decide +kernel
theorem nk11_4 : nkOk 1077936128 1050673152 = true := by decide +kernel
theorem nk11_5 : nkOk 1077936128 1052770304 = true := by decide +kernel
theorem nk11_6 : nkOk 1077936128 1054867456 = true := by decide +kernel
theorem nk11_7 : nkOk 1077936128 1056964608 = true := by decide +kernel
theorem nk11_8 : nkOk 1077936128 1058013184 = true := by decide +kernel
theorem nk11_9 : nkOk 1077936128 1059061760 = true := by decide +kernel
theorem nk11_10 : nkOk 1077936128 1060110336 = true := by decide +kernel
theorem nk11_11 : nkOk 1077936128 1061158912 = true := by decide +kernel
theorem nk11_12 : nkOk 1077936128 1062207488 = true := by decide +kernel
theorem nk11_13 : nkOk 1077936128 1063256064 = true := by decide +kernel
theorem nk11_14 : nkOk 1077936128 1064304640 = true := by decide +kernel
theorem nk11_15 : nkOk 1077936128 1065353216 = true := by decide +kernel
theorem nk11_16 : nkOk 1077936128 1065877504 = true := by decide +kernel
theorem nk11_17 : nkOk 1077936128 1066401792 = true := by decide +kernel
theorem nk11_18 : nkOk 1077936128 1066926080 = true := by decide +kernel
theorem nk11_19 : nkOk 1077936128 1067450368 = true := by decide +kernel
theorem nk11_20 : nkOk 1077936128 1067974656 = true := by decide +kernel
theorem nk11_21 : nkOk 1077936128 1068498944 = true := by decide +kernel
theorem nk11_22 : nkOk 1077936128 1069023232 = true := by decide +kernel
theorem nk11_23 : nkOk 1077936128 1069547520 = true := by decide +kernel
theorem nk11_24 : nkOk 1077936128 1070071808 = true := by decide +kernel
theorem nk11_25 : nkOk 1077936128 1070596096 = true := by decide +kernel
theorem nk11_26 : nkOk 1077936128 1071120384 = true := by decide +kernel
theorem nk11_27 : nkOk 1077936128 1071644672 = true := by decide +kernel
theorem nk11_28 : nkOk 1077936128 1072168960 = true := by decide +kernel
theorem nk11_29 : nkOk 1077936128 1072693248 = true := by decide +kernel
theorem nk11_30 : nkOk 1077936128 1073217536 = true := by decide +kernel
theorem nk11_31 : nkOk 1077936128 1073741824 = true := by decide +kernel
theorem nk11 : ∀ g ∈ [1031798784, 1040187392, 1044381696, 1048576000, 1050673152, 1052770304, 1054867456, 1056964608, 1058013184, 1059061760, 1060110336, 1061158912, 1062207488, 1063256064, 1064304640, 1065353216, 1065877504, 1066401792, 1066926080, 1067450368, 1067974656, 1068498944, 1069023232, 1069547520, 1070071808, 1070596096, 1071120384, 1071644672, 1072168960, 1072693248, 1073217536, 1073741824], nkOk 1077936128 g = true := List.forall_mem_cons.2 ⟨nk11_0, List.forall_mem_cons.2 ⟨nk11_1, List.forall_mem_cons.2 ⟨nk11_2, List.forall_mem_cons.2 ⟨nk11_3, List.forall_mem_cons.2 ⟨nk11_4, List.forall_mem_cons.2 ⟨nk11_5, List.forall_mem_cons.2 ⟨nk11_6, List.forall_mem_cons.2 ⟨nk11_7, List.forall_mem_cons.2 ⟨nk11_8, List.forall_mem_cons.2 ⟨nk11_9, List.forall_mem_cons.2 ⟨nk11_10, List.forall_mem_cons.2 ⟨nk11_11, List.forall_mem_cons.2 ⟨nk11_12, List.forall_mem_cons.2 ⟨nk11_13, List.forall_mem_cons.2 ⟨nk11_14, List.forall_mem_cons.2 ⟨nk11_15, List.forall_mem_cons.2 ⟨nk11_16, List.forall_mem_cons.2 ⟨nk11_17, List.forall_mem_cons.2 ⟨nk11_18, List.forall_mem_cons.2 ⟨nk11_19, List.forall_mem_cons.2 ⟨nk11_20, List.forall_mem_cons.2 ⟨nk11_21, List.forall_mem_cons.2 ⟨nk11_22, List.forall_mem_cons.2 ⟨nk11_23, List.forall_mem_cons.2 ⟨nk11_24, List.forall_mem_cons.2 ⟨nk11_25, List.forall_mem_cons.2 ⟨nk11_26, List.forall_mem_cons.2 ⟨nk11_27, List.forall_mem_cons.2 ⟨nk11_28, List.forall_mem_cons.2 ⟨nk11_29, List.forall_mem_cons.2 ⟨nk11_30, List.forall_mem_cons.2 ⟨nk11_31, List.forall_mem_nil _⟩⟩⟩⟩⟩⟩⟩⟩⟩⟩⟩⟩⟩⟩⟩⟩⟩⟩⟩⟩⟩⟩⟩⟩⟩⟩⟩⟩⟩⟩⟩⟩
end Vs
