/-
  Necks between rings of one radius: each gap.
-/
import Derived.Test.YthgocnlbnghbbaaMf9
namespace Vs

theorem nk5_0 : nkOk 1069547520 1031798784 = true := by decide +kernel
theorem nk5_1 : nkOk 1069547520 1040187392 = true := by decide +kernel
theorem nk5_2 : nkOk 1069547520 1044381696 = true := by decide +kernel
theorem nk5_3 : nkOk 1069547520 1048576000 = true := by decide +kernel
theorem nk5_4 : nkOk 1069547520 1050673152 = true := by decide +kernel
theorem nk5_5 : nkOk 1069547520 1052770304 = true := by decide +kernel
theorem nk5_6 : nkOk 1069547520 1054867456 = true := by decide +kernel
theorem nk5_7 : nkOk 1069547520 1056964608 = true := by decide +kernel
theorem nk5_8 : nkOk 1069547520 1058013184 = true := by decide +kernel
theorem nk5_9 : nkOk 1069547520 1059061760 = true := by decide +kernel
theorem nk5_10 : nkOk 1069547520 1060110336 = true := by decide +kernel
theorem nk5_11 : nkOk 1069547520 1061158912 = true := by decide +kernel
theorem nk5_12 : nkOk 1069547520 1062207488 = true := by decide +kernel
theorem nk5_13 : nkOk 1069547520 1063256064 = true := by decide +kernel
theorem nk5_14 : nkOk 1069547520 1064304640 = true := by decide +kernel
theorem nk5_15 : nkOk 1069547520 1065353216 = true := by decide +kernel
theorem nk5_16 : nkOk 1069547520 1065877504 = true := by decide +kernel
theorem nk5_17 : nkOk 1069547520 1066401792 = true := by decide +kernel
theorem nk5_18 : nkOk 1069547520 1066926080 = true := by decide +kernel
theorem nk5_19 : nkOk 1069547520 1067450368 = true := by decide +kernel
theorem nk5_20 : nkOk 1069547520 1067974656 = true := by decide +kernel
theorem nk5_21 : nkOk 1069547520 1068498944 = true := by decide +kernel
theorem nk5_22 : nkOk 1069547520 1069023232 = true := by decide +kernel
theorem nk5_23 : nkOk 1069547520 1069547520 = true := by decide +kernel
theorem nk5_24 : nkOk 1069547520 1070071808 = true := by decide +kernel
theorem nk5_25 : nkOk 1069547520 1070596096 = true := by decide +kernel
theorem nk5_26 : nkOk 1069547520 1071120384 = true := by decide +kernel
theorem nk5_27 : nkOk 1069547520 1071644672 = true := by decide +kernel
theorem nk5_28 : nkOk 1069547520 1072168960 = true := by decide +kernel
theorem nk5_29 : nkOk 1069547520 1072693248 = true := by decide +kernel
theorem nk5_30 : nkOk 1069547520 1073217536 = true := by decide +kernel
theorem nk5_31 : nkOk 1069547520 1073741824 = true := by decide +kernel
theorem nk5 : ∀ g ∈ [1031798784, 1040187392, 1044381696, 1048576000, 1050673152, 1052770304, 1054867456, 1056964608, 1058013184, 1059061760, 1060110336, 1061158912, 1062207488, 1063256064, 1064304640, 1065353216, 1065877504, 1066401792, 1066926080, 1067450368, 1067974656, 1068498944, 1069023232, 1069547520, 1070071808, 1070596096, 1071120384, 1071644672, 1072168960, 1072693248, 1073217536, 1073741824], nkOk 1069547520 g = true := List.forall_mem_cons.2 ⟨nk5_0, List.forall_mem_cons.2 ⟨nk5_1, List.forall_mem_cons.2 ⟨nk5_2, List.forall_mem_cons.2 ⟨nk5_3, List.forall_mem_cons.2 ⟨nk5_4, List.forall_mem_cons.2 ⟨nk5_5, List.forall_mem_cons.2 ⟨nk5_6, List.forall_mem_cons.2 ⟨nk5_7, List.forall_mem_cons.2 ⟨nk5_8, List.forall_mem_cons.2 ⟨nk5_9, List.forall_mem_cons.2 ⟨nk5_10, List.forall_mem_cons.2 ⟨nk5_11, List.forall_mem_cons.2 ⟨nk5_12, List.forall_mem_cons.2 ⟨nk5_13, List.forall_mem_cons.2 ⟨nk5_14, List.forall_mem_cons.2 ⟨nk5_15, List.forall_mem_cons.2 ⟨nk5_16, List.forall_mem_cons.2 ⟨nk5_17, List.forall_mem_cons.2 ⟨nk5_18, List.forall_mem_cons.2 ⟨nk5_19, List.forall_mem_cons.2 ⟨nk5_20, List.forall_mem_cons.2 ⟨nk5_21, List.forall_mem_cons.2 ⟨nk5_22, List.forall_mem_cons.2 ⟨nk5_23, List.forall_mem_cons.2 ⟨nk5_24, List.forall_mem_cons.2 ⟨nk5_25, List.forall_mem_cons.2 ⟨nk5_26, List.forall_mem_cons.2 ⟨nk5_27, List.forall_mem_cons.2 ⟨nk5_28, List.forall_mem_cons.2 ⟨nk5_29, List.forall_mem_cons.2 ⟨nk5_30, List.forall_mem_cons.2 ⟨nk5_31, List.forall_mem_nil _⟩⟩⟩⟩⟩⟩⟩⟩⟩⟩⟩⟩⟩⟩⟩⟩⟩⟩⟩⟩⟩⟩⟩⟩⟩⟩⟩⟩⟩⟩⟩⟩
end Vs
