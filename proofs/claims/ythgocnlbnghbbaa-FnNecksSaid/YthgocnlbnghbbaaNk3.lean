/-
  Necks between rings of one radius: each gap.
-/
import Derived.Test.YthgocnlbnghbbaaMf9
namespace Vs

theorem nk3_0 : nkOk 1065353216 1031798784 = true := by decide +kernel
theorem nk3_1 : nkOk 1065353216 1040187392 = true := by decide +kernel
theorem nk3_2 : nkOk 1065353216 1044381696 = true := by decide +kernel
theorem nk3_3 : nkOk 1065353216 1048576000 = true := by decide +kernel
theorem nk3_4 : nkOk 1065353216 1050673152 = true := by decide +kernel
theorem nk3_5 : nkOk 1065353216 1052770304 = true := by decide +kernel
theorem nk3_6 : nkOk 1065353216 1054867456 = true := by decide +kernel
theorem nk3_7 : nkOk 1065353216 1056964608 = true := by decide +kernel
theorem nk3_8 : nkOk 1065353216 1058013184 = true := by decide +kernel
theorem nk3_9 : nkOk 1065353216 1059061760 = true := by decide +kernel
theorem nk3_10 : nkOk 1065353216 1060110336 = true := by decide +kernel
theorem nk3_11 : nkOk 1065353216 1061158912 = true := by decide +kernel
theorem nk3_12 : nkOk 1065353216 1062207488 = true := by decide +kernel
theorem nk3_13 : nkOk 1065353216 1063256064 = true := by decide +kernel
theorem nk3_14 : nkOk 1065353216 1064304640 = true := by decide +kernel
theorem nk3_15 : nkOk 1065353216 1065353216 = true := by decide +kernel
theorem nk3_16 : nkOk 1065353216 1065877504 = true := by decide +kernel
theorem nk3_17 : nkOk 1065353216 1066401792 = true := by decide +kernel
theorem nk3_18 : nkOk 1065353216 1066926080 = true := by decide +kernel
theorem nk3_19 : nkOk 1065353216 1067450368 = true := by decide +kernel
theorem nk3_20 : nkOk 1065353216 1067974656 = true := by decide +kernel
theorem nk3_21 : nkOk 1065353216 1068498944 = true := by decide +kernel
theorem nk3_22 : nkOk 1065353216 1069023232 = true := by decide +kernel
theorem nk3_23 : nkOk 1065353216 1069547520 = true := by decide +kernel
theorem nk3_24 : nkOk 1065353216 1070071808 = true := by decide +kernel
theorem nk3_25 : nkOk 1065353216 1070596096 = true := by decide +kernel
theorem nk3_26 : nkOk 1065353216 1071120384 = true := by decide +kernel
theorem nk3_27 : nkOk 1065353216 1071644672 = true := by decide +kernel
theorem nk3_28 : nkOk 1065353216 1072168960 = true := by decide +kernel
theorem nk3_29 : nkOk 1065353216 1072693248 = true := by decide +kernel
theorem nk3_30 : nkOk 1065353216 1073217536 = true := by decide +kernel
theorem nk3_31 : nkOk 1065353216 1073741824 = true := by decide +kernel
theorem nk3 : ∀ g ∈ [1031798784, 1040187392, 1044381696, 1048576000, 1050673152, 1052770304, 1054867456, 1056964608, 1058013184, 1059061760, 1060110336, 1061158912, 1062207488, 1063256064, 1064304640, 1065353216, 1065877504, 1066401792, 1066926080, 1067450368, 1067974656, 1068498944, 1069023232, 1069547520, 1070071808, 1070596096, 1071120384, 1071644672, 1072168960, 1072693248, 1073217536, 1073741824], nkOk 1065353216 g = true := List.forall_mem_cons.2 ⟨nk3_0, List.forall_mem_cons.2 ⟨nk3_1, List.forall_mem_cons.2 ⟨nk3_2, List.forall_mem_cons.2 ⟨nk3_3, List.forall_mem_cons.2 ⟨nk3_4, List.forall_mem_cons.2 ⟨nk3_5, List.forall_mem_cons.2 ⟨nk3_6, List.forall_mem_cons.2 ⟨nk3_7, List.forall_mem_cons.2 ⟨nk3_8, List.forall_mem_cons.2 ⟨nk3_9, List.forall_mem_cons.2 ⟨nk3_10, List.forall_mem_cons.2 ⟨nk3_11, List.forall_mem_cons.2 ⟨nk3_12, List.forall_mem_cons.2 ⟨nk3_13, List.forall_mem_cons.2 ⟨nk3_14, List.forall_mem_cons.2 ⟨nk3_15, List.forall_mem_cons.2 ⟨nk3_16, List.forall_mem_cons.2 ⟨nk3_17, List.forall_mem_cons.2 ⟨nk3_18, List.forall_mem_cons.2 ⟨nk3_19, List.forall_mem_cons.2 ⟨nk3_20, List.forall_mem_cons.2 ⟨nk3_21, List.forall_mem_cons.2 ⟨nk3_22, List.forall_mem_cons.2 ⟨nk3_23, List.forall_mem_cons.2 ⟨nk3_24, List.forall_mem_cons.2 ⟨nk3_25, List.forall_mem_cons.2 ⟨nk3_26, List.forall_mem_cons.2 ⟨nk3_27, List.forall_mem_cons.2 ⟨nk3_28, List.forall_mem_cons.2 ⟨nk3_29, List.forall_mem_cons.2 ⟨nk3_30, List.forall_mem_cons.2 ⟨nk3_31, List.forall_mem_nil _⟩⟩⟩⟩⟩⟩⟩⟩⟩⟩⟩⟩⟩⟩⟩⟩⟩⟩⟩⟩⟩⟩⟩⟩⟩⟩⟩⟩⟩⟩⟩⟩
end Vs
