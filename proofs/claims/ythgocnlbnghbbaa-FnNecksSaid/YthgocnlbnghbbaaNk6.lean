/-
  Necks between rings of one radius: each gap.
-/
import Derived.Test.YthgocnlbnghbbaaMf9
namespace Vs

theorem nk6_0 : nkOk 1071644672 1031798784 = true := by decide +kernel
theorem nk6_1 : nkOk 1071644672 1040187392 = true := by decide +kernel
theorem nk6_2 : nkOk 1071644672 1044381696 = true := by decide +kernel
theorem nk6_3 : nkOk 1071644672 1048576000 = true := by decide +kernel
theorem nk6_4 : nkOk 1071644672 1050673152 = true := by decide +kernel
theorem nk6_5 : nkOk 1071644672 1052770304 = true := by decide +kernel
theorem nk6_6 : nkOk 1071644672 1054867456 = true := by decide +kernel
theorem nk6_7 : nkOk 1071644672 1056964608 = true := by decide +kernel
theorem nk6_8 : nkOk 1071644672 1058013184 = true := by decide +kernel
theorem nk6_9 : nkOk 1071644672 1059061760 = true := by decide +kernel
theorem nk6_10 : nkOk 1071644672 1060110336 = true := by decide +kernel
theorem nk6_11 : nkOk 1071644672 1061158912 = true := by decide +kernel
theorem nk6_12 : nkOk 1071644672 1062207488 = true := by decide +kernel
theorem nk6_13 : nkOk 1071644672 1063256064 = true := by decide +kernel
theorem nk6_14 : nkOk 1071644672 1064304640 = true := by decide +kernel
theorem nk6_15 : nkOk 1071644672 1065353216 = true := by decide +kernel
theorem nk6_16 : nkOk 1071644672 1065877504 = true := by decide +kernel
theorem nk6_17 : nkOk 1071644672 1066401792 = true := by decide +kernel
theorem nk6_18 : nkOk 1071644672 1066926080 = true := by decide +kernel
theorem nk6_19 : nkOk 1071644672 1067450368 = true := by decide +kernel
theorem nk6_20 : nkOk 1071644672 1067974656 = true := by decide +kernel
theorem nk6_21 : nkOk 1071644672 1068498944 = true := by decide +kernel
theorem nk6_22 : nkOk 1071644672 1069023232 = true := by decide +kernel
theorem nk6_23 : nkOk 1071644672 1069547520 = true := by decide +kernel
theorem nk6_24 : nkOk 1071644672 1070071808 = true := by decide +kernel
theorem nk6_25 : nkOk 1071644672 1070596096 = true := by decide +kernel
theorem nk6_26 : nkOk 1071644672 1071120384 = true := by decide +kernel
theorem nk6_27 : nkOk 1071644672 1071644672 = true := by decide +kernel
theorem nk6_28 : nkOk 1071644672 1072168960 = true := by decide +kernel
theorem nk6_29 : nkOk 1071644672 1072693248 = true := by decide +kernel
theorem nk6_30 : nkOk 1071644672 1073217536 = true := by decide +kernel
theorem nk6_31 : nkOk 1071644672 1073741824 = true := by decide +kernel
theorem nk6 : ∀ g ∈ [1031798784, 1040187392, 1044381696, 1048576000, 1050673152, 1052770304, 1054867456, 1056964608, 1058013184, 1059061760, 1060110336, 1061158912, 1062207488, 1063256064, 1064304640, 1065353216, 1065877504, 1066401792, 1066926080, 1067450368, 1067974656, 1068498944, 1069023232, 1069547520, 1070071808, 1070596096, 1071120384, 1071644672, 1072168960, 1072693248, 1073217536, 1073741824], nkOk 1071644672 g = true := List.forall_mem_cons.2 ⟨nk6_0, List.forall_mem_cons.2 ⟨nk6_1, List.forall_mem_cons.2 ⟨nk6_2, List.forall_mem_cons.2 ⟨nk6_3, List.forall_mem_cons.2 ⟨nk6_4, List.forall_mem_cons.2 ⟨nk6_5, List.forall_mem_cons.2 ⟨nk6_6, List.forall_mem_cons.2 ⟨nk6_7, List.forall_mem_cons.2 ⟨nk6_8, List.forall_mem_cons.2 ⟨nk6_9, List.forall_mem_cons.2 ⟨nk6_10, List.forall_mem_cons.2 ⟨nk6_11, List.forall_mem_cons.2 ⟨nk6_12, List.forall_mem_cons.2 ⟨nk6_13, List.forall_mem_cons.2 ⟨nk6_14, List.forall_mem_cons.2 ⟨nk6_15, List.forall_mem_cons.2 ⟨nk6_16, List.forall_mem_cons.2 ⟨nk6_17, List.forall_mem_cons.2 ⟨nk6_18, List.forall_mem_cons.2 ⟨nk6_19, List.forall_mem_cons.2 ⟨nk6_20, List.forall_mem_cons.2 ⟨nk6_21, List.forall_mem_cons.2 ⟨nk6_22, List.forall_mem_cons.2 ⟨nk6_23, List.forall_mem_cons.2 ⟨nk6_24, List.forall_mem_cons.2 ⟨nk6_25, List.forall_mem_cons.2 ⟨nk6_26, List.forall_mem_cons.2 ⟨nk6_27, List.forall_mem_cons.2 ⟨nk6_28, List.forall_mem_cons.2 ⟨nk6_29, List.forall_mem_cons.2 ⟨nk6_30, List.forall_mem_cons.2 ⟨nk6_31, List.forall_mem_nil _⟩⟩⟩⟩⟩⟩⟩⟩⟩⟩⟩⟩⟩⟩⟩⟩⟩⟩⟩⟩⟩⟩⟩⟩⟩⟩⟩⟩⟩⟩⟩⟩
end Vs
