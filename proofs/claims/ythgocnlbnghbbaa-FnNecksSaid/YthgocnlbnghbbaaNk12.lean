/-
  Necks between rings of one radius: each gap.
-/
import Derived.Test.YthgocnlbnghbbaaMf9
namespace Vs

theorem nk12_0 : nkOk 1078984704 1031798784 = true := by decide +kernel
theorem nk12_1 : nkOk 1078984704 1040187392 = true := by decide +kernel
theorem nk12_2 : nkOk 1078984704 1044381696 = true := by decide +kernel
theorem nk12_3 : nkOk 1078984704 1048576000 = true := by decide +kernel
theorem nk12_4 : nkOk 1078984704 1050673152 = true := by decide +kernel
theorem nk12_5 : nkOk 1078984704 1052770304 = true := by decide +kernel
theorem nk12_6 : nkOk 1078984704 1054867456 = true := by decide +kernel
theorem nk12_7 : nkOk 1078984704 1056964608 = true := by decide +kernel
theorem nk12_8 : nkOk 1078984704 1058013184 = true := by decide +kernel
theorem nk12_9 : nkOk 1078984704 1059061760 = true := by decide +kernel
theorem nk12_10 : nkOk 1078984704 1060110336 = true := by decide +kernel
theorem nk12_11 : nkOk 1078984704 1061158912 = true := by decide +kernel
theorem nk12_12 : nkOk 1078984704 1062207488 = true := by decide +kernel
theorem nk12_13 : nkOk 1078984704 1063256064 = true := by decide +kernel
theorem nk12_14 : nkOk 1078984704 1064304640 = true := by decide +kernel
theorem nk12_15 : nkOk 1078984704 1065353216 = true := by decide +kernel
theorem nk12_16 : nkOk 1078984704 1065877504 = true := by decide +kernel
theorem nk12_17 : nkOk 1078984704 1066401792 = true := by decide +kernel
theorem nk12_18 : nkOk 1078984704 1066926080 = true := by decide +kernel
theorem nk12_19 : nkOk 1078984704 1067450368 = true := by decide +kernel
theorem nk12_20 : nkOk 1078984704 1067974656 = true := by decide +kernel
theorem nk12_21 : nkOk 1078984704 1068498944 = true := by decide +kernel
theorem nk12_22 : nkOk 1078984704 1069023232 = true := by decide +kernel
theorem nk12_23 : nkOk 1078984704 1069547520 = true := by decide +kernel
theorem nk12_24 : nkOk 1078984704 1070071808 = true := by decide +kernel
theorem nk12_25 : nkOk 1078984704 1070596096 = true := by decide +kernel
theorem nk12_26 : nkOk 1078984704 1071120384 = true := by decide +kernel
theorem nk12_27 : nkOk 1078984704 1071644672 = true := by decide +kernel
theorem nk12_28 : nkOk 1078984704 1072168960 = true := by decide +kernel
theorem nk12_29 : nkOk 1078984704 1072693248 = true := by decide +kernel
theorem nk12_30 : nkOk 1078984704 1073217536 = true := by decide +kernel
theorem nk12_31 : nkOk 1078984704 1073741824 = true := by decide +kernel
theorem nk12 : ∀ g ∈ [1031798784, 1040187392, 1044381696, 1048576000, 1050673152, 1052770304, 1054867456, 1056964608, 1058013184, 1059061760, 1060110336, 1061158912, 1062207488, 1063256064, 1064304640, 1065353216, 1065877504, 1066401792, 1066926080, 1067450368, 1067974656, 1068498944, 1069023232, 1069547520, 1070071808, 1070596096, 1071120384, 1071644672, 1072168960, 1072693248, 1073217536, 1073741824], nkOk 1078984704 g = true := List.forall_mem_cons.2 ⟨nk12_0, List.forall_mem_cons.2 ⟨nk12_1, List.forall_mem_cons.2 ⟨nk12_2, List.forall_mem_cons.2 ⟨nk12_3, List.forall_mem_cons.2 ⟨nk12_4, List.forall_mem_cons.2 ⟨nk12_5, List.forall_mem_cons.2 ⟨nk12_6, List.forall_mem_cons.2 ⟨nk12_7, List.forall_mem_cons.2 ⟨nk12_8, List.forall_mem_cons.2 ⟨nk12_9, List.forall_mem_cons.2 ⟨nk12_10, List.forall_mem_cons.2 ⟨nk12_11, List.forall_mem_cons.2 ⟨nk12_12, List.forall_mem_cons.2 ⟨nk12_13, List.forall_mem_cons.2 ⟨nk12_14, List.forall_mem_cons.2 ⟨nk12_15, List.forall_mem_cons.2 ⟨nk12_16, List.forall_mem_cons.2 ⟨nk12_17, List.forall_mem_cons.2 ⟨nk12_18, List.forall_mem_cons.2 ⟨nk12_19, List.forall_mem_cons.2 ⟨nk12_20, List.forall_mem_cons.2 ⟨nk12_21, List.forall_mem_cons.2 ⟨nk12_22, List.forall_mem_cons.2 ⟨nk12_23, List.forall_mem_cons.2 ⟨nk12_24, List.forall_mem_cons.2 ⟨nk12_25, List.forall_mem_cons.2 ⟨nk12_26, List.forall_mem_cons.2 ⟨nk12_27, List.forall_mem_cons.2 ⟨nk12_28, List.forall_mem_cons.2 ⟨nk12_29, List.forall_mem_cons.2 ⟨nk12_30, List.forall_mem_cons.2 ⟨nk12_31, List.forall_mem_nil _⟩⟩⟩⟩⟩⟩⟩⟩⟩⟩⟩⟩⟩⟩⟩⟩⟩⟩⟩⟩⟩⟩⟩⟩⟩⟩⟩⟩⟩⟩⟩⟩
end Vs
