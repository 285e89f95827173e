/-
  Necks between rings of one radius: each gap.
-/
import Derived.Test.YthgocnlbnghbbaaMf9
namespace Vs

theorem nk10_0 : nkOk 1076887552 1031798784 = true := by decide +kernel
theorem nk10_1 : nkOk 1076887552 1040187392 = true := by decide +kernel
theorem nk10_2 : nkOk 1076887552 1044381696 = true := by decide +kernel
theorem nk10_3 : nkOk 1076887552 1048576000 = true := by decide +kernel
theorem nk10_4 : nkOk 1076887552 1050673152 = true := by decide +kernel
theorem nk10_5 : nkOk 1076887552 1052770304 = true := by decide +kernel
theorem nk10_6 : nkOk 1076887552 1054867456 = true := by decide +kernel
theorem nk10_7 : nkOk 1076887552 1056964608 = true := by decide +kernel
theorem nk10_8 : nkOk 1076887552 1058013184 = true := by decide +kernel
theorem nk10_9 : nkOk 1076887552 1059061760 = true := by decide +kernel
theorem nk10_10 : nkOk 1076887552 1060110336 = true := by decide +kernel
theorem nk10_11 : nkOk 1076887552 1061158912 = true := by decide +kernel
theorem nk10_12 : nkOk 1076887552 1062207488 = true := by decide +kernel
theorem nk10_13 : nkOk 1076887552 1063256064 = true := by decide +kernel
theorem nk10_14 : nkOk 1076887552 1064304640 = true := by decide +kernel
theorem nk10_15 : nkOk 1076887552 1065353216 = true := by decide +kernel
theorem nk10_16 : nkOk 1076887552 1065877504 = true := by decide +kernel
theorem nk10_17 : nkOk 1076887552 1066401792 = true := by decide +kernel
theorem nk10_18 : nkOk 1076887552 1066926080 = true := by decide +kernel
theorem nk10_19 : nkOk 1076887552 1067450368 = true := by decide +kernel
theorem nk10_20 : nkOk 1076887552 1067974656 = true := by decide +kernel
theorem nk10_21 : nkOk 1076887552 1068498944 = true := by decide +kernel
theorem nk10_22 : nkOk 1076887552 1069023232 = true := by decide +kernel
theorem nk10_23 : nkOk 1076887552 1069547520 = true := by decide +kernel
theorem nk10_24 : nkOk 1076887552 1070071808 = true := by decide +kernel
theorem nk10_25 : nkOk 1076887552 1070596096 = true := by decide +kernel
theorem nk10_26 : nkOk 1076887552 1071120384 = true := by decide +kernel
theorem nk10_27 : nkOk 1076887552 1071644672 = true := by decide +kernel
theorem nk10_28 : nkOk 1076887552 1072168960 = true := by decide +kernel
theorem nk10_29 : nkOk 1076887552 1072693248 = true := by decide +kernel
theorem nk10_30 : nkOk 1076887552 1073217536 = true := by decide +kernel
theorem nk10_31 : nkOk 1076887552 1073741824 = true := by decide +kernel
theorem nk10 : ∀ g ∈ [1031798784, 1040187392, 1044381696, 1048576000, 1050673152, 1052770304, 1054867456, 1056964608, 1058013184, 1059061760, 1060110336, 1061158912, 1062207488, 1063256064, 1064304640, 1065353216, 1065877504, 1066401792, 1066926080, 1067450368, 1067974656, 1068498944, 1069023232, 1069547520, 1070071808, 1070596096, 1071120384, 1071644672, 1072168960, 1072693248, 1073217536, 1073741824], nkOk 1076887552 g = true := List.forall_mem_cons.2 ⟨nk10_0, List.forall_mem_cons.2 ⟨nk10_1, List.forall_mem_cons.2 ⟨nk10_2, List.forall_mem_cons.2 ⟨nk10_3, List.forall_mem_cons.2 ⟨nk10_4, List.forall_mem_cons.2 ⟨nk10_5, List.forall_mem_cons.2 ⟨nk10_6, List.forall_mem_cons.2 ⟨nk10_7, List.forall_mem_cons.2 ⟨nk10_8, List.forall_mem_cons.2 ⟨nk10_9, List.forall_mem_cons.2 ⟨nk10_10, List.forall_mem_cons.2 ⟨nk10_11, List.forall_mem_cons.2 ⟨nk10_12, List.forall_mem_cons.2 ⟨nk10_13, List.forall_mem_cons.2 ⟨nk10_14, List.forall_mem_cons.2 ⟨nk10_15, List.forall_mem_cons.2 ⟨nk10_16, List.forall_mem_cons.2 ⟨nk10_17, List.forall_mem_cons.2 ⟨nk10_18, List.forall_mem_cons.2 ⟨nk10_19, List.forall_mem_cons.2 ⟨nk10_20, List.forall_mem_cons.2 ⟨nk10_21, List.forall_mem_cons.2 ⟨nk10_22, List.forall_mem_cons.2 ⟨nk10_23, List.forall_mem_cons.2 ⟨nk10_24, List.forall_mem_cons.2 ⟨nk10_25, List.forall_mem_cons.2 ⟨nk10_26, List.forall_mem_cons.2 ⟨nk10_27, List.forall_mem_cons.2 ⟨nk10_28, List.forall_mem_cons.2 ⟨nk10_29, List.forall_mem_cons.2 ⟨nk10_30, List.forall_mem_cons.2 ⟨nk10_31, List.forall_mem_nil _⟩⟩⟩⟩⟩⟩⟩⟩⟩⟩⟩⟩⟩⟩⟩⟩⟩⟩⟩⟩⟩⟩⟩⟩⟩⟩⟩⟩⟩⟩⟩⟩
end Vs
