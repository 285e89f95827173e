/-
  Sines of the turns that rings ask for: all of them exist.
-/
import Derived.Test.YthgocnlbnghbbaaK20
namespace Vs
open Go

def okT (x : Nat) : Bool := sOk x && (sineO x).isSome
theorem okT0 : okT 0 = true := by decide +kernel
theorem okT1 : okT 1048576000 = true := by decide +kernel
theorem okT2 : okT 1051372203 = true := by decide +kernel
theorem okT3 : okT 1058362710 = true := by decide +kernel
theorem okT4 : okT 1059760811 = true := by decide +kernel
theorem okT5 : okT 1063955115 = true := by decide +kernel
theorem okT6 : okT 1056964608 = true := by decide +kernel
theorem okT7 : okT 1061158912 = true := by decide +kernel
theorem okT8 : okT 1065353216 = true := by decide +kernel
theorem okT9 : okT 1045220557 = true := by decide +kernel
theorem okT10 : okT 1055286886 = true := by decide +kernel
theorem okT11 : okT 1053609165 = true := by decide +kernel
theorem okT12 : okT 1059481190 = true := by decide +kernel
theorem okT13 : okT 1058642330 = true := by decide +kernel
theorem okT14 : okT 1062836634 = true := by decide +kernel
theorem okT15 : okT 1061997773 = true := by decide +kernel
theorem okT16 : okT 1065772646 = true := by decide +kernel
theorem okT17 : okT 1042983595 = true := by decide +kernel
theorem okT18 : okT 1054168406 = true := by decide +kernel
theorem okT19 : okT 1062557013 = true := by decide +kernel
theorem okT20 : okT 1066052266 = true := by decide +kernel
theorem okT21 : okT 1041385765 = true := by decide +kernel
theorem okT22 : okT 1053369490 = true := by decide +kernel
theorem okT23 : okT 1049774373 = true := by decide +kernel
theorem okT24 : okT 1057563794 = true := by decide +kernel
theorem okT25 : okT 1054567863 = true := by decide +kernel
theorem okT26 : okT 1059960540 = true := by decide +kernel
theorem okT27 : okT 1058162981 = true := by decide +kernel
theorem okT28 : okT 1062357285 = true := by decide +kernel
theorem okT29 : okT 1060559726 = true := by decide +kernel
theorem okT30 : okT 1064754030 = true := by decide +kernel
theorem okT31 : okT 1062956471 = true := by decide +kernel
theorem okT32 : okT 1066251996 = true := by decide +kernel
theorem okT33 : okT 1040187392 = true := by decide +kernel
theorem okT34 : okT 1052770304 = true := by decide +kernel
theorem okT35 : okT 1059061760 = true := by decide +kernel
theorem okT36 : okT 1063256064 = true := by decide +kernel
theorem okT37 : okT 1066401792 = true := by decide +kernel
theorem okT38 : okT 1038323257 = true := by decide +kernel
theorem okT39 : okT 1052304270 = true := by decide +kernel
theorem okT40 : okT 1046711865 = true := by decide +kernel
theorem okT41 : okT 1056032540 = true := by decide +kernel
theorem okT42 : okT 1055100473 = true := by decide +kernel
theorem okT43 : okT 1060226844 = true := by decide +kernel
theorem okT44 : okT 1057896676 = true := by decide +kernel
theorem okT45 : okT 1062090980 = true := by decide +kernel
theorem okT46 : okT 1061624946 = true := by decide +kernel
theorem okT47 : okT 1065586233 = true := by decide +kernel
theorem okT48 : okT 1063489081 = true := by decide +kernel
theorem okT49 : okT 1066518300 = true := by decide +kernel
theorem okT50 : okT 1036831949 = true := by decide +kernel
theorem okT51 : okT 1051931443 = true := by decide +kernel
theorem okT52 : okT 1050253722 = true := by decide +kernel
theorem okT53 : okT 1057803469 = true := by decide +kernel
theorem okT54 : okT 1060320051 = true := by decide +kernel
theorem okT55 : okT 1064514355 = true := by decide +kernel
theorem okT56 : okT 1063675494 = true := by decide +kernel
theorem okT57 : okT 1066611507 = true := by decide +kernel
theorem okT58 : okT 1035611788 = true := by decide +kernel
theorem okT59 : okT 1051626403 = true := by decide +kernel
theorem okT60 : okT 1044000396 = true := by decide +kernel
theorem okT61 : okT 1054676806 = true := by decide +kernel
theorem okT62 : okT 1049338601 = true := by decide +kernel
theorem okT63 : okT 1057345908 = true := by decide +kernel
theorem okT64 : okT 1052389004 = true := by decide +kernel
theorem okT65 : okT 1058871110 = true := by decide +kernel
theorem okT66 : okT 1055439407 = true := by decide +kernel
theorem okT67 : okT 1060396312 = true := by decide +kernel
theorem okT68 : okT 1057727209 = true := by decide +kernel
theorem okT69 : okT 1061921513 = true := by decide +kernel
theorem okT70 : okT 1059252410 = true := by decide +kernel
theorem okT71 : okT 1063446714 = true := by decide +kernel
theorem okT72 : okT 1060777612 = true := by decide +kernel
theorem okT73 : okT 1064971916 = true := by decide +kernel
theorem okT74 : okT 1062302813 = true := by decide +kernel
theorem okT75 : okT 1065925166 = true := by decide +kernel
theorem okT76 : okT 1063828015 = true := by decide +kernel
theorem okT77 : okT 1066687768 = true := by decide +kernel
theorem okT78 : okT 1034594987 = true := by decide +kernel
theorem okT79 : okT 1054168405 = true := by decide +kernel
theorem okT80 : okT 1059760810 = true := by decide +kernel
theorem okT81 : okT 1058362709 = true := by decide +kernel
theorem okT82 : okT 1066751318 = true := by decide +kernel
theorem okT83 : okT 1033734617 = true := by decide +kernel
theorem okT84 : okT 1051157110 = true := by decide +kernel
theorem okT85 : okT 1042123225 = true := by decide +kernel
theorem okT86 : okT 1053738220 = true := by decide +kernel
theorem okT87 : okT 1047285445 = true := by decide +kernel
theorem okT88 : okT 1056319330 = true := by decide +kernel
theorem okT89 : okT 1050511833 = true := by decide +kernel
theorem okT90 : okT 1057932524 = true := by decide +kernel
theorem okT91 : okT 1053092943 = true := by decide +kernel
theorem okT92 : okT 1059223080 = true := by decide +kernel
theorem okT93 : okT 1055674053 = true := by decide +kernel
theorem okT94 : okT 1060513634 = true := by decide +kernel
theorem okT95 : okT 1057609886 = true := by decide +kernel
theorem okT96 : okT 1061804190 = true := by decide +kernel
theorem okT97 : okT 1058900441 = true := by decide +kernel
theorem okT98 : okT 1063094745 = true := by decide +kernel
theorem okT99 : okT 1060190996 = true := by decide +kernel
theorem okT100 : okT 1064385300 = true := by decide +kernel
theorem okT101 : okT 1061481551 = true := by decide +kernel
theorem okT102 : okT 1065514536 = true := by decide +kernel
theorem okT103 : okT 1062772106 = true := by decide +kernel
theorem okT104 : okT 1066159813 = true := by decide +kernel
theorem okT105 : okT 1064062661 = true := by decide +kernel
theorem okT106 : okT 1066805090 = true := by decide +kernel
theorem okT107 : okT 1032997157 = true := by decide +kernel
theorem okT108 : okT 1050972745 = true := by decide +kernel
theorem okT109 : okT 1046179255 = true := by decide +kernel
theorem okT110 : okT 1055766236 = true := by decide +kernel
theorem okT111 : okT 1052171118 = true := by decide +kernel
theorem okT112 : okT 1058762167 = true := by decide +kernel
theorem okT113 : okT 1059361353 = true := by decide +kernel
theorem okT114 : okT 1063555657 = true := by decide +kernel
theorem okT115 : okT 1061758098 = true := by decide +kernel
theorem okT116 : okT 1065652809 = true := by decide +kernel
theorem okT117 : okT 1064154843 = true := by decide +kernel
theorem okT118 : okT 1066851182 = true := by decide +kernel
theorem okT119 : okT 1032358025 = true := by decide +kernel
theorem okT120 : okT 1050812962 = true := by decide +kernel
theorem okT121 : okT 1040746633 = true := by decide +kernel
theorem okT122 : okT 1053049924 = true := by decide +kernel
theorem okT123 : okT 1049135241 = true := by decide +kernel
theorem okT124 : okT 1057244228 = true := by decide +kernel
theorem okT125 : okT 1055846127 = true := by decide +kernel
theorem okT126 : okT 1060599672 = true := by decide +kernel
theorem okT127 : okT 1057523849 = true := by decide +kernel
theorem okT128 : okT 1061718153 = true := by decide +kernel
theorem okT129 : okT 1060879292 = true := by decide +kernel
theorem okT130 : okT 1065073596 = true := by decide +kernel
theorem okT131 : okT 1063116254 = true := by decide +kernel
theorem okT132 : okT 1066331887 = true := by decide +kernel
theorem okT133 : okT 1064234735 = true := by decide +kernel
theorem okT134 : okT 1066891128 = true := by decide +kernel
theorem okT135 : okT 1031798784 = true := by decide +kernel
theorem okT136 : okT 1050673152 = true := by decide +kernel
theorem okT137 : okT 1044381696 = true := by decide +kernel
theorem okT138 : okT 1054867456 = true := by decide +kernel
theorem okT139 : okT 1058013184 = true := by decide +kernel
theorem okT140 : okT 1060110336 = true := by decide +kernel
theorem okT141 : okT 1062207488 = true := by decide +kernel
theorem okT142 : okT 1064304640 = true := by decide +kernel
theorem okT143 : okT 1065877504 = true := by decide +kernel
theorem okT144 : okT 1066926080 = true := by decide +kernel
def ringL : List Nat := [0, 1048576000, 1051372203, 1058362710, 1059760811, 1063955115, 1056964608, 1061158912, 1065353216, 1045220557, 1055286886, 1053609165, 1059481190, 1058642330, 1062836634, 1061997773, 1065772646, 1042983595, 1054168406, 1062557013, 1066052266, 1041385765, 1053369490, 1049774373, 1057563794, 1054567863, 1059960540, 1058162981, 1062357285, 1060559726, 1064754030, 1062956471, 1066251996, 1040187392, 1052770304, 1059061760, 1063256064, 1066401792, 1038323257, 1052304270, 1046711865, 1056032540, 1055100473, 1060226844, 1057896676, 1062090980, 1061624946, 1065586233, 1063489081, 1066518300, 1036831949, 1051931443, 1050253722, 1057803469, 1060320051, 1064514355, 1063675494, 1066611507, 1035611788, 1051626403, 1044000396, 1054676806, 1049338601, 1057345908, 1052389004, 1058871110, 1055439407, 1060396312, 1057727209, 1061921513, 1059252410, 1063446714, 1060777612, 1064971916, 1062302813, 1065925166, 1063828015, 1066687768, 1034594987, 1054168405, 1059760810, 1058362709, 1066751318, 1033734617, 1051157110, 1042123225, 1053738220, 1047285445, 1056319330, 1050511833, 1057932524, 1053092943, 1059223080, 1055674053, 1060513634, 1057609886, 1061804190, 1058900441, 1063094745, 1060190996, 1064385300, 1061481551, 1065514536, 1062772106, 1066159813, 1064062661, 1066805090, 1032997157, 1050972745, 1046179255, 1055766236, 1052171118, 1058762167, 1059361353, 1063555657, 1061758098, 1065652809, 1064154843, 1066851182, 1032358025, 1050812962, 1040746633, 1053049924, 1049135241, 1057244228, 1055846127, 1060599672, 1057523849, 1061718153, 1060879292, 1065073596, 1063116254, 1066331887, 1064234735, 1066891128, 1031798784, 1050673152, 1044381696, 1054867456, 1058013184, 1060110336, 1062207488, 1064304640, 1065877504, 1066926080]
theorem ringL_ok : ∀ x ∈ ringL, okT x = true := by
  unfold ringL
  exact List.forall_mem_cons.2 ⟨okT0, List.forall_mem_cons.2 ⟨okT1, List.forall_mem_cons.2 ⟨okT2, List.forall_mem_cons.2 ⟨okT3, List.forall_mem_cons.2 ⟨okT4, List.forall_mem_cons.2 ⟨okT5, List.forall_mem_cons.2 ⟨okT6, List.forall_mem_cons.2 ⟨okT7, List.forall_mem_cons.2 ⟨okT8, List.forall_mem_cons.2 ⟨okT9, List.forall_mem_cons.2 ⟨okT10, List.forall_mem_cons.2 ⟨okT11, List.forall_mem_cons.2 ⟨okT12, List.forall_mem_cons.2 ⟨okT13, List.forall_mem_cons.2 ⟨okT14, List.forall_mem_cons.2 ⟨okT15, List.forall_mem_cons.2 ⟨okT16, List.forall_mem_cons.2 ⟨okT17, List.forall_mem_cons.2 ⟨okT18, List.forall_mem_cons.2 ⟨okT19, List.forall_mem_cons.2 ⟨okT20, List.forall_mem_cons.2 ⟨okT21, List.forall_mem_cons.2 ⟨okT22, List.forall_mem_cons.2 ⟨okT23, List.forall_mem_cons.2 ⟨okT24, List.forall_mem_cons.2 ⟨okT25, List.forall_mem_cons.2 ⟨okT26, List.forall_mem_cons.2 ⟨okT27, List.forall_mem_cons.2 ⟨okT28, List.forall_mem_cons.2 ⟨okT29, List.forall_mem_cons.2 ⟨okT30, List.forall_mem_cons.2 ⟨okT31, List.forall_mem_cons.2 ⟨okT32, List.forall_mem_cons.2 ⟨okT33, List.forall_mem_cons.2 ⟨okT34, List.forall_mem_cons.2 ⟨okT35, List.forall_mem_cons.2 ⟨okT36, List.forall_mem_cons.2 ⟨okT37, List.forall_mem_cons.2 ⟨okT38, List.forall_mem_cons.2 ⟨okT39, List.forall_mem_cons.2 ⟨okT40, List.forall_mem_cons.2 ⟨okT41, List.forall_mem_cons.2 ⟨okT42, List.forall_mem_cons.2 ⟨okT43, List.forall_mem_cons.2 ⟨okT44, List.forall_mem_cons.2 ⟨okT45, List.forall_mem_cons.2 ⟨okT46, List.forall_mem_cons.2 ⟨okT47, List.forall_mem_cons.2 ⟨okT48, List.forall_mem_cons.2 ⟨okT49, List.forall_mem_cons.2 ⟨okT50, List.forall_mem_cons.2 ⟨okT51, List.forall_mem_cons.2 ⟨okT52, List.forall_mem_cons.2 ⟨okT53, List.forall_mem_cons.2 ⟨okT54, List.forall_mem_cons.2 ⟨okT55, List.forall_mem_cons.2 ⟨okT56, List.forall_mem_cons.2 ⟨okT57, List.forall_mem_cons.2 ⟨okT58, List.forall_mem_cons.2 ⟨okT59, List.forall_mem_cons.2 ⟨okT60, List.forall_mem_cons.2 ⟨okT61, List.forall_mem_cons.2 ⟨okT62, List.forall_mem_cons.2 ⟨okT63, List.forall_mem_cons.2 ⟨okT64, List.forall_mem_cons.2 ⟨okT65, List.forall_mem_cons.2 ⟨okT66, List.forall_mem_cons.2 ⟨okT67, List.forall_mem_cons.2 ⟨okT68, List.forall_mem_cons.2 ⟨okT69, List.forall_mem_cons.2 ⟨okT70, List.forall_mem_cons.2 ⟨okT71, List.forall_mem_cons.2 ⟨okT72, List.forall_mem_cons.2 ⟨okT73, List.forall_mem_cons.2 ⟨okT74, List.forall_mem_cons.2 ⟨okT75, List.forall_mem_cons.2 ⟨okT76, List.forall_mem_cons.2 ⟨okT77, List.forall_mem_cons.2 ⟨okT78, List.forall_mem_cons.2 ⟨okT79, List.forall_mem_cons.2 ⟨okT80, List.forall_mem_cons.2 ⟨okT81, List.forall_mem_cons.2 ⟨okT82, List.forall_mem_cons.2 ⟨okT83, List.forall_mem_cons.2 ⟨okT84, List.forall_mem_cons.2 ⟨okT85, List.forall_mem_cons.2 ⟨okT86, List.forall_mem_cons.2 ⟨okT87, List.forall_mem_cons.2 ⟨okT88, List.forall_mem_cons.2 ⟨okT89, List.forall_mem_cons.2 ⟨okT90, List.forall_mem_cons.2 ⟨okT91, List.forall_mem_cons.2 ⟨okT92, List.forall_mem_cons.2 ⟨okT93, List.forall_mem_cons.2 ⟨okT94, List.forall_mem_cons.2 ⟨okT95, List.forall_mem_cons.2 ⟨okT96, List.forall_mem_cons.2 ⟨okT97, List.forall_mem_cons.2 ⟨okT98, List.forall_mem_cons.2 ⟨okT99, List.forall_mem_cons.2 ⟨okT100, List.forall_mem_cons.2 ⟨okT101, List.forall_mem_cons.2 ⟨okT102, List.forall_mem_cons.2 ⟨okT103, List.forall_mem_cons.2 ⟨okT104, List.forall_mem_cons.2 ⟨okT105, List.forall_mem_cons.2 ⟨okT106, List.forall_mem_cons.2 ⟨okT107, List.forall_mem_cons.2 ⟨okT108, List.forall_mem_cons.2 ⟨okT109, List.forall_mem_cons.2 ⟨okT110, List.forall_mem_cons.2 ⟨okT111, List.forall_mem_cons.2 ⟨okT112, List.forall_mem_cons.2 ⟨okT113, List.forall_mem_cons.2 ⟨okT114, List.forall_mem_cons.2 ⟨okT115, List.forall_mem_cons.2 ⟨okT116, List.forall_mem_cons.2 ⟨okT117, List.forall_mem_cons.2 ⟨okT118, List.forall_mem_cons.2 ⟨okT119, List.forall_mem_cons.2 ⟨okT120, List.forall_mem_cons.2 ⟨okT121, List.forall_mem_cons.2 ⟨okT122, List.forall_mem_cons.2 ⟨okT123, List.forall_mem_cons.2 ⟨okT124, List.forall_mem_cons.2 ⟨okT125, List.forall_mem_cons.2 ⟨okT126, List.forall_mem_cons.2 ⟨okT127, List.forall_mem_cons.2 ⟨okT128, List.forall_mem_cons.2 ⟨okT129, List.forall_mem_cons.2 ⟨okT130, List.forall_mem_cons.2 ⟨okT131, List.forall_mem_cons.2 ⟨okT132, List.forall_mem_cons.2 ⟨okT133, List.forall_mem_cons.2 ⟨okT134, List.forall_mem_cons.2 ⟨okT135, List.forall_mem_cons.2 ⟨okT136, List.forall_mem_cons.2 ⟨okT137, List.forall_mem_cons.2 ⟨okT138, List.forall_mem_cons.2 ⟨okT139, List.forall_mem_cons.2 ⟨okT140, List.forall_mem_cons.2 ⟨okT141, List.forall_mem_cons.2 ⟨okT142, List.forall_mem_cons.2 ⟨okT143, List.forall_mem_cons.2 ⟨okT144, List.forall_mem_nil _⟩⟩⟩⟩⟩⟩⟩⟩⟩⟩⟩⟩⟩⟩⟩⟩⟩⟩⟩⟩⟩⟩⟩⟩⟩⟩⟩⟩⟩⟩⟩⟩⟩⟩⟩⟩⟩⟩⟩⟩⟩⟩⟩⟩⟩⟩⟩⟩⟩⟩⟩⟩⟩⟩⟩⟩⟩⟩⟩⟩⟩⟩⟩⟩⟩⟩⟩⟩⟩⟩⟩⟩⟩⟩⟩⟩⟩⟩⟩⟩⟩⟩⟩⟩⟩⟩⟩⟩⟩⟩⟩⟩⟩⟩⟩⟩⟩⟩⟩⟩⟩⟩⟩⟩⟩⟩⟩⟩⟩⟩⟩⟩⟩⟩⟩⟩⟩⟩⟩⟩⟩⟩⟩⟩⟩⟩⟩⟩⟩⟩⟩⟩⟩⟩⟩⟩⟩⟩⟩⟩⟩⟩⟩⟩⟩
def qP (n k : Nat) : Nat := fdiv .f32 (i2f .f32 (k : Int)) (i2f .f32 (n : Int))
theorem qP_mem : ∀ n, n < 17 → 3 ≤ n → ∀ k, k < n → qP n k ∈ ringL ∧ fadd .f32 (qP n k) 1048576000 ∈ ringL := by decide +kernel
def sinV (x : Nat) : Nat := (sineO x).getD 0
theorem F474_ok {x : Nat} (h : x ∈ ringL) : F474 [.flt x] = some [.flt (sinV x)] := by
  have h1 := ringL_ok x h
  unfold okT at h1
  rw [Bool.and_eq_true] at h1
  obtain ⟨z, hz⟩ := Option.isSome_iff_exists.1 h1.2
  unfold F474 sinV
  simp only [h1.1, hz, if_true, Option.map_some, Option.getD_some]
end Vs
