/-
  The volumes, one by one.
-/
import Derived.Test.YthgocnlbnghbbaaB1
namespace Vs
open Go

set_option maxRecDepth 100000 in
theorem o1_0 : ok1 0 = true := by decide +kernel
set_option maxRecDepth 100000 in
theorem o1_1 : ok1 1 = true := by decide +kernel
set_option maxRecDepth 100000 in
theorem o1_2 : ok1 2 = true := by decide +kernel
set_option maxRecDepth 100000 in
theorem o1_3 : ok1 3 = true := by decide +kernel
set_option maxRecDepth 100000 in
theorem o1_4 : ok1 4 = true := by decide +kernel
set_option maxRecDepth 100000 in
theorem o1_5 : ok1 5 = true := by decide +kernel
set_option maxRecDepth 100000 in
theorem o1_6 : ok1 6 = true := by decide +kernel
set_option maxRecDepth 100000 in
theorem o1_7 : ok1 7 = true := by decide +kernel
set_option maxRecDepth 100000 in
theorem o1_8 : ok1 8 = true := by decide +kernel
set_option maxRecDepth 100000 in
theorem o1_9 : ok1 9 = true := by decide +kernel
set_option maxRecDepth 100000 in
theorem o1_10 : ok1 10 = true := by decide +kernel
set_option maxRecDepth 100000 in
theorem o1_11 : ok1 11 = true := by decide +kernel
set_option maxRecDepth 100000 in
theorem o1_12 : ok1 12 = true := by decide +kernel
set_option maxRecDepth 100000 in
theorem o1_13 : ok1 13 = true := by decide +kernel
set_option maxRecDepth 100000 in
theorem o1_14 : ok1 14 = true := by decide +kernel
set_option maxRecDepth 100000 in
theorem o1_15 : ok1 15 = true := by decide +kernel
set_option maxRecDepth 100000 in
theorem o1_16 : ok1 16 = true := by decide +kernel
set_option maxRecDepth 100000 in
theorem o1_17 : ok1 17 = true := by decide +kernel
set_option maxRecDepth 100000 in
theorem o1_18 : ok1 18 = true := by decide +kernel
set_option maxRecDepth 100000 in
theorem o1_19 : ok1 19 = true := by decide +kernel
set_option maxRecDepth 100000 in
theorem o1_20 : ok1 20 = true := by decide +kernel
set_option maxRecDepth 100000 in
theorem o1_21 : ok1 21 = true := by decide +kernel
set_option maxRecDepth 100000 in
theorem o1_22 : ok1 22 = true := by decide +kernel
set_option maxRecDepth 100000 in
theorem o1_23 : ok1 23 = true := by decide +kernel
set_option maxRecDepth 100000 in
theorem o1_24 : ok1 24 = true := by decide +kernel
set_option maxRecDepth 100000 in
theorem o1_25 : ok1 25 = true := by decide +kernel
set_option maxRecDepth 100000 in
theorem o1_26 : ok1 26 = true := by decide +kernel
set_option maxRecDepth 100000 in
theorem o1_27 : ok1 27 = true := by decide +kernel
set_option maxRecDepth 100000 in
theorem o1_28 : ok1 28 = true := by decide +kernel
set_option maxRecDepth 100000 in
theorem o1_29 : ok1 29 = true := by decide +kernel
set_option maxRecDepth 100000 in
theorem o1_30 : ok1 30 = true := by decide +kernel
set_option maxRecDepth 100000 in
theorem o1_31 : ok1 31 = true := by decide +kernel
set_option maxRecDepth 100000 in
theorem o1_32 : ok1 32 = true := by decide +kernel
set_option maxRecDepth 100000 in
theorem o1_33 : ok1 33 = true := by decide +kernel
set_option maxRecDepth 100000 in
theorem o1_34 : ok1 34 = true := by decide +kernel
set_option maxRecDepth 100000 in
theorem o1_35 : ok1 35 = true := by decide +kernel
set_option maxRecDepth 100000 in
theorem o1_36 : ok1 36 = true := by decide +kernel
set_option maxRecDepth 100000 in
theorem o1_37 : ok1 37 = true := by decide +kernel
set_option maxRecDepth 100000 in
theorem o1_38 : ok1 38 = true := by decide +kernel
set_option maxRecDepth 100000 in
theorem o1_39 : ok1 39 = true := by decide +kernel
set_option maxRecDepth 100000 in
theorem o1_40 : ok1 40 = true := by decide +kernel
set_option maxRecDepth 100000 in
theorem o1_41 : ok1 41 = true := by decide +kernel
set_option maxRecDepth 100000 in
theorem o1_42 : ok1 42 = true := by decide +kernel
set_option maxRecDepth 100000 in
theorem o1_43 : ok1 43 = true := by decide +kernel
set_option maxRecDepth 100000 in
theorem o1_44 : ok1 44 = true := by decide +kernel
set_option maxRecDepth 100000 in
theorem o1_45 : ok1 45 = true := by decide +kernel
set_option maxRecDepth 100000 in
theorem o1_46 : ok1 46 = true := by decide +kernel
set_option maxRecDepth 100000 in
theorem o1_47 : ok1 47 = true := by decide +kernel
set_option maxRecDepth 100000 in
theorem o1_48 : ok1 48 = true := by decide +kernel
set_option maxRecDepth 100000 in
theorem o1_49 : ok1 49 = true := by decide +kernel
set_option maxRecDepth 100000 in
theorem o1_50 : ok1 50 = true := by decide +kernel
set_option maxRecDepth 100000 in
theorem o1_51 : ok1 51 = true := by decide +kernel
set_option maxRecDepth 100000 in
theorem o1_52 : ok1 52 = true := by decide +kernel
set_option maxRecDepth 100000 in
theorem o1_53 : ok1 53 = true := by decide +kernel
set_option maxRecDepth 100000 in
theorem o1_54 : ok1 54 = true := by decide +kernel
set_option maxRecDepth 100000 in
theorem o1_55 : ok1 55 = true := by decide +kernel
set_option maxRecDepth 100000 in
theorem o1_56 : ok1 56 = true := by decide +kernel
set_option maxRecDepth 100000 in
theorem o1_57 : ok1 57 = true := by decide +kernel
set_option maxRecDepth 100000 in
theorem o1_58 : ok1 58 = true := by decide +kernel
set_option maxRecDepth 100000 in
theorem o1_59 : ok1 59 = true := by decide +kernel
set_option maxRecDepth 100000 in
theorem o1_60 : ok1 60 = true := by decide +kernel
set_option maxRecDepth 100000 in
theorem o1_61 : ok1 61 = true := by decide +kernel
set_option maxRecDepth 100000 in
theorem o1_62 : ok1 62 = true := by decide +kernel
set_option maxRecDepth 100000 in
theorem o1_63 : ok1 63 = true := by decide +kernel
theorem ok1_all : ∀ i, i < 64 → ok1 i = true
  | 0, _ => o1_0
  | 1, _ => o1_1
  | 2, _ => o1_2
  | 3, _ => o1_3
  | 4, _ => o1_4
  | 5, _ => o1_5
  | 6, _ => o1_6
  | 7, _ => o1_7
  | 8, _ => o1_8
  | 9, _ => o1_9
  | 10, _ => o1_10
  | 11, _ => o1_11
  | 12, _ => o1_12
  | 13, _ => o1_13
  | 14, _ => o1_14
  | 15, _ => o1_15
  | 16, _ => o1_16
  | 17, _ => o1_17
  | 18, _ => o1_18
  | 19, _ => o1_19
  | 20, _ => o1_20
  | 21, _ => o1_21
  | 22, _ => o1_22
  | 23, _ => o1_23
  | 24, _ => o1_24
  | 25, _ => o1_25
  | 26, _ => o1_26
  | 27, _ => o1_27
  | 28, _ => o1_28
  | 29, _ => o1_29
  | 30, _ => o1_30
  | 31, _ => o1_31
  | 32, _ => o1_32
  | 33, _ => o1_33
  | 34, _ => o1_34
  | 35, _ => o1_35
  | 36, _ => o1_36
  | 37, _ => o1_37
  | 38, _ => o1_38
  | 39, _ => o1_39
  | 40, _ => o1_40
  | 41, _ => o1_41
  | 42, _ => o1_42
  | 43, _ => o1_43
  | 44, _ => o1_44
  | 45, _ => o1_45
  | 46, _ => o1_46
  | 47, _ => o1_47
  | 48, _ => o1_48
  | 49, _ => o1_49
  | 50, _ => o1_50
  | 51, _ => o1_51
  | 52, _ => o1_52
  | 53, _ => o1_53
  | 54, _ => o1_54
  | 55, _ => o1_55
  | 56, _ => o1_56
  | 57, _ => o1_57
  | 58, _ => o1_58
  | 59, _ => o1_59
  | 60, _ => o1_60
  | 61, _ => o1_61
  | 62, _ => o1_62
  | 63, _ => o1_63
  | n + 64, h => by omega

end Vs
