/-
  Splits: the law.
-/
import Derived.Test.YtaakjnkllodchaaGreatK52
import Derived.Test.YtaakjnkllodchaaGreatK55
import Derived.Test.YtaakjnkllodchaaGreatK59
import Derived.Test.YtaakjnkllodchaaGreatFe7
import Derived.Test.YtaakjnkllodchaaGreatK37
set_option maxHeartbeats 4000000
namespace Vs
open Go Go.Sort Ieee
open Classical in
noncomputable def F575 : List D → Option (List D)
 | [a, b] => (dI a).bind fun l => (dI b).bind fun m => if bytes l ∧ bytes m then some [.bool true] else none
 | _ => none
def T575 : T :=
(cc 220 [0, 1] 1 <|
.ite 2
 (.out 0 [kT])
 (cc 221 [1, kI 0, kI 5] 1 <|
 cc 544 [3] 2 <|
 cc 543 [0, 4, 5] 2 <|
 cc 553 [6, 7] 2 <|
 oo .bnot [9] <|
 oN 10 .len [8] <|
 oN 10 (.icm .eql) [11, kI 0] <|
 oo .pick [10, kT, 12] <|
 .ite 13
  (.out 0 [kN])
  (oo .len [8] <|
  cc 221 [1, kI 1, 14] 1 <|
  oo .idx [8, 15] <|
  oo .idx [8, 15] <|
  oo .idx [17, kI 0] <|
  oo .idx [17, kI 0] <|
  oo .len [8] <|
  cc 221 [1, kI 1, 20] 1 <|
  oo .idx [8, 21] <|
  oo .idx [8, 21] <|
  oo .idx [23, kI 1] <|
  oo .idx [23, kI 1] <|
  cc 555 [6, 7, 19, 25] 2 <|
  cc 422 [6, 7, 19, 25, kF 1048576000] 3 <|
  oo .len [6] <|
  oo .bnot [27] <|
  oN 32 .id [30] <|
  oN 32 .bnot [33] <|
  oo .pick [32, kT, 34] <|
  cN 35 403 [28, 29] 1 <|
  oN 35 .bnot [36] <|
  oo .pick [35, kT, 37] <|
  oN 38 .len [28] <|
  oN 38 .id [31] <|
  oN 38 (.iar .add .i64) [40, kI 1] <|
  oN 38 (.icm .neq) [39, 41] <|
  oo .pick [38, kT, 42] <|
  oN 43 .len [29] <|
  oN 43 .len [7] <|
  oN 43 .len [26] <|
  oN 43 (.iar .add .i64) [45, 46] <|
  oN 43 (.icm .neq) [44, 47] <|
  oo .pick [43, kT, 48] <|
  .ite 49
   (.out 0 [kN])
   (cc 445 [6, 7] 2 <|
   cc 445 [28, 29] 2 <|
   cc 576 [6, 7] 2 <|
   cc 576 [28, 29] 2 <|
   cc 444 [28, 29, 19, 31] 3 <|
   cc 553 [58, 59] 2 <|
   oo .bnot [51] <|
   oN 63 .id [53] <|
   oN 63 .bnot [64] <|
   oo .pick [63, kT, 65] <|
   oN 66 .id [55] <|
   oN 66 .bnot [67] <|
   oo .pick [66, kT, 68] <|
   oN 69 .id [57] <|
   oN 69 .bnot [70] <|
   oo .pick [69, kT, 71] <|
   oN 72 .id [60] <|
   oN 72 .bnot [73] <|
   oo .pick [72, kT, 74] <|
   oN 75 .id [62] <|
   oN 75 .bnot [76] <|
   oo .pick [75, kT, 77] <|
   oN 78 .id [50] <|
   oN 78 .id [52] <|
   oN 78 (.icm .neq) [79, 80] <|
   oo .pick [78, kT, 81] <|
   oN 82 .id [54] <|
   oN 82 (.f2f .f32 .f64) [83] <|
   oN 82 .id [56] <|
   oN 82 (.f2f .f32 .f64) [85] <|
   cN 82 231 [84, 86] 1 <|
   oN 82 .id [54] <|
   oN 82 (.f2f .f32 .f64) [88] <|
   oN 82 (.far .add .f64) [kF 4607182418800017408, 89] <|
   oN 82 (.far .mul .f64) [kF 4562254508917369340, 90] <|
   oN 82 (.fcm .gtr .f64) [87, 91] <|
   oo .pick [82, kT, 92] <|
   cN 93 557 [61, 8] 1 <|
   oN 93 .bnot [94] <|
   oo .pick [93, kT, 95] <|
   oN 96 .len [58] <|
   oN 96 .len [6] <|
   oN 96 (.icm .neq) [97, 98] <|
   oo .pick [96, kT, 99] <|
   .ite 100
    (.out 0 [kN])
    (.join 4
     (.loop [kI 0]
      (oo .len [6] <|
      oo (.icm .lss) [101, 102] <|
      .ite 103
       (oo .idx [58, 101] <|
       oo .idx [58, 101] <|
       oo (.proj 0) [105] <|
       oo (.proj 1) [105] <|
       oo (.proj 2) [105] <|
       oo .idx [6, 101] <|
       oo .idx [6, 101] <|
       oo (.proj 0) [110] <|
       oo (.proj 1) [110] <|
       oo (.proj 2) [110] <|
       cc 565 [106, 107, 108, 111, 112, 113] 1 <|
       oo .bnot [114] <|
       .ite 115
        (.out 2 [kN])
        (oo (.iar .add .i64) [101, kI 1] <|
        .out 0 [116]))
       (.out 1 [101, 101, 102, 103])))
    (cc 444 [6, 7, 19, 25] 3 <|
    cc 443 [6, 7, 19, 25] 1 <|
    oo .bne [107, 108] <|
    .ite 109
     (.out 0 [kN])
     (cc 445 [105, 106] 2 <|
     oo .bnot [107] <|
     oN 112 .id [111] <|
     oN 112 .id [113] <|
     cT 114 403 [105, 106] 1 <|
     oN 112 .pick [114, 115, kN] <|
     oN 112 .id [116] <|
     oT 117 .id [110] <|
     oT 117 .id [50] <|
     oT 117 (.icm .eql) [118, 119] <|
     oN 112 .pick [117, 120, kN] <|
     oN 112 .id [121] <|
     oT 122 .len [105] <|
     oT 122 .id [31] <|
     oT 122 (.iar .sub .i64) [124, kI 1] <|
     oT 122 (.icm .eql) [123, 125] <|
     oN 112 .pick [122, 126, kN] <|
     oo .pick [112, kT, 127] <|
     .out 0 [128])))))))
def S575L0 (G : Told) (e6 : List D) (e58 : List D) : List D → Option (Nat × List D) := fun e101 =>
       (gev none .len [e6.getD 0 .undef]).bind fun x102 =>
       (gev none (.icm .lss) [e101.getD 0 .undef, x102]).bind fun x103 =>
       tif x103 (
        (gev none .idx [e58.getD 0 .undef, e101.getD 0 .undef]).bind fun _x104 =>
        (gev none .idx [e58.getD 0 .undef, e101.getD 0 .undef]).bind fun x105 =>
        (gev none (.proj 0) [x105]).bind fun x106 =>
        (gev none (.proj 1) [x105]).bind fun x107 =>
        (gev none (.proj 2) [x105]).bind fun x108 =>
        (gev none .idx [e6.getD 0 .undef, e101.getD 0 .undef]).bind fun _x109 =>
        (gev none .idx [e6.getD 0 .undef, e101.getD 0 .undef]).bind fun x110 =>
        (gev none (.proj 0) [x110]).bind fun x111 =>
        (gev none (.proj 1) [x110]).bind fun x112 =>
        (gev none (.proj 2) [x110]).bind fun x113 =>
        (gcall G none 565 [x106, x107, x108, x111, x112, x113] 1).bind fun e114 =>
        (gev none .bnot [e114.getD 0 .undef]).bind fun x115 =>
        tif x115 (
         some (2, [.bool false])) (
         (gev none (.iar .add .i64) [e101.getD 0 .undef, .int 1]).bind fun x116 =>
         some (0, [x116]))) (
        some (1, [e101.getD 0 .undef, e101.getD 0 .undef, x102, x103]))
def S575 (G : Told) (fuel : Nat) (x0 x1 : D) : Option (Nat × List D) :=
 (gcall G none 220 [x0, x1] 1).bind fun e2 =>
 tif (e2.getD 0 .undef) (
  some (0, [.bool true])) (
  (gcall G none 221 [x1, .int 0, .int 5] 1).bind fun e3 =>
  (gcall G none 544 [e3.getD 0 .undef] 2).bind fun e4 =>
  (gcall G none 543 [x0, e4.getD 0 .undef, e4.getD 1 .undef] 2).bind fun e6 =>
  (gcall G none 553 [e6.getD 0 .undef, e6.getD 1 .undef] 2).bind fun e8 =>
  (gev none .bnot [e8.getD 1 .undef]).bind fun x10 =>
  (gev (some (x10, false)) .len [e8.getD 0 .undef]).bind fun x11 =>
  (gev (some (x10, false)) (.icm .eql) [x11, .int 0]).bind fun x12 =>
  (gev none .pick [x10, .bool true, x12]).bind fun x13 =>
  tif x13 (
   some (0, [.bool false])) (
   (gev none .len [e8.getD 0 .undef]).bind fun x14 =>
   (gcall G none 221 [x1, .int 1, x14] 1).bind fun e15 =>
   (gev none .idx [e8.getD 0 .undef, e15.getD 0 .undef]).bind fun _x16 =>
   (gev none .idx [e8.getD 0 .undef, e15.getD 0 .undef]).bind fun x17 =>
   (gev none .idx [x17, .int 0]).bind fun _x18 =>
   (gev none .idx [x17, .int 0]).bind fun x19 =>
   (gev none .len [e8.getD 0 .undef]).bind fun x20 =>
   (gcall G none 221 [x1, .int 1, x20] 1).bind fun e21 =>
   (gev none .idx [e8.getD 0 .undef, e21.getD 0 .undef]).bind fun _x22 =>
   (gev none .idx [e8.getD 0 .undef, e21.getD 0 .undef]).bind fun x23 =>
   (gev none .idx [x23, .int 1]).bind fun _x24 =>
   (gev none .idx [x23, .int 1]).bind fun x25 =>
   (gcall G none 555 [e6.getD 0 .undef, e6.getD 1 .undef, x19, x25] 2).bind fun e26 =>
   (gcall G none 422 [e6.getD 0 .undef, e6.getD 1 .undef, x19, x25, .flt 1048576000] 3).bind fun e28 =>
   (gev none .len [e6.getD 0 .undef]).bind fun x31 =>
   (gev none .bnot [e26.getD 1 .undef]).bind fun x32 =>
   (gev (some (x32, false)) .id [e28.getD 2 .undef]).bind fun x33 =>
   (gev (some (x32, false)) .bnot [x33]).bind fun x34 =>
   (gev none .pick [x32, .bool true, x34]).bind fun x35 =>
   (gcall G (some (x35, false)) 403 [e28.getD 0 .undef, e28.getD 1 .undef] 1).bind fun e36 =>
   (gev (some (x35, false)) .bnot [e36.getD 0 .undef]).bind fun x37 =>
   (gev none .pick [x35, .bool true, x37]).bind fun x38 =>
   (gev (some (x38, false)) .len [e28.getD 0 .undef]).bind fun x39 =>
   (gev (some (x38, false)) .id [x31]).bind fun x40 =>
   (gev (some (x38, false)) (.iar .add .i64) [x40, .int 1]).bind fun x41 =>
   (gev (some (x38, false)) (.icm .neq) [x39, x41]).bind fun x42 =>
   (gev none .pick [x38, .bool true, x42]).bind fun x43 =>
   (gev (some (x43, false)) .len [e28.getD 1 .undef]).bind fun x44 =>
   (gev (some (x43, false)) .len [e6.getD 1 .undef]).bind fun x45 =>
   (gev (some (x43, false)) .len [e26.getD 0 .undef]).bind fun x46 =>
   (gev (some (x43, false)) (.iar .add .i64) [x45, x46]).bind fun x47 =>
   (gev (some (x43, false)) (.icm .neq) [x44, x47]).bind fun x48 =>
   (gev none .pick [x43, .bool true, x48]).bind fun x49 =>
   tif x49 (
    some (0, [.bool false])) (
    (gcall G none 445 [e6.getD 0 .undef, e6.getD 1 .undef] 2).bind fun e50 =>
    (gcall G none 445 [e28.getD 0 .undef, e28.getD 1 .undef] 2).bind fun e52 =>
    (gcall G none 576 [e6.getD 0 .undef, e6.getD 1 .undef] 2).bind fun e54 =>
    (gcall G none 576 [e28.getD 0 .undef, e28.getD 1 .undef] 2).bind fun e56 =>
    (gcall G none 444 [e28.getD 0 .undef, e28.getD 1 .undef, x19, x31] 3).bind fun e58 =>
    (gcall G none 553 [e58.getD 0 .undef, e58.getD 1 .undef] 2).bind fun e61 =>
    (gev none .bnot [e50.getD 1 .undef]).bind fun x63 =>
    (gev (some (x63, false)) .id [e52.getD 1 .undef]).bind fun x64 =>
    (gev (some (x63, false)) .bnot [x64]).bind fun x65 =>
    (gev none .pick [x63, .bool true, x65]).bind fun x66 =>
    (gev (some (x66, false)) .id [e54.getD 1 .undef]).bind fun x67 =>
    (gev (some (x66, false)) .bnot [x67]).bind fun x68 =>
    (gev none .pick [x66, .bool true, x68]).bind fun x69 =>
    (gev (some (x69, false)) .id [e56.getD 1 .undef]).bind fun x70 =>
    (gev (some (x69, false)) .bnot [x70]).bind fun x71 =>
    (gev none .pick [x69, .bool true, x71]).bind fun x72 =>
    (gev (some (x72, false)) .id [e58.getD 2 .undef]).bind fun x73 =>
    (gev (some (x72, false)) .bnot [x73]).bind fun x74 =>
    (gev none .pick [x72, .bool true, x74]).bind fun x75 =>
    (gev (some (x75, false)) .id [e61.getD 1 .undef]).bind fun x76 =>
    (gev (some (x75, false)) .bnot [x76]).bind fun x77 =>
    (gev none .pick [x75, .bool true, x77]).bind fun x78 =>
    (gev (some (x78, false)) .id [e50.getD 0 .undef]).bind fun x79 =>
    (gev (some (x78, false)) .id [e52.getD 0 .undef]).bind fun x80 =>
    (gev (some (x78, false)) (.icm .neq) [x79, x80]).bind fun x81 =>
    (gev none .pick [x78, .bool true, x81]).bind fun x82 =>
    (gev (some (x82, false)) .id [e54.getD 0 .undef]).bind fun x83 =>
    (gev (some (x82, false)) (.f2f .f32 .f64) [x83]).bind fun x84 =>
    (gev (some (x82, false)) .id [e56.getD 0 .undef]).bind fun x85 =>
    (gev (some (x82, false)) (.f2f .f32 .f64) [x85]).bind fun x86 =>
    (gcall G (some (x82, false)) 231 [x84, x86] 1).bind fun e87 =>
    (gev (some (x82, false)) .id [e54.getD 0 .undef]).bind fun x88 =>
    (gev (some (x82, false)) (.f2f .f32 .f64) [x88]).bind fun x89 =>
    (gev (some (x82, false)) (.far .add .f64) [.flt 4607182418800017408, x89]).bind fun x90 =>
    (gev (some (x82, false)) (.far .mul .f64) [.flt 4562254508917369340, x90]).bind fun x91 =>
    (gev (some (x82, false)) (.fcm .gtr .f64) [e87.getD 0 .undef, x91]).bind fun x92 =>
    (gev none .pick [x82, .bool true, x92]).bind fun x93 =>
    (gcall G (some (x93, false)) 557 [e61.getD 0 .undef, e8.getD 0 .undef] 1).bind fun e94 =>
    (gev (some (x93, false)) .bnot [e94.getD 0 .undef]).bind fun x95 =>
    (gev none .pick [x93, .bool true, x95]).bind fun x96 =>
    (gev (some (x96, false)) .len [e58.getD 0 .undef]).bind fun x97 =>
    (gev (some (x96, false)) .len [e6.getD 0 .undef]).bind fun x98 =>
    (gev (some (x96, false)) (.icm .neq) [x97, x98]).bind fun x99 =>
    (gev none .pick [x96, .bool true, x99]).bind fun x100 =>
    tif x100 (
     some (0, [.bool false])) (
     tjoin 4 (
      iter (tbody 1 (S575L0 G e6 e58)) fuel [.int 0]) fun _e101 =>
     (gcall G none 444 [e6.getD 0 .undef, e6.getD 1 .undef, x19, x25] 3).bind fun e105 =>
     (gcall G none 443 [e6.getD 0 .undef, e6.getD 1 .undef, x19, x25] 1).bind fun e108 =>
     (gev none .bne [e105.getD 2 .undef, e108.getD 0 .undef]).bind fun x109 =>
     tif x109 (
      some (0, [.bool false])) (
      (gcall G none 445 [e105.getD 0 .undef, e105.getD 1 .undef] 2).bind fun e110 =>
      (gev none .bnot [e105.getD 2 .undef]).bind fun x112 =>
      (gev (some (x112, false)) .id [e110.getD 1 .undef]).bind fun x113 =>
      (gev (some (x112, false)) .id [x113]).bind fun x114 =>
      (gcall G (some (x114, true)) 403 [e105.getD 0 .undef, e105.getD 1 .undef] 1).bind fun e115 =>
      (gev (some (x112, false)) .pick [x114, e115.getD 0 .undef, .bool false]).bind fun x116 =>
      (gev (some (x112, false)) .id [x116]).bind fun x117 =>
      (gev (some (x117, true)) .id [e110.getD 0 .undef]).bind fun x118 =>
      (gev (some (x117, true)) .id [e50.getD 0 .undef]).bind fun x119 =>
      (gev (some (x117, true)) (.icm .eql) [x118, x119]).bind fun x120 =>
      (gev (some (x112, false)) .pick [x117, x120, .bool false]).bind fun x121 =>
      (gev (some (x112, false)) .id [x121]).bind fun x122 =>
      (gev (some (x122, true)) .len [e105.getD 0 .undef]).bind fun x123 =>
      (gev (some (x122, true)) .id [x31]).bind fun x124 =>
      (gev (some (x122, true)) (.iar .sub .i64) [x124, .int 1]).bind fun x125 =>
      (gev (some (x122, true)) (.icm .eql) [x123, x125]).bind fun x126 =>
      (gev (some (x112, false)) .pick [x122, x126, .bool false]).bind fun x127 =>
      (gev none .pick [x112, .bool true, x127]).bind fun x128 =>
      some (0, [x128]))))))
theorem eq575 {G fuel} (x0 x1) : run G fuel T575 [x0, x1] = S575 G fuel x0 x1 := by rw [run_eq]; kernel_rfl
section
variable {x d : D} {b w : Bool} {p : Prim} {xs : List D} {X : Option (Nat × List D)} {K : D → Option (Nat × List D)}
theorem sI (k : K x = X) : (gev (some (.bool false, false)) .id [x]).bind K = X := st_some (g_ff.trans p_id) k
theorem sT (k : K x = X) : (gev (some (.bool true, true)) .id [x]).bind K = X := st_some (g_tt.trans p_id) k
theorem sN (k : K (.bool !b) = X) : (gev (some (.bool false, false)) .bnot [.bool b]).bind K = X := st_some (g_ff.trans p_bnot) k
theorem sP (k : K d = X) : (gev none .pick [.bool false, x, d]).bind K = X := st_some p_pf k
theorem sU (k : K .undef = X) : (gev (some (.bool true, false)) p xs).bind K = X := st_some g_tf k
theorem sV (k : K .undef = X) : (gev (some (.undef, w)) p xs).bind K = X := st_some g_u k
end
theorem joinV_last (vs : List V3) (v : V3) : joinV (vs ++ [v]) (vs.length : Int) = vs := by
 unfold joinV
 rw [Int.toNat_natCast]
 simp
theorem back_ok {n : Nat} {ts : List (List Int)} {p q : Int} (hv : validP n ts = true) (hs : sheetP ts = true) (ht : twinB ts = false) (hn : n + 1 ≤ 64) (hl : ts.length ≤ 100) (hpq : p ≠ q) (hat : (atL ts p q).length ≠ 0) (hp : inr n p = true) (h : bckOk n ts (p, q) = true) :
  validP (n + 1) (splT ts p q n) = true ∧ sheetP (splT ts p q n) = true ∧ (splT ts p q n).length = ts.length + (atL ts p q).length ∧ eulP (n + 1) (splT ts p q n) = eulP n ts ∧ (splT ts p q n).length ≤ 102 ∧
  (pairP (n + 1) (splT ts p q n) p n && okJ (n + 1) (splT ts p q n) p n) = true ∧ validP n (joinT (splT ts p q n) p n) = true ∧ edgL (joinT (splT ts p q n) p n) n = edgL ts n ∧ (joinT (splT ts p q n) p n).length ≤ 102 := by
 obtain ⟨a1, ⟨a2, a3⟩, a4, a5⟩ := spl_main hv hs ht hpq hat
 have a6 := splN_len2 ts p q n (atL ts p q).length
 rw [show splN ts p q n (atL ts p q).length = splT ts p q n from rfl] at a6
 have a7 := valid_of a1 hn (by omega)
 unfold bckOk at h
 simp only [Bool.and_eq_true, bne_iff_ne, ne_eq, Bool.not_eq_true', decide_eq_false_iff_not, decide_eq_true_eq, beq_iff_eq] at h
 obtain ⟨h1, h2, h3, h4, h5, h6, h7, h8, h9, h10⟩ := h
 obtain ⟨i0, i1⟩ := inr_iff'.1 hp
 have hpair : pairP (n + 1) (splT ts p q n) p n = true := by
  unfold pairP;rw [a7, a2, show inr ((n + 1 : Nat) : Int) p = true from inr_iff'.2 ⟨i0, by omega⟩, show inr ((n + 1 : Nat) : Int) (n : Int) = true from inr_iff'.2 ⟨by omega, by omega⟩]
  simp only [Bool.and_self, Bool.true_and, bne_iff_ne, ne_eq];omega
 have hok : okJ (n + 1) (splT ts p q n) p n = true := by rw [okJ_eq, decide_eq_false h4, decide_eq_false h5, h6, twinB_iff.2 h7, Nat.add_sub_cancel, h9, a3, beq_self_eq_true];rfl
 refine ⟨a7, a2, a6, a3, by omega, by rw [hpair, hok]; rfl, h8, h10, ?_⟩
 have := join_len (splT ts p q n) p n
 omega
theorem p_fmul8 {x y : Nat} : gev none (.far .mul .f64) [.flt x, .flt y] = some (.flt (fmul .f64 x y)) := rfl
theorem p_fadd8 {x y : Nat} : gev none (.far .add .f64) [.flt x, .flt y] = some (.flt (fadd .f64 x y)) := rfl
theorem p_fgtr8 {x y : Nat} : gev none (.fcm .gtr .f64) [.flt x, .flt y] = some (.bool (fgt .f64 x y)) := rfl
theorem form_63 : ∀ k : Fin 5, (formT k.1).length ≤ 40 ∧ (formV k.1).length ≤ 60 := by decide +kernel
theorem edg_ne {n : Nat} {ts : List (List Int)} {p q : Int} (hv : validP n ts = true) (hm : (p, q) ∈ edgL ts n) (hpq : p ≠ q) : (atL ts p q).length ≠ 0 := by
 have hT := triOk_of hv
 obtain ⟨a, b, _, _, hab, _, e⟩ := (edgN_mem ts n n (p, q)).1 hm
 simp only [Prod.mk.injEq] at e
 obtain ⟨rfl, rfl⟩ := e
 have he : uE (a : Int) b = ((a : Int), (b : Int)) := uE_lt (by omega)
 rw [← he, edg_at hT] at hm
 intro h0
 have h1 : atL ts (a : Int) b = [] := List.length_eq_zero_iff.1 h0
 rcases hm with hm | hm
 ·have := List.count_pos_iff.2 hm
  rw [count_way hT _ _ _ (Nat.le_refl _), show atN ts (a : Int) b ts.length = [] from h1] at this
  simp at this
 ·have := List.count_pos_iff.2 hm
  rw [count_rev hT hpq, h1] at this;simp at this
theorem area_ok {vs : List V3} {ts : List (List Int)} (h : ∀ v ∈ vs, vR v) (hv : validP vs.length ts = true) (hl : ts.length ≤ 49) :
  near ((ts.length : Rat) * (1 / 8000000) * arS (arR vs) ts) (fr .f32 (areaN vs ts ts.length)) (arS (arR vs) ts) ∧ rk .f32 (areaN vs ts ts.length) ≤ 2046820352 ∧ sgn single (areaN vs ts ts.length) = false ∧ 0 ≤ arS (arR vs) ts := by
 have hf := tri_fin h (triOk_of hv)
 obtain ⟨a1, a2, a3⟩ := area_e hf ts.length (Nat.le_refl _) hl
 rw [List.take_length] at a1
 exact ⟨a1, by omega, a3, arS_nn fun t ht => fr_nn (hf t ht).2⟩
attribute [local irreducible] tif tjoin IntKind.wrap il tl vl F220 F221 F543 F544 F553 F555 F422 F403 F445 F576 F444 F443 F231 F557 F565 formV formT mvA eulP validP sheetP splT joinT joinV edgL areaN pairP okJ goodS atL midV

theorem loop575 {G : Told} (g565 : G 565 = F565) {vs : List V3} (hf : ∀ v ∈ vs, finV v) (hl : vs.length ≤ 64) {a b c : D} : iter (tbody 1 (S575L0 G [vl vs, a] [vl vs, b, c])) (vs.length + 1) [.int 0] = some (0, [.int (vs.length : Int), .int (vs.length : Int), .int (vs.length : Int), .bool false]) := by
 have hz := iter_upto (body := tbody 1 (S575L0 G [vl vs, a] [vl vs, b, c])) (n := vs.length) (l := 0) (ds := [.int (vs.length : Int), .int (vs.length : Int), .int (vs.length : Int), .bool false]) (fun i => [.int (i : Int)]) ?_ ?_
 ·simpa using hz
 ·intro i hi
  refine tb rfl ?_;have hx := idx_vl hi;unfold S575L0;refine st_some len_vl ?_;refine st_some (lss_t (by omega)) ?_
  refine st_ift ?_;refine st_some hx ?_;refine st_some hx ?_;refine st_some p_v0 ?_;refine st_some p_v1 ?_;refine st_some p_v2 ?_;refine st_some hx ?_;refine st_some hx ?_;refine st_some p_v0 ?_;refine st_some p_v1 ?_;refine st_some p_v2 ?_;refine st_some (gcall_on g565 rfl (F565_m (hf _ (List.getElem_mem hi))) rfl) ?_;refine st_some p_bnot ?_;refine st_iff ?_;exact st_some (add1n (by omega)) rfl
 ·refine tb rfl ?_
  unfold S575L0;refine st_some len_vl ?_;refine st_some (lss_f (by omega)) ?_
  exact st_iff rfl
theorem run575 {G : Told} (g220 : G 220 = F220) (g221 : G 221 = F221) (g231 : G 231 = F231) (g403 : G 403 = F403) (g422 : G 422 = F422) (g443 : G 443 = F443) (g444 : G 444 = F444) (g445 : G 445 = F445) (g543 : G 543 = F543) (g544 : G 544 = F544) (g553 : G 553 = F553) (g555 : G 555 = F555) (g557 : G 557 = F557) (g565 : G 565 = F565) (g576 : G 576 = F576) :
  ∀ ds rs, F575 ds = some rs → ∃ fuel, run G fuel T575 ds = some (0, rs) := by
 intro ds rs h
 unfold F575 at h
 split at h
 case h_2 => cases h
 rename_i x y
 obtain ⟨l, ha, h⟩ := Option.bind_eq_some_iff.1 h
 obtain ⟨m, hb, h⟩ := Option.bind_eq_some_iff.1 h
 rw [dI_inv ha, dI_inv hb]
 split at h
 case isFalse => cases h
 rename_i hc
 simp only [Option.some.injEq] at h
 subst h
 clear ha hb
 obtain ⟨hl, hm⟩ := hc
 have hL : gcall G none 220 [il l, il m] 1 = _ := gcall_on g220 rfl F220_m rfl
 cases hlong : (decide (l.length > 48) || decide (m.length > 48))
 case true =>
  rw [hlong] at hL;refine ⟨0, ?_⟩;rw [eq575];unfold S575;refine st_some hL ?_;exact st_ift rfl
 rw [hlong] at hL
 have b0 := atP_lt (l := m) (k := 0) (n := 5) (by omega)
 have c0 : gcall G none 221 [il m, .int 0, .int 5] 1 = some [.int (atP m 0 5 : Nat)] := gcall_on g221 rfl (F221_m (k := 0) (n := 5) hm (by omega)) rfl
 generalize atP m 0 5 = k at b0 c0
 have hF : F544 [.int (k : Int)] = some [vl (formV k), tl (formT k)] := by
  have e : F544 [.int (k : Int)] = if 0 ≤ (k : Int) ∧ (k : Int) ≤ 4 then some [vl (formV (k : Int).toNat), tl (formT (k : Int).toNat)] else none := by with_unfolding_all rfl
  rw [e, if_pos ⟨by omega, by omega⟩, Int.toNat_natCast]
 have hsz0 := szF k
 have c4 : gcall G none 543 [il l, vl (formV k), tl (formT k)] 2 = some [vl (mvA l (formV k)), tl (formT k)] := gcall_on g543 rfl (F543_m hl (show szM _ _ ≤ 1048576 by unfold szM; omega) (by omega)) rfl
 have hlen : (mvA l (formV k)).length = (formV k).length := by with_unfolding_all exact mvN_len l (formV k) _
 have hok := form_ok k
 have hbk := form_back k
 have htw := form_tw5 b0
 have h63 := form_63 ⟨k, b0⟩
 simp only at h63
 rw [← hlen] at hok hbk h63
 have hg := mv_g hl k
 have hszv : szM (mvA l (formV k)) (formT k) ≤ 1000 := by unfold szM; omega
 generalize mvA l (formV k) = vs at *
 generalize formT k = ts at *
 simp only [formOk, Bool.and_eq_true, decide_eq_true_eq] at hok
 obtain ⟨⟨hv, hsh⟩, h2⟩ := hok
 have hfin : ∀ v ∈ vs, finV v := fun v hm => by obtain ⟨_, q1, q2, q3⟩ := hg v hm;exact ⟨fin_of q1 (by decide), fin_of q2 (by decide), fin_of q3 (by decide)⟩
 have hBv : ∀ v ∈ vs, vB 1077936128 v := fun v hm => (hg v hm).2
 have hel : (etl (edgL ts vs.length)).length = (edgL ts vs.length).length := etl_len _
 have hi : atP m 1 (edgL ts vs.length).length < (edgL ts vs.length).length := atP_lt (by omega)
 have hat : gcall G none 221 [il m, .int 1, .int ((edgL ts vs.length).length : Int)] 1 = some [.int (atP m 1 (edgL ts vs.length).length : Nat)] := gcall_on g221 rfl (F221_m (k := 1) hm h2) rfl
 generalize atP m 1 (edgL ts vs.length).length = i at hi hat
 obtain ⟨p, q, hpq, hr, hne, hix⟩ := edg_get hi
 have hmem : (p, q) ∈ edgL ts vs.length := by rw [← hpq, List.getD_eq_getElem?_getD, List.getElem?_eq_getElem hi];exact List.getElem_mem hi
 have hE := List.all_eq_true.1 hbk _ hmem
 simp only [Bool.and_eq_true] at hr
 have hane := edg_ne hv hmem hne
 obtain ⟨i1, i2⟩ := inr_iff'.1 hr.1
 obtain ⟨j1, j2⟩ := inr_iff'.1 hr.2
 obtain ⟨k1, k2, k3, k4, k5, k6, k7, k8, k9⟩ := back_ok hv hsh htw (by omega) (by omega) hne hane hr.1 hE
 have hpair : pairP vs.length ts p q = true := by
  have e : pairP vs.length ts p q = (validP vs.length ts && sheetP ts && inr vs.length p && inr vs.length q && (p != q)) := by with_unfolding_all rfl
  rw [e, hv, hsh, hr.1, hr.2];simpa using hne
 have hlu : (vs ++ [midV vs p q 1048576000]).length = vs.length + 1 := by simp
 obtain ⟨hR, _, _⟩ := mid_RR hBv ⟨i1, i2⟩ ⟨j1, j2⟩
 have hA := spl_area hBv hv hsh htw ⟨i1, i2⟩ ⟨j1, j2⟩ hne hane
 have hat2 : (atL ts p q).length ≤ 2 := by have := (spl_main hv hsh htw hne hane).2.2.2;omega
 obtain ⟨x1, x2, x3, x4⟩ := area_ok (fun v hm => (vR_of (hBv v hm)).1) hv (by omega)
 obtain ⟨y1, y2, y3, y4⟩ := area_ok hR (by rw [hlu]; exact k1) (by omega)
 have cn : ∀ n : Nat, n ≤ 49 → (n : Rat) ≤ 49 := fun n hn => by exact_mod_cast hn
 obtain ⟨g, hg1, hg2⟩ := gap_ok x2 y2 x3 (area_gap (cn _ (by omega)) (cn _ (by omega)) x4 y4 x1 y1 hA)
 have hsz1 : szM (vs ++ [midV vs p q 1048576000]) (splT ts p q vs.length) ≤ 1000 := by have t1 := totL_all (tri3 k1);unfold szM at hszv ⊢;rw [hlu];omega
 have hsz2 : szM vs (joinT (splT ts p q vs.length) p vs.length) ≤ 1000 := by have t1 := totL_all (tri3 k7);unfold szM at hszv ⊢;omega
 have c6 : gcall G none 553 [vl vs, tl ts] 2 = some [tl (etl (edgL ts vs.length)), .bool true] := gcall_on g553 rfl (F553_m (by omega) hv) rfl
 have c7 : gcall G none 555 [vl vs, tl ts, .int p, .int q] 2 = some [il (atL ts p q), .bool true] := gcall_on g555 rfl (F555_m (by omega) hv hr.1 hr.2 hne) rfl
 have hgs : goodS vs.length ts p q = true := by
  have e : goodS vs.length ts p q = (!decide ((atL ts p q).length = 0) && (validP (vs.length + 1) (splT ts p q vs.length) && sheetP (splT ts p q vs.length))) := by with_unfolding_all rfl
  rw [e, k1, k2, decide_eq_false hane];rfl
 have c8 : gcall G none 422 [vl vs, tl ts, .int p, .int q, .flt 1048576000] 3 = some [vl (vs ++ [midV vs p q 1048576000]), tl (splT ts p q vs.length), .bool true] := gcall_on g422 rfl (by
  rw [F422_m (by omega), hpair, hgs, show sharP 1048576000 = true by decide +kernel, Bool.and_self, Bool.and_self, if_pos rfl]) rfl
 have c9 : gcall G none 403 [vl (vs ++ [midV vs p q 1048576000]), tl (splT ts p q vs.length)] 1 = some [.bool true] := gcall_on g403 rfl (by rw [F403_m (by omega), hlu, k1, k2]; rfl) rfl
 have c10 : gcall G none 445 [vl vs, tl ts] 2 = some [.int (eulP vs.length ts), .bool true] := gcall_on g445 rfl (by rw [F445_m (by omega), hv, if_pos rfl]) rfl
 have c11 : gcall G none 445 [vl (vs ++ [midV vs p q 1048576000]), tl (splT ts p q vs.length)] 2 = some [.int (eulP vs.length ts), .bool true] := gcall_on g445 rfl (by rw [F445_m (by omega), hlu, k1, if_pos rfl, k4]) rfl
 have c12 : gcall G none 576 [vl vs, tl ts] 2 = some [.flt (areaN vs ts ts.length), .bool true] := gcall_on g576 rfl (by rw [F576_m (by omega), hv, if_pos rfl]) rfl
 have c13 : gcall G none 576 [vl (vs ++ [midV vs p q 1048576000]), tl (splT ts p q vs.length)] 2 = some [.flt (areaN (vs ++ [midV vs p q 1048576000]) (splT ts p q vs.length) (splT ts p q vs.length).length), .bool true] := gcall_on g576 rfl (by rw [F576_m (by omega), hlu, k1, if_pos rfl]) rfl
 have c14 : gcall G none 444 [vl (vs ++ [midV vs p q 1048576000]), tl (splT ts p q vs.length), .int p, .int (vs.length : Int)] 3 = some [vl vs, tl (joinT (splT ts p q vs.length) p vs.length), .bool true] := gcall_on g444 rfl (by
  rw [F444_m (by omega), hlu, k6, if_pos rfl, joinV_last]) rfl
 have c15 : gcall G none 553 [vl vs, tl (joinT (splT ts p q vs.length) p vs.length)] 2 = some [tl (etl (edgL ts vs.length)), .bool true] := gcall_on g553 rfl (by rw [F553_m (by omega) k7, k8]) rfl
 have c16 : gcall G none 231 [.flt (wide (areaN vs ts ts.length)), .flt (wide (areaN (vs ++ [midV vs p q 1048576000]) (splT ts p q vs.length) (splT ts p q vs.length).length))] 1 = some [.flt g] := gcall_on g231 rfl hg1 rfl
 have c17 : gcall G none 557 [tl (etl (edgL ts vs.length)), tl (etl (edgL ts vs.length))] 1 = some [.bool true] := gcall_on g557 rfl (F557_m (ts := etl (edgL ts vs.length)) (by rw [etl_len]; exact edg_len (by omega)) (fun t ht => by
  obtain ⟨e, _, rfl⟩ := List.mem_map.1 ht
  exact (by decide : (2 : Nat) ≤ 100))) rfl
 have hlp := loop575 g565 hfin (by omega) (a := tl ts) (b := tl (joinT (splT ts p q vs.length) p vs.length)) (c := .bool true)
 have f1 := F444_m (vs := vs) (ts := ts) (p := p) (q := q) (by omega)
 have f2 := F443_m (vs := vs) (ts := ts) (p := p) (q := q) (by omega)
 rw [hpair, Bool.true_and] at f1 f2
 refine ⟨vs.length + 1, ?_⟩
 rw [eq575]
 unfold S575
 refine st_some hL ?_
 refine st_iff ?_
 refine st_some c0 ?_
 refine st_some (gcall_on g544 rfl hF rfl) ?_
 refine st_some c4 ?_
 refine st_some c6 ?_
 refine st_some p_bnot ?_
 refine st_some (g_ff.trans len_tl) ?_
 rw [hel]
 refine st_some (g_ff.trans (eql_no (by omega))) ?_
 refine sP ?_
 refine st_iff ?_
 refine st_some len_tl ?_
 rw [hel]
 refine st_some hat ?_
 refine st_some hix ?_
 refine st_some hix ?_
 refine st_some p_e0 ?_
 refine st_some p_e0 ?_
 refine st_some len_tl ?_
 rw [hel]
 refine st_some hat ?_
 refine st_some hix ?_
 refine st_some hix ?_
 refine st_some p_e1 ?_
 refine st_some p_e1 ?_
 refine st_some c7 ?_
 refine st_some c8 ?_
 refine st_some len_vl ?_
 refine st_some p_bnot ?_
 refine sI ?_
 refine sN ?_
 refine sP ?_
 refine st_some (c_ff.trans c9) ?_
 refine sN ?_
 refine sP ?_
 refine st_some (g_ff.trans len_vl) ?_
 refine sI ?_
 rw [hlu]
 refine st_some (g_ff.trans (add1n (by omega))) ?_
 refine st_some (g_ff.trans neq_self) ?_
 refine sP ?_
 refine st_some (g_ff.trans len_tl) ?_
 refine st_some (g_ff.trans len_tl) ?_
 refine st_some (g_ff.trans len_il) ?_
 have hadd : gev none (.iar .add .i64) [.int (ts.length : Int), .int ((atL ts p q).length : Int)] = some (.int ((ts.length + (atL ts p q).length : Nat) : Int)) := by
  rw [p_add, wrap_id (by omega) (by omega)]
  congr 2
 refine st_some (g_ff.trans hadd) ?_
 rw [k3]
 refine st_some (g_ff.trans neq_self) ?_
 refine sP ?_
 refine st_iff ?_
 refine st_some c10 ?_
 refine st_some c11 ?_
 refine st_some c12 ?_
 refine st_some c13 ?_
 refine st_some c14 ?_
 refine st_some c15 ?_
 refine st_some p_bnot ?_
 refine sI ?_
 refine sN ?_
 refine sP ?_
 refine sI ?_
 refine sN ?_
 refine sP ?_
 refine sI ?_
 refine sN ?_
 refine sP ?_
 refine sI ?_
 refine sN ?_
 refine sP ?_
 refine sI ?_
 refine sN ?_
 refine sP ?_
 refine sI ?_
 refine sI ?_
 refine st_some (g_ff.trans neq_self) ?_
 refine sP ?_
 refine sI ?_
 refine st_some (g_ff.trans p_wide) ?_
 refine sI ?_
 refine st_some (g_ff.trans p_wide) ?_
 refine st_some (c_ff.trans c16) ?_
 refine sI ?_
 refine st_some (g_ff.trans p_wide) ?_
 refine st_some (g_ff.trans p_fadd8) ?_
 refine st_some (g_ff.trans p_fmul8) ?_
 refine st_some (g_ff.trans p_fgtr8) ?_
 rw [hg2]
 refine sP ?_
 refine st_some (c_ff.trans c17) ?_
 refine sN ?_
 refine sP ?_
 refine st_some (g_ff.trans len_vl) ?_
 refine st_some (g_ff.trans len_vl) ?_
 refine st_some (g_ff.trans neq_self) ?_
 refine sP ?_
 refine st_iff ?_
 refine st_join hlp rfl ?_
 cases hJ : okJ vs.length ts p q
 ·rw [hJ] at f1 f2
  have c18 : gcall G none 445 [vl [], tl []] 2 = some [.int (eulP 0 []), .bool true] := gcall_on g445 rfl (by
   rw [F445_m (vs := []) (ts := []) (by decide), show validP ([] : List V3).length [] = true by with_unfolding_all decide, if_pos rfl]
   rfl) rfl
  refine st_some (gcall_on g444 rfl f1 rfl) ?_;refine st_some (gcall_on g443 rfl f2 rfl) ?_;refine st_some p_bne ?_;refine st_iff ?_;refine st_some c18 ?_;refine st_some p_bnot ?_;refine sU ?_;refine sU ?_;refine st_some c_u ?_;refine sU ?_;refine sU ?_;refine sV ?_;refine sV ?_;refine sV ?_;refine sU ?_;refine sU ?_;refine sV ?_;refine sV ?_;refine sV ?_;refine sV ?_;refine sU ?_;exact st_some p_pt rfl
 ·rw [hJ] at f1 f2
  have hJ2 := hJ;rw [okJ_eq] at hJ2;simp only [Bool.and_eq_true, beq_iff_eq] at hJ2;obtain ⟨_, _, s1, _, s2⟩ := hJ2;have hjl : (joinV vs q).length = vs.length - 1 := by with_unfolding_all exact joinV_len ⟨j1, j2⟩
  have hjv := valid_join hv ⟨i1, i2⟩ ⟨j1, j2⟩ hne;have hszj : szM (joinV vs q) (joinT ts p q) ≤ 1000 := by have t1 := totL_all (tri3 hjv);have t2 := join_len ts p q;unfold szM at hszv ⊢;rw [hjl];omega
  have c18 : gcall G none 445 [vl (joinV vs q), tl (joinT ts p q)] 2 = some [.int (eulP vs.length ts), .bool true] := gcall_on g445 rfl (by rw [F445_m (by omega), hjl, hjv, if_pos rfl, s2]) rfl
  have c19 : gcall G none 403 [vl (joinV vs q), tl (joinT ts p q)] 1 = some [.bool true] := gcall_on g403 rfl (by rw [F403_m (by omega), hjl, hjv, s1]; rfl) rfl
  refine st_some (gcall_on g444 rfl f1 rfl) ?_;refine st_some (gcall_on g443 rfl f2 rfl) ?_;refine st_some p_bne ?_;refine st_iff ?_;refine st_some c18 ?_;refine st_some p_bnot ?_;refine sI ?_;refine sI ?_;refine st_some (c_tt.trans c19) ?_;refine st_some (g_ff.trans p_pt) ?_;refine sI ?_;refine sT ?_;refine sT ?_;refine st_some (g_tt.trans eql_self) ?_;refine st_some (g_ff.trans p_pt) ?_;refine sI ?_;refine st_some (g_tt.trans len_vl) ?_;refine sT ?_;have hsub : gev none (.iar .sub .i64) [.int (vs.length : Int), .int 1] = some (.int ((vs.length - 1 : Nat) : Int)) := by
   rw [p_sub, wrap_id (by omega) (by omega)]
   congr 2
   omega
  refine st_some (g_tt.trans hsub) ?_;rw [hjl];refine st_some (g_tt.trans eql_self) ?_;refine st_some (g_ff.trans p_pt) ?_;exact st_some p_pf rfl
end Vs
