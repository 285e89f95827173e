/-
  Proved: for all arguments the program's MendMesh returns what the reference's returns, in memory of its own, and leaves its arguments as they were (the law answers true). Conditions: none.
-/
import Derived.Test.YtflfikfcbohddaaGreatRows
import Derived.Test.YtflfikfcbohddaaGreatK8
import Derived.Test.YtflfikfcbohddaaGreatK38
namespace Go.Proofs.YtflfikfcbohddaaGreat
open Vs Go Go.Shelf Go.RowKit Go.ChangeShapes Go.WideShapes Go.ChangeAt
noncomputable def G : Vs.Told
 | 1 => F1
 | 4 => F4
 | 9 => F9
 | 10 => F10
 | 11 => F11
 | 13 => F13
 | 14 => F14
 | 15 => F15
 | 16 => F16
 | 19 => F19
 | 30 => F30
 | 31 => F31
 | 40 => F40
 | 100 => F100
 | 101 => F101
 | 102 => F102
 | 103 => F103
 | 104 => F104
 | 105 => F105
 | 120 => F120
 | 121 => F121
 | 127 => F127
 | 128 => F128
 | 129 => F129
 | 140 => F140
 | 141 => F141
 | 142 => F142
 | 143 => F143
 | 144 => F144
 | 145 => F145
 | 146 => F146
 | 147 => F147
 | 148 => F148
 | 149 => F149
 | 150 => F150
 | 151 => F151
 | 167 => F167
 | 168 => F168g
 | 169 => F169
 | 210 => F210m
 | 400 => F400
 | 401 => F401
 | 402 => F402
 | 403 => F403
 | 404 => F404
 | 405 => F405
 | 406 => F406
 | 407 => F407
 | 408 => F408
 | 409 => F409
 | 410 => F410
 | 411 => F411
 | 413 => F413
 | 414 => F414
 | 415 => F415
 | 417 => F417
 | 419 => F419
 | 420 => F420
 | 421 => F421
 | 422 => F422
 | 423 => F423
 | 424 => F424
 | 425 => F425
 | 426 => F426
 | 427 => F427
 | 428 => F428
 | 429 => F429
 | 433 => F433
 | 434 => F434
 | 435 => F435
 | 436 => F436
 | 437 => F437
 | 438 => F438
 | 439 => F439
 | 440 => F440
 | 441 => F441
 | 442 => F442
 | 443 => F443
 | 444 => F444
 | 445 => F445
 | 446 => F446
 | 447 => F447
 | 449 => F449
 | 450 => F450
 | 451 => F451
 | 452 => F452
 | 453 => F453
 | 500 => F500
 | 501 => F501
 | 502 => F502
 | 504 => F504
 | 505 => F505
 | 430 => F430
 | 431 => F431
 | 432 => F432
 | _ => fun _ => none
def ji (k : Nat) : SV := .c (.s (.dat (.b (.int .i64)) (.v k)))
def jf (k : Nat) : SV := .c (.s (.dat (.b (.flt .f32)) (.v k)))
def jb (k : Nat) : SV := .c (.s (.dat (.b .bool) (.v k)))
def jo (k : Nat) : SV := .c (.s (.own k))
def jm (k : Nat) : SV := .c (.s (.fcel [.d (.s1 eV) (.v 0), .d (.s2 ei) (.v 1)] k))
def ju : SV := .c (.s .undef)
def zn (l r : H) : H := .n none l r
def q0 : Sig := ⟨[.val true [.rd (.b f1), .rd (.b f1), .rd (.b f1)], .val true [.rd (.b f1), .rd (.b f1), .rd (.b f1)]], [(true, [.cell f1, .cell f1, .cell f1])]⟩
def q1 : Sig := ⟨[.val true [.rd (.s1 eV), .rd (.s2 ei)]], [rv .bool]⟩
def q2 : Sig := ⟨[.val true [.rd (.s1 eV), .rd (.s2 ei)]], [(false, [.own (.map ⟨104, 77, 2, .s ei 2⟩)]), r1 ⟨true, [i8, i8]⟩ 77]⟩
def q3 : Sig := ⟨[.val true [.rd (.s1 eV), .rd (.s2 ei)]], [(true, [.own (.row (.s1 eV) 70), .own (.rows ei 2 37)])]⟩
def q4 : Sig := ⟨[.ptr [.rd (.s1 eV), .rd (.s2 ei)]], [(true, [.own (.row (.s1 eV) 70), .own (.rows ei 2 37)])]⟩
def q5 : Sig := ⟨[.val true [.rd (.s1 eV), .rd (.s2 ei)], pv i8, pv i8], [rv .bool]⟩
def q6 : Sig := ⟨[.ptr [.rd (.s1 eV), .rd (.s2 ei)], pv i8, pv i8], [r1 ei 2]⟩
def q7 : Sig := ⟨[.val true [.rd (.b f1), .rd (.b f1), .rd (.b f1)], .val true [.rd (.b f1), .rd (.b f1), .rd (.b f1)], pv f1], [(true, [.cell f1, .cell f1, .cell f1])]⟩
def q8 : Sig := ⟨[.ptr [.rd (.s1 eV), .rd (.s2 ei)]], [rv .bool]⟩
def q9 : Sig := ⟨[.val true [.rd (.s1 eV), .rd (.s2 ei)], pv i8, pv i8], [rv i8, rv i8, rv i8, rv i8, rv .bool]⟩
def q10 : Sig := ⟨[.val true [.rd (.b i8), .rd (.b i8)], .ptr [.rd (.s1 eV), .rd (.s2 ei)]], [rv f1, rv .bool]⟩
def q11 : Sig := ⟨[.val true [.rd (.s1 eV), .rd (.s2 ei)], pv f1, pv f1, pv i8], [(true, [.own (.row (.s1 eV) 70), .own (.rows ei 2 37)]), r1 ei 2, rv .bool]⟩
def q12 : Sig := ⟨[.val true [.rd (.s1 eV), .rd (.s2 ei)], pv i8, pv i8], [(true, [.own (.row (.s1 eV) 70), .own (.rows ei 2 37)]), rv .bool]⟩
def q13 : Sig := ⟨[.val true [.rd (.b f1), .rd (.b f1), .rd (.b f1)]], [rv f1]⟩
def q14 : Sig := ⟨[.ptr [.rd (.s1 eV), .rd (.s2 ei)], pv i8, pv i8], [(true, [.own (.row (.s1 eV) 70), .own (.rows ei 2 37)]), rv .bool]⟩
def q15 : Sig := ⟨[.val true [.rd (.s1 eV), .rd (.s2 ei)], pv i8, pv i8], [(true, [.own (.row (.s1 eV) 70), .own (.rows ei 2 37)])]⟩
def q16 : Sig := ⟨[.val true [.rd (.b f1), .rd (.b f1), .rd (.b f1)], .val true [.rd (.b f1), .rd (.b f1), .rd (.b f1)]], [rv f1]⟩
def q17 : Sig := ⟨[.val true [.rd (.s1 eV), .rd (.s2 ei)]], [r1 ei 2, rv f1, rv .bool]⟩
def q18 : Sig := ⟨[.ptr [.rd (.s1 eV), .rd (.s2 ei)]], [r2 ei 2 37]⟩
def q19 : Sig := ⟨[.val true [.rd (.b f1), .rd (.b f1), .rd (.b f1)], pv f1], [(true, [.cell f1, .cell f1, .cell f1])]⟩
def q20 : Sig := ⟨[pv i8, pv i8], [(true, [.cell i8, .cell i8])]⟩
def q21 : Sig := ⟨[.val true [.rd (.s1 eV), .rd (.s2 ei)], .val true [.rd (.b i8), .rd (.b i8)]], [rv f1]⟩
def q22 : Sig := ⟨[pv i8, pv i8, pv i8], [rv .bool]⟩
def q23 : Sig := ⟨[p1 ei, pv i8, pv i8], [rv .bool]⟩
def q24 : Sig := ⟨[p1 ei, pv i8], [rv .bool]⟩
def q25 : Sig := ⟨[.ptr [.rd (.s1 eV), .rd (.s2 ei)], pv i8, pv i8], [rv i8, rv i8, rv .bool]⟩
def q28 : Sig := ⟨[p1 ei, pv i8, pv i8], [rv i8]⟩
def q31 : Sig := ⟨[.val true [.rd (.s1 eV), .rd (.s2 ei)], p1 ei], [r1 ei 2]⟩
def q36 : Sig := ⟨[.val true [.rd (.s1 eV), .rd (.s2 ei)], pv i8], [rv i8]⟩
def q37 : Sig := ⟨[p1 ei, .val true [.rd (.b i8), .rd (.b i8)]], [rv i8]⟩
def q38 : Sig := ⟨[p1 ei, pv i8], [rv i8]⟩
def q42 : Sig := ⟨[pv f1, pv f1], [rv .bool]⟩
def q43 : Sig := ⟨[pv i8, pv i8], [rv i8]⟩
def q48 : Sig := ⟨[m1 ei 2 true, pv i8], [rv i8]⟩
def q49 : Sig := ⟨[pv f1], [rv .bool]⟩
def q53 : Sig := ⟨[p1 ei], [r1 ei 2]⟩
def q54 : Sig := ⟨[p1 ei, p1 ei], [rv .bool]⟩
def q56 : Sig := ⟨[p1 eV, pv i8], [rv i8]⟩
def q57 : Sig := ⟨[p2 ei, pv i8], [rv i8]⟩
theorem noX : ∀ x ∈ ([] : List (FuncId × Ext)), ∀ args w, (callFunc x.1 args).run Tryz.prog w = ((extFn x.2 args).run Tryz.prog w).andThen fun v w' => .ok (.value v) w' := by intro x hx; cases hx
theorem sqrtX : ∀ x ∈ ([(116, .sqrt)] : List (FuncId × Ext)), ∀ args w, (callFunc x.1 args).run Tryz.prog w = ((extFn x.2 args).run Tryz.prog w).andThen fun v w' => .ok (.value v) w' := by
 intro x hx
 simp only [List.mem_cons, List.not_mem_nil, or_false] at hx
 subst hx
 exact fun args w => run_callFunc_extern Tryz.func116 (by kernel_rfl) (by kernel_rfl) (by kernel_rfl) (by kernel_rfl) args w
theorem s17 : SoundCall Tryz.prog 17 q56 (G 120) := sound (l := []) (h := .e) noX Tryz.func17 (by kernel_rfl) (by kernel_rfl) run120 .nil
theorem s41 : SoundCall Tryz.prog 41 q38 (G 140) := sound (l := []) (h := .e) noX Tryz.func41 (by kernel_rfl) (by kernel_rfl) run140 .nil
theorem s18 : SoundCall Tryz.prog 18 q57 (G 141) := sound (l := [(41, 140, q38)]) (h := (zn .e (zn .e (zn .e (zn (zn .e (.n (some (.mk 5 0 [(1, ji 5), (5, ji 6), (12, ji 7), (13, .c (.s (.dat (.s2 ei) (.v 0)))), (14, ji 8), (15, jb 9)] [])) (.n (some (.mk 2 0 [(1, ji 5), (5, ji 6)] [])) .e .e) .e)) .e))))) noX Tryz.func18 (by kernel_rfl) (by kernel_rfl) (run141 rfl) (.cons s41 .nil)
theorem s5 : SoundCall Tryz.prog 5 q36 (G 142) := sound (l := [(17, 120, q56), (18, 141, q57)]) (h := .e) noX Tryz.func5 (by kernel_rfl) (by kernel_rfl) (run142 rfl rfl) (.cons s17 (.cons s18 .nil))
theorem s50 : SoundCall Tryz.prog 50 ⟨[.val true [.rd (.b f1), .rd (.b f1), .rd (.b f1)]], [(true, [.cell f1, .cell f1, .cell f1])]⟩ (G 16) := sound (l := []) (h := .e) noX Tryz.func50 (by kernel_rfl) (by kernel_rfl) run16 .nil
theorem s21 : SoundCall Tryz.prog 21 ⟨[p1 eV], [r1 eV 70]⟩ (G 121) := sound (l := [(50, 16, ⟨[.val true [.rd (.b f1), .rd (.b f1), .rd (.b f1)]], [(true, [.cell f1, .cell f1, .cell f1])]⟩)]) (h := (zn .e (zn .e (zn (zn .e (.n (some (.mk 5 0 [(4, ji 4), (8, ji 5), (9, .c (.s (.dat (.s1 eV) (.v 0)))), (10, ji 6), (11, jb 7)] [(0, .row (.s1 eV) 70 (.v 3))])) (.n (some (.mk 2 0 [(4, ji 4)] [(0, .row (.s1 eV) 70 (.v 3))])) .e .e) .e)) .e)))) noX Tryz.func21 (by kernel_rfl) (by kernel_rfl) (run121 rfl) (.cons s50 .nil)
theorem s51 : SoundCall Tryz.prog 51 q53 (G 143) := sound (l := []) (h := (zn .e (zn .e (zn (zn .e (.n (some (.mk 5 0 [(4, ji 4), (8, ji 5), (9, .c (.s (.dat (.s1 ei) (.v 0)))), (10, ji 6), (11, jb 7)] [(0, .row (.s1 ei) 2 (.v 3))])) (.n (some (.mk 2 0 [(4, ji 4)] [(0, .row (.s1 ei) 2 (.v 3))])) .e .e) .e)) .e)))) noX Tryz.func51 (by kernel_rfl) (by kernel_rfl) run143 .nil
theorem s22 : SoundCall Tryz.prog 22 ⟨[p2 ei], [r2 ei 2 37]⟩ (G 144) := sound (l := [(51, 143, q53)]) (h := (zn .e (zn .e (zn (zn .e (.n (some (.mk 5 0 [(4, ji 4), (8, ji 5), (9, .c (.s (.dat (.s2 ei) (.v 0)))), (10, ji 6), (11, jb 7)] [(0, .rows ei 2 37 0 (.v 3))])) (.n (some (.mk 2 0 [(4, ji 4)] [(0, .rows ei 2 37 0 (.v 3))])) .e .e) .e)) .e)))) noX Tryz.func22 (by kernel_rfl) (by kernel_rfl) (run144 rfl) (.cons s51 .nil)
theorem s7 : SoundCall Tryz.prog 7 q3 (G 145) := sound (l := [(21, 121, ⟨[p1 eV], [r1 eV 70]⟩), (22, 144, ⟨[p2 ei], [r2 ei 2 37]⟩)]) (h := .e) noX Tryz.func7 (by kernel_rfl) (by kernel_rfl) (run145 rfl rfl) (.cons s21 (.cons s22 .nil))
theorem s38 : SoundCall Tryz.prog 38 q22 (G 19) := sound (l := []) (h := .e) noX Tryz.func38 (by kernel_rfl) (by kernel_rfl) run19 .nil
theorem s73 : SoundCall Tryz.prog 73 q24 (G 149) := sound (l := [(38, 19, q22)]) (h := .e) noX Tryz.func73 (by kernel_rfl) (by kernel_rfl) (run149 rfl) (.cons s38 .nil)
theorem s42 : SoundCall Tryz.prog 42 q8 (G 150) := sound (l := [(73, 149, q24)]) (h := (zn .e (zn .e (zn (zn .e (.n (some (.mk 4 0 [(3, ji 8), (11, ju), (12, ju), (13, ju), (14, ju), (15, ju), (16, ju), (18, ji 9), (19, jm 0), (20, jm 0), (21, jm 1), (22, .c (.s (.dat (.s2 ei) (.v 1)))), (23, ji 10), (24, jb 11)] [])) (.n (some (.mk 1 0 [(3, ji 8), (11, ju), (12, ju), (13, ju), (14, ju), (15, ju), (16, ju)] [])) .e .e) .e)) .e)))) noX Tryz.func42 (by kernel_rfl) (by kernel_rfl) (run150s rfl) (.cons s73 .nil)
theorem s97 : SoundCall Tryz.prog 97 q43 (G 453) := sound (l := []) (h := .e) noX Tryz.func97 (by kernel_rfl) (by kernel_rfl) run453 .nil
theorem s98 : SoundCall Tryz.prog 98 q43 (G 210) := sound (l := []) (h := .e) noX Tryz.func98 (by kernel_rfl) (by kernel_rfl) run210m .nil
theorem s74 : SoundCall Tryz.prog 74 q18 (G 413) := sound (l := [(97, 453, q43), (98, 210, q43)]) (h := (zn .e (zn .e (zn .e (zn (zn .e (.n (some (.mk 5 0 [(5, ji 6), (22, ji 7), (23, jm 0), (24, jm 0), (25, jm 1), (26, .c (.s (.dat (.s2 ei) (.v 1)))), (27, ji 8), (28, jb 9)] [(0, .row (.s1 (.mk false [.bool])) 4 (.v 5))])) (.n (some (.mk 2 0 [(5, ji 6)] [(0, .row (.s1 (.mk false [.bool])) 4 (.v 5))])) (zn .e (zn (zn (zn .e (zn .e (.n (some (.mk 4 0 [(7, ji 11), (38, ji 12), (39, jb 13)] [(0, .row (.s1 (.mk false [.bool])) 4 (.v 10))])) (.n (some (.mk 2 0 [(7, ji 11)] [(0, .row (.s1 (.mk false [.bool])) 4 (.v 10))])) .e .e) .e))) .e) .e)) .e) .e)) (zn .e (zn (zn .e (.n (some (.mk 4 1 [(10, jo 2), (11, ji 12), (64, ji 13), (65, ji 2), (66, jb 14)] [(1, .dead), (2, .rows ei 2 37 0 (.v 11))])) (.n (some (.mk 2 1 [(10, jo 2), (11, ji 12)] [(1, .dead), (2, .rows ei 2 37 0 (.v 11))])) (zn .e (zn (zn (zn .e (.n (some (.mk 4 1 [(10, jo 3), (12, ji 16), (71, ji 17), (72, ji 2), (73, jb 18)] [(2, .dead), (3, .rows ei 2 37 0 (.v 15))])) (.n (some (.mk 2 1 [(10, jo 3), (12, ji 16)] [(2, .dead), (3, .rows ei 2 37 0 (.v 15))])) (zn .e (zn (zn (zn .e (.n (some (.mk 1 1 [(10, jo 4)] [(3, .dead), (4, .rows ei 2 37 0 (.v 22))])) .e .e)) .e) .e)) .e) .e)) .e) .e)) .e) .e)) .e))))))) noX Tryz.func74 (by kernel_rfl) (by kernel_rfl) (run413 rfl rfl) (.cons s97 (.cons s98 .nil))
theorem s81 : SoundCall Tryz.prog 81 q24 (G 167) := sound (l := []) (h := .e) noX Tryz.func81 (by kernel_rfl) (by kernel_rfl) run167 .nil
theorem s75 : SoundCall Tryz.prog 75 q6 (G 168) := sound (l := [(81, 167, q24)]) (h := (zn .e (zn .e (zn (zn .e (.n (some (.mk 5 1 [(7, jo 1), (8, ji 6), (10, ji 7), (11, jm 0), (12, jm 0), (13, jm 1), (14, .c (.s (.dat (.s2 ei) (.v 1)))), (15, ji 8), (16, jb 9)] [(0, .dead), (1, .row (.s1 ei) 2 (.v 5))])) (.n (some (.mk 2 1 [(7, jo 1), (8, ji 6)] [(0, .dead), (1, .row (.s1 ei) 2 (.v 5))])) (zn .e (zn (zn (zn .e (.n (some (.mk 1 1 [(7, jo 2), (29, ju), (30, ju), (31, ju), (32, ju), (33, ju), (34, ju), (35, ju), (36, ju), (37, ju)] [(1, .dead), (2, .row (.s1 ei) 2 (.v 18))])) .e .e)) .e) .e)) .e) .e)) .e)))) noX Tryz.func75 (by kernel_rfl) (by kernel_rfl) (run168g rfl) (.cons s81 .nil)
theorem s76 : SoundCall Tryz.prog 76 q23 (G 407) := sound (l := []) (h := .e) noX Tryz.func76 (by kernel_rfl) (by kernel_rfl) run407s .nil
theorem s43 : SoundCall Tryz.prog 43 q8 (G 414) := sound (l := [(74, 413, q18), (75, 168, q6), (76, 407, q23)]) (h := (zn .e (zn .e (zn (zn .e (.n (some (.mk 4 0 [(4, ji 3), (10, ji 4), (11, jo 0), (12, ji 5), (13, jb 6)] [])) (.n (some (.mk 1 0 [(4, ji 3)] [])) .e .e) .e)) .e)))) noX Tryz.func43 (by kernel_rfl) (by kernel_rfl) (run414 rfl rfl rfl) (.cons s74 (.cons s75 (.cons s76 .nil)))
theorem s44 : SoundCall Tryz.prog 44 q49 (G 1) := sound (l := []) (h := .e) noX Tryz.func44 (by kernel_rfl) (by kernel_rfl) run1 .nil
theorem s19 : SoundCall Tryz.prog 19 ⟨[.ptr [.rd (.s1 eV), .rd (.s2 ei)], pv f1, pv f1], [rv .bool]⟩ (G 502) := sound (l := [(42, 150, q8), (43, 414, q8), (44, 1, q49)]) (h := .e) noX Tryz.func19 (by kernel_rfl) (by kernel_rfl) (run502 rfl rfl rfl) (.cons s42 (.cons s43 (.cons s44 .nil)))
theorem s72 : SoundCall Tryz.prog 72 q53 (G 143) := sound (l := []) (h := .e) noX Tryz.func72 (by kernel_rfl) (by kernel_rfl) run143s .nil
theorem s39 : SoundCall Tryz.prog 39 q4 (G 151) := sound (l := [(72, 143, q53)]) (h := (zn .e (zn .e (zn (zn .e (.n (some (.mk 5 1 [(4, ji 6), (13, ji 7), (14, jm 0), (15, jm 0), (16, jm 1), (17, .c (.s (.dat (.s2 ei) (.v 1)))), (18, ji 8), (19, jb 9)] [(3, .dead), (4, .var [(.s (.own 2)), (.s (.own 5))]), (5, .rows ei 2 37 0 (.v 5))])) (.n (some (.mk 2 1 [(4, ji 6)] [(4, .var [(.s (.own 2)), (.s (.own 5))]), (3, .dead), (5, .rows ei 2 37 0 (.v 5))])) .e .e) .e)) .e)))) noX Tryz.func39 (by kernel_rfl) (by kernel_rfl) (run151s rfl) (.cons s72 .nil)
theorem s78 : SoundCall Tryz.prog 78 q0 (G 13) := sound (l := []) (h := .e) noX Tryz.func78 (by kernel_rfl) (by kernel_rfl) run13 .nil
theorem s100 : SoundCall Tryz.prog 100 q16 (G 14) := sound (l := []) (h := .e) noX Tryz.func100 (by kernel_rfl) (by kernel_rfl) run14 .nil
theorem s111 : SoundCall Tryz.prog 111 ⟨[pv f8], [rv f8]⟩ (G 9) := sound (X := [(116, .sqrt)]) (l := []) (h := .e) sqrtX Tryz.func111 (by kernel_rfl) (by kernel_rfl) run9 .nil
theorem s110 : SoundCall Tryz.prog 110 ⟨[pv f8], [rv f1]⟩ (G 10) := sound (l := []) (h := .e) noX Tryz.func110 (by kernel_rfl) (by kernel_rfl) run10 .nil
theorem s99 : SoundCall Tryz.prog 99 ⟨[pv f1], [rv f1]⟩ (G 11) := sound (l := [(111, 9, ⟨[pv f8], [rv f8]⟩), (110, 10, ⟨[pv f8], [rv f1]⟩)]) (h := .e) noX Tryz.func99 (by kernel_rfl) (by kernel_rfl) (run11' rfl rfl) (.cons s111 (.cons s110 .nil))
theorem s77 : SoundCall Tryz.prog 77 q13 (G 15) := sound (l := [(100, 14, q16), (99, 11, ⟨[pv f1], [rv f1]⟩)]) (h := .e) noX Tryz.func77 (by kernel_rfl) (by kernel_rfl) (run15 rfl rfl) (.cons s100 (.cons s99 .nil))
theorem s45 : SoundCall Tryz.prog 45 ⟨[.ptr [.rd (.s1 eV), .rd (.s2 ei)], pv .bool], [r1 ei 2, rv f1, rv .bool]⟩ (G 433) := sound (l := [(74, 413, q18), (78, 13, q0), (77, 15, q13)]) (h := (zn .e (zn .e (zn .e (zn .e (zn (zn .e (.n (some (.mk 6 0 [(8, ji 4), (9, jf 5), (10, ji 6), (14, ji 7), (15, jo 0), (16, ji 8), (17, jb 9)] [])) (.n (some (.mk 3 0 [(8, ji 4), (9, jf 5), (10, ji 6)] [])) (zn .e (zn (zn (zn .e (zn .e (.n (some (.mk 2 0 [(8, ji 50), (9, jf 51), (50, ju), (51, ju), (52, ju), (53, ju), (54, ju), (55, ju), (56, ju), (57, ju), (58, ju), (59, ju), (60, ju), (61, ju), (62, ju), (63, ju), (64, ju), (65, ju), (66, ju), (67, ju), (68, ju)] [])) .e .e))) .e) .e)) .e) .e)) .e)))))) noX Tryz.func45 (by kernel_rfl) (by kernel_rfl) (run433 rfl rfl rfl) (.cons s74 (.cons s78 (.cons s77 .nil)))
theorem s102 : SoundCall Tryz.prog 102 q19 (G 31) := sound (l := []) (h := .e) noX Tryz.func102 (by kernel_rfl) (by kernel_rfl) run31 .nil
theorem s101 : SoundCall Tryz.prog 101 q0 (G 30) := sound (l := []) (h := .e) noX Tryz.func101 (by kernel_rfl) (by kernel_rfl) run30 .nil
theorem s79 : SoundCall Tryz.prog 79 q7 (G 424) := sound (l := [(78, 13, q0), (102, 31, q19), (101, 30, q0)]) (h := .e) noX Tryz.func79 (by kernel_rfl) (by kernel_rfl) (run424 rfl rfl rfl) (.cons s78 (.cons s102 (.cons s101 .nil)))
theorem s80 : SoundCall Tryz.prog 80 q28 (G 408) := sound (l := []) (h := (zn .e (zn (zn .e (.n (some (.mk 3 0 [(7, ji 3), (8, ji 4), (9, jb 5)] [])) (.n (some (.mk 1 0 [(7, ji 3)] [])) .e .e) .e)) .e))) noX Tryz.func80 (by kernel_rfl) (by kernel_rfl) run408s .nil
theorem s46 : SoundCall Tryz.prog 46 ⟨[.ptr [.rd (.s1 eV), .rd (.s2 ei)], pv i8, pv i8, pv f1], [(true, [.own (.row (.s1 eV) 70), .own (.rows ei 2 37)]), rv .bool]⟩ (G 423) := sound (l := [(75, 168, q6), (39, 151, q4), (79, 424, q7), (80, 408, q28), (76, 407, q23), (42, 150, q8), (43, 414, q8)]) (h := (zn .e (zn .e (zn .e (zn .e (zn .e (zn .e (zn (zn .e (.n (some (.mk 5 1 [(13, ji 26), (50, ji 27), (51, jo 1), (52, ji 28), (53, jb 29)] [(3, .dead), (4, .var [(.s (.own 6)), (.s (.own 7))]), (7, .rows ei 2 37 0 (.v 25))])) (.n (some (.mk 2 1 [(13, ji 26)] [(4, .var [(.s (.own 6)), (.s (.own 7))]), (3, .dead), (7, .rows ei 2 37 0 (.v 25))])) (zn .e (zn (zn (zn .e (zn .e (zn .e (.n (some (.mk 1 1 [] [(4, .var [(.s (.own 6)), (.s (.own 8))]), (7, .dead), (8, .rows ei 2 37 0 (.v 34))])) .e .e)))) .e) .e)) .e) .e)) .e)))))))) noX Tryz.func46 (by kernel_rfl) (by kernel_rfl) (run423 rfl rfl rfl rfl rfl rfl rfl) (.cons s75 (.cons s39 (.cons s79 (.cons s80 (.cons s76 (.cons s42 (.cons s43 .nil)))))))
theorem s82 : SoundCall Tryz.prog 82 q8 (G 447) := sound (l := [(81, 167, q24)]) (h := (zn .e (zn (zn .e (.n (some (.mk 4 0 [(3, ji 2), (6, ji 3), (7, jm 0), (8, jm 0), (9, jm 1), (10, .c (.s (.dat (.s2 ei) (.v 1)))), (11, ji 4), (12, jb 5)] [])) (.n (some (.mk 1 0 [(3, ji 2)] [])) (zn .e (zn (zn (zn .e (.n (some (.mk 4 0 [(4, ji 6), (17, ji 7), (18, jm 0), (19, jm 0), (20, jm 1), (21, .c (.s (.dat (.s2 ei) (.v 1)))), (22, ji 8), (23, jb 9)] [])) (.n (some (.mk 1 0 [(4, ji 6)] [])) .e .e) .e)) .e) .e)) .e) .e)) .e))) noX Tryz.func82 (by kernel_rfl) (by kernel_rfl) (run447 rfl) (.cons s81 .nil)
theorem s83 : SoundCall Tryz.prog 83 ⟨[.ptr [.rd (.s1 eV), .rd (.s2 ei)]], [rv i8]⟩ (G 446) := sound (l := [(75, 168, q6), (74, 413, q18)]) (h := (zn .e (zn .e (zn (zn .e (.n (some (.mk 5 0 [(3, ji 2), (4, ji 3), (5, ji 4), (6, jm 0), (7, jm 0), (8, jm 0), (9, .c (.s (.dat (.s1 eV) (.v 0)))), (10, ji 5), (11, jb 6)] [])) (.n (some (.mk 2 0 [(3, ji 2), (4, ji 3)] [])) (zn .e (zn (zn (zn .e (.n (some (.mk 1 0 [(3, ji 9)] [])) .e .e)) .e) .e)) .e) .e)) .e)))) noX Tryz.func83 (by kernel_rfl) (by kernel_rfl) (run446 rfl rfl) (.cons s75 (.cons s74 .nil))
theorem s47 : SoundCall Tryz.prog 47 q14 (G 438) := sound (l := [(75, 168, q6), (72, 143, q53), (81, 167, q24), (43, 414, q8), (82, 447, q8), (83, 446, ⟨[.ptr [.rd (.s1 eV), .rd (.s2 ei)]], [rv i8]⟩)]) (h := (zn .e (zn .e (zn .e (zn (zn .e (.n (some (.mk 5 1 [(9, ji 10), (23, ji 11), (24, jm 0), (25, jm 0), (26, jm 0), (27, .c (.s (.dat (.s1 eV) (.v 0)))), (28, ji 12), (29, jb 13)] [(2, .dead), (4, .var [(.s (.own 5)), (.s (.own 3))]), (5, .row (.s1 eV) 70 (.v 9))])) (.n (some (.mk 2 1 [(9, ji 10)] [(4, .var [(.s (.own 5)), (.s (.own 3))]), (2, .dead), (5, .row (.s1 eV) 70 (.v 9))])) (zn .e (zn (zn (zn .e (.n (some (.mk 1 1 [] [(4, .var [(.s (.own 6)), (.s (.own 3))]), (5, .dead), (6, .row (.s1 eV) 70 (.v 14))])) .e .e)) .e) .e)) .e) .e)) (zn (zn .e (.n (some (.mk 5 1 [(10, ji 15), (47, ji 16), (48, jm 0), (49, jm 0), (50, jm 1), (51, .c (.s (.dat (.s2 ei) (.v 1)))), (52, ji 17), (53, jb 18)] [(3, .dead), (4, .var [(.s (.own 5)), (.s (.own 6))]), (6, .rows ei 2 37 0 (.v 14))])) (.n (some (.mk 2 1 [(10, ji 15)] [(4, .var [(.s (.own 5)), (.s (.own 6))]), (3, .dead), (6, .rows ei 2 37 0 (.v 14))])) (zn .e (zn (.n (some (.mk 5 1 [(56, jm 0), (57, jm 0), (58, jm 1), (59, .c (.s (.dat (.s2 ei) (.v 1)))), (60, ji 15), (62, .c (.s (.dat (.s1 ei) (.v 19)))), (65, ji 2), (66, jb 20), (67, jb 21), (71, jb 22)] [(4, .var [(.s (.own 5)), (.s (.own 7))]), (6, .dead), (7, .rows ei 2 37 0 (.v 18))])) (zn .e (zn .e (zn (zn .e (.n (some (.mk 4 0 [(12, ji 25), (68, ju), (69, ju), (70, ju), (72, ji 26), (73, jb 27)] [(7, .row (.s1 ei) 2 (.v 24))])) (.n (some (.mk 2 0 [(12, ji 25), (68, ju), (69, ju), (70, ju)] [(7, .row (.s1 ei) 2 (.v 24))])) (zn .e (zn (zn (zn (zn .e (.n (some (.mk 1 0 [] [(7, .row (.s1 ei) 2 (.v 30))])) .e .e)) (zn .e (.n (some (.mk 1 0 [] [(7, .row (.s1 ei) 2 (.v 34))])) .e .e))) .e) .e)) .e) .e)) .e))) .e) .e)) .e) .e)) .e)))))) noX Tryz.func47 (by kernel_rfl) (by kernel_rfl) (run438 rfl rfl rfl rfl rfl rfl) (.cons s75 (.cons s72 (.cons s81 (.cons s43 (.cons s82 (.cons s83 .nil))))))
theorem s85 : SoundCall Tryz.prog 85 q25 (G 415) := sound (l := [(75, 168, q6), (76, 407, q23), (80, 408, q28)]) (h := (zn .e (zn .e (zn .e (zn .e (zn .e (zn (zn .e (.n (some (.mk 2 0 [(10, ji 14), (11, ji 15)] [])) .e .e)) .e))))))) noX Tryz.func85 (by kernel_rfl) (by kernel_rfl) (run415 rfl rfl rfl) (.cons s75 (.cons s76 (.cons s80 .nil)))
theorem s84 : SoundCall Tryz.prog 84 ⟨[.ptr [.rd (.s1 eV), .rd (.s2 ei)], pv i8, pv i8], [rv f1, rv .bool]⟩ (G 417) := sound (l := [(85, 415, q25), (80, 408, q28), (78, 13, q0), (77, 15, q13)]) (h := .e) noX Tryz.func84 (by kernel_rfl) (by kernel_rfl) (run417s rfl rfl rfl rfl rfl) (.cons s85 (.cons s80 (.cons s78 (.cons s77 .nil))))
theorem s48 : SoundCall Tryz.prog 48 ⟨[.ptr [.rd (.s1 eV), .rd (.s2 ei)]], [r1 ei 2, rv f1, rv .bool]⟩ (G 437) := sound (l := [(74, 413, q18), (84, 417, ⟨[.ptr [.rd (.s1 eV), .rd (.s2 ei)], pv i8, pv i8], [rv f1, rv .bool]⟩)]) (h := (zn .e (zn .e (zn .e (zn .e (zn (zn .e (.n (some (.mk 6 0 [(6, ji 3), (7, jf 4), (8, ji 5), (13, ji 6), (14, jo 0), (15, ji 7), (16, jb 8)] [])) (.n (some (.mk 3 0 [(6, ji 3), (7, jf 4), (8, ji 5)] [])) (zn .e (zn (zn (zn .e (zn .e (.n (some (.mk 2 0 [(6, ji 30), (7, jf 31), (38, ju), (39, ju), (40, ju), (43, ju), (44, ju), (45, ju), (46, ju), (47, ju), (48, ju), (49, ju)] [])) .e .e))) .e) .e)) .e) .e)) .e)))))) noX Tryz.func48 (by kernel_rfl) (by kernel_rfl) (run437 rfl rfl) (.cons s74 (.cons s84 .nil))
theorem s49 : SoundCall Tryz.prog 49 q14 (G 420) := sound (l := [(85, 415, q25), (80, 408, q28), (39, 151, q4)]) (h := .e) noX Tryz.func49 (by kernel_rfl) (by kernel_rfl) (run420 rfl rfl rfl rfl) (.cons s85 (.cons s80 (.cons s39 .nil)))
theorem s20 : SoundCall Tryz.prog 20 ⟨[.ptr [.rd (.s1 eV), .rd (.s2 ei)], pv f1, pv f1], [(true, [.own (.row (.s1 eV) 70), .own (.rows ei 2 37)]), rv i8]⟩ (G 501) := sound (l := [(45, 433, ⟨[.ptr [.rd (.s1 eV), .rd (.s2 ei)], pv .bool], [r1 ei 2, rv f1, rv .bool]⟩), (46, 423, ⟨[.ptr [.rd (.s1 eV), .rd (.s2 ei)], pv i8, pv i8, pv f1], [(true, [.own (.row (.s1 eV) 70), .own (.rows ei 2 37)]), rv .bool]⟩), (47, 438, q14), (48, 437, ⟨[.ptr [.rd (.s1 eV), .rd (.s2 ei)]], [r1 ei 2, rv f1, rv .bool]⟩), (49, 420, q14), (39, 151, q4)]) (h := (zn .e (zn .e (zn (zn .e (.n (some (.mk 0 0 [(25, ju), (26, ju), (27, ju)] [])) .e .e)) (zn .e (zn (zn .e (.n (some (.mk 0 0 [(50, ju), (51, ju), (52, ju)] [])) .e .e)) .e)))))) noX Tryz.func20 (by kernel_rfl) (by kernel_rfl) (run501 rfl rfl rfl rfl rfl rfl) (.cons s45 (.cons s46 (.cons s47 (.cons s48 (.cons s49 (.cons s39 .nil))))))
theorem s12 : SoundCall Tryz.prog 12 q11 (G 504) := sound (l := [(19, 502, ⟨[.ptr [.rd (.s1 eV), .rd (.s2 ei)], pv f1, pv f1], [rv .bool]⟩), (38, 19, q22), (39, 151, q4), (20, 501, ⟨[.ptr [.rd (.s1 eV), .rd (.s2 ei)], pv f1, pv f1], [(true, [.own (.row (.s1 eV) 70), .own (.rows ei 2 37)]), rv i8]⟩)]) (h := (zn .e (zn .e (zn .e (zn .e (zn (zn .e (.n (some (.mk 6 3 [(12, jo 8), (13, ji 17), (21, ju), (22, ju), (23, ju), (28, ji 18), (29, ji 4), (30, jb 19)] [(2, .dead), (3, .dead), (4, .var [(.s (.own 6)), (.s (.own 7))]), (5, .dead), (6, .row (.s1 eV) 70 (.v 14)), (7, .rows ei 2 37 0 (.v 15)), (8, .row (.s1 ei) 2 (.v 16))])) (.n (some (.mk 4 3 [(12, jo 8), (13, ji 17), (21, ju), (22, ju), (23, ju)] [(4, .var [(.s (.own 6)), (.s (.own 7))]), (2, .dead), (3, .dead), (5, .dead), (6, .row (.s1 eV) 70 (.v 14)), (7, .rows ei 2 37 0 (.v 15)), (8, .row (.s1 ei) 2 (.v 16))])) .e .e) .e)) .e)))))) noX Tryz.func12 (by kernel_rfl) (by kernel_rfl) (run504s rfl rfl rfl rfl) (.cons s19 (.cons s38 (.cons s39 (.cons s20 .nil))))
theorem s40 : SoundCall Tryz.prog 40 q22 (G 19) := sound (l := []) (h := .e) noX Tryz.func40 (by kernel_rfl) (by kernel_rfl) run19 .nil
theorem s52 : SoundCall Tryz.prog 52 q1 (G 150) := sound (l := [(40, 19, q22)]) (h := (zn .e (zn .e (zn .e (zn (zn .e (.n (some (.mk 2 0 [(14, ju), (15, ju), (16, ju), (17, ju), (22, ji 9), (23, jb 10)] [])) (.n (some (.mk 1 0 [(14, ju), (15, ju), (16, ju), (17, ju), (22, ji 9)] [])) (zn .e (zn .e (zn (zn (zn .e (zn .e (zn .e (.n (some (.mk 2 0 [(30, ju), (31, ju), (32, ju), (33, ju), (34, ju), (35, ju), (36, ju), (39, ju), (40, ju), (41, ju), (42, ju), (43, ju), (44, ju), (45, ju), (48, ju), (49, ju), (50, ju), (51, ju), (52, ju), (53, ju), (54, ju), (58, ji 39), (59, jb 40)] [])) (.n (some (.mk 1 0 [(30, ju), (31, ju), (32, ju), (33, ju), (34, ju), (35, ju), (36, ju), (39, ju), (40, ju), (41, ju), (42, ju), (43, ju), (44, ju), (45, ju), (48, ju), (49, ju), (50, ju), (51, ju), (52, ju), (53, ju), (54, ju), (58, ji 39)] [])) .e .e) .e)))) .e) .e))) .e) .e)) .e))))) noX Tryz.func52 (by kernel_rfl) (by kernel_rfl) (run150 rfl) (.cons s40 .nil)
theorem s53 : SoundCall Tryz.prog 53 q20 (G 400) := sound (l := []) (h := .e) noX Tryz.func53 (by kernel_rfl) (by kernel_rfl) run400 .nil
theorem s23 : SoundCall Tryz.prog 23 q1 (G 403) := sound (l := [(52, 150, q1), (53, 400, q20)]) (h := (zn .e (zn .e (zn .e (zn (zn .e (.n (some (.mk 4 0 [(18, ji 7), (19, jb 8)] [(1, .map (.mk 74 77 2 (.b .bool)) 0 (.v 5) none), (2, .map (.mk 75 77 2 (.b (.int .i64))) 0 (.v 6) none)])) (.n (some (.mk 3 0 [(18, ji 7)] [(1, .map (.mk 74 77 2 (.b .bool)) 0 (.v 5) none), (2, .map (.mk 75 77 2 (.b (.int .i64))) 0 (.v 6) none)])) (zn .e (zn .e (zn (zn (zn .e (zn .e (.n (some (.mk 4 0 [(22, ji 12), (23, jb 13)] [(1, .map (.mk 74 77 2 (.b .bool)) 0 (.v 10) none), (2, .map (.mk 75 77 2 (.b (.int .i64))) 0 (.v 11) none)])) (.n (some (.mk 3 0 [(22, ji 12)] [(1, .map (.mk 74 77 2 (.b .bool)) 0 (.v 10) none), (2, .map (.mk 75 77 2 (.b (.int .i64))) 0 (.v 11) none)])) .e .e) .e))) .e) .e))) .e) .e)) .e))))) noX Tryz.func23 (by kernel_rfl) (by kernel_rfl) (run403 rfl rfl) (.cons s52 (.cons s53 .nil))
theorem s24 : SoundCall Tryz.prog 24 q49 (G 1) := sound (l := []) (h := .e) noX Tryz.func24 (by kernel_rfl) (by kernel_rfl) run1 .nil
theorem s31 : SoundCall Tryz.prog 31 q3 (G 151) := sound (l := []) (h := (zn .e (zn .e (zn (zn .e (.n (some (.mk 3 1 [(14, ji 6), (15, jb 7)] [(4, .var [(.s (.own 3)), (.s (.own 5))]), (5, .rows ei 2 37 0 (.v 5))])) (.n (some (.mk 2 1 [(14, ji 6)] [(4, .var [(.s (.own 3)), (.s (.own 5))]), (5, .rows ei 2 37 0 (.v 5))])) .e .e) .e)) .e)))) noX Tryz.func31 (by kernel_rfl) (by kernel_rfl) run151 .nil
theorem s88 : SoundCall Tryz.prog 88 q0 (G 13) := sound (l := []) (h := .e) noX Tryz.func88 (by kernel_rfl) (by kernel_rfl) run13 .nil
theorem s106 : SoundCall Tryz.prog 106 q16 (G 14) := sound (l := []) (h := .e) noX Tryz.func106 (by kernel_rfl) (by kernel_rfl) run14 .nil
theorem s105 : SoundCall Tryz.prog 105 ⟨[pv f1], [rv f1]⟩ (G 11) := sound (l := [(111, 9, ⟨[pv f8], [rv f8]⟩)]) (h := .e) noX Tryz.func105 (by kernel_rfl) (by kernel_rfl) (run11 rfl) (.cons s111 .nil)
theorem s87 : SoundCall Tryz.prog 87 q13 (G 15) := sound (l := [(106, 14, q16), (105, 11, ⟨[pv f1], [rv f1]⟩)]) (h := .e) noX Tryz.func87 (by kernel_rfl) (by kernel_rfl) (run15 rfl rfl) (.cons s106 (.cons s105 .nil))
theorem s56 : SoundCall Tryz.prog 56 q21 (G 425) := sound (l := [(88, 13, q0), (87, 15, q13)]) (h := .e) noX Tryz.func56 (by kernel_rfl) (by kernel_rfl) (run425 rfl rfl) (.cons s88 (.cons s87 .nil))
theorem s55 : SoundCall Tryz.prog 55 q10 (G 426) := sound (l := [(56, 425, q21)]) (h := .e) noX Tryz.func55 (by kernel_rfl) (by kernel_rfl) (run426 rfl) (.cons s56 .nil)
theorem s57 : SoundCall Tryz.prog 57 q42 (G 428) := sound (l := []) (h := .e) noX Tryz.func57 (by kernel_rfl) (by kernel_rfl) run428 .nil
theorem s142 : SoundCall Tryz.prog 142 ⟨[pv i8], [rv .bool]⟩ (G 452) := sound (l := []) (h := .e) noX Tryz.func142 (by kernel_rfl) (by kernel_rfl) run452 .nil
theorem s127 : SoundCall Tryz.prog 127 q43 (G 451) := sound (l := [(142, 452, ⟨[pv i8], [rv .bool]⟩)]) (h := .e) noX Tryz.func127 (by kernel_rfl) (by kernel_rfl) (run451 rfl) (.cons s142 .nil)
theorem s114 : SoundCall Tryz.prog 114 ⟨[p1 ei, p1 ei], [rv i8]⟩ (G 450) := sound (l := [(127, 451, q43)]) (h := (zn .e (zn (zn .e (.n (some (.mk 2 0 [(11, ji 3), (12, jb 4)] [])) (.n (some (.mk 1 0 [(11, ji 3)] [])) .e .e) .e)) .e))) noX Tryz.func114 (by kernel_rfl) (by kernel_rfl) (run450 rfl) (.cons s127 .nil)
theorem s104 : SoundCall Tryz.prog 104 ⟨[.val true [.rd (.b i8), .rd (.b i8)], .val true [.rd (.b i8), .rd (.b i8)]], [rv i8]⟩ (G 449) := sound (l := [(114, 450, ⟨[p1 ei, p1 ei], [rv i8]⟩)]) (h := .e) noX Tryz.func104 (by kernel_rfl) (by kernel_rfl) (run449 rfl) (.cons s114 .nil)
def srt_ren : Go.Shelf.Ren := ⟨fun | 6 => 103 | 15 => 113 | 14 => 112 | 28 => 125 | 29 => 126 | 20 => 117 | 21 => 118 | 22 => 119 | 23 => 120 | 24 => 121 | 25 => 122 | 26 => 123 | 27 => 124 | 46 => 137 | 47 => 138 | 48 => 139 | 49 => 140 | 50 => 141 | 57 => 146 | n => n, fun | 22 => 105 | 24 => 77 | 25 => 120 | 3 => 3 | 39 => 130 | 0 => 0 | 53 => 142 | 55 => 144 | 4 => 4 | 46 => 135 | 45 => 134 | 50 => 139 | 5 => 5 | 9 => 9 | 66 => 152 | 70 => 156 | 76 => 161 | 77 => 162 | n => n, fun n => n⟩
theorem srt : SlLaysF0.n6 Tryz.prog srt_ren where
 mixed := by kernel_rfl
 f6 := ⟨Tryz.f103.name, by kernel_rfl, Tryz.func103.trans (congrArg some (by kernel_rfl))⟩
 f14 := ⟨Tryz.f112.name, by kernel_rfl, Tryz.func112.trans (congrArg some (by kernel_rfl))⟩
 f15 := Tryz.func113.trans (congrArg some (by kernel_rfl))
 f20 := ⟨Tryz.f117.name, by kernel_rfl, Tryz.func117.trans (congrArg some (by kernel_rfl))⟩
 f21 := ⟨Tryz.f118.name, by kernel_rfl, Tryz.func118.trans (congrArg some (by kernel_rfl))⟩
 f22 := ⟨Tryz.f119.name, by kernel_rfl, Tryz.func119.trans (congrArg some (by kernel_rfl))⟩
 f23 := ⟨Tryz.f120.name, by kernel_rfl, Tryz.func120.trans (congrArg some (by kernel_rfl))⟩
 f24 := ⟨Tryz.f121.name, by kernel_rfl, Tryz.func121.trans (congrArg some (by kernel_rfl))⟩
 f25 := ⟨Tryz.f122.name, by kernel_rfl, Tryz.func122.trans (congrArg some (by kernel_rfl))⟩
 f26 := ⟨Tryz.f123.name, by kernel_rfl, Tryz.func123.trans (congrArg some (by kernel_rfl))⟩
 f27 := ⟨Tryz.f124.name, by kernel_rfl, Tryz.func124.trans (congrArg some (by kernel_rfl))⟩
 f28 := Tryz.func125.trans (congrArg some (by kernel_rfl))
 f29 := Tryz.func126.trans (congrArg some (by kernel_rfl))
 f46 := ⟨Tryz.f137.name, by kernel_rfl, Tryz.func137.trans (congrArg some (by kernel_rfl))⟩
 f47 := Tryz.func138.trans (congrArg some (by kernel_rfl))
 f48 := Tryz.func139.trans (congrArg some (by kernel_rfl))
 f49 := ⟨Tryz.f140.name, by kernel_rfl, Tryz.func140.trans (congrArg some (by kernel_rfl))⟩
 f50 := ⟨Tryz.f141.name, by kernel_rfl, Tryz.func141.trans (congrArg some (by kernel_rfl))⟩
 f57 := ⟨Tryz.f146.name, by kernel_rfl, Tryz.func146.trans (congrArg some (by kernel_rfl))⟩
 t0 := Tryz.underlying0
 a0 := Tryz.isAgg0
 z0 := Tryz.sizeOf0
 v0 := Tryz.zeroValue0
 t3 := Tryz.underlying3
 a3 := Tryz.isAgg3
 z3 := Tryz.sizeOf3
 v3 := Tryz.zeroValue3
 t4 := Tryz.underlying4
 a4 := Tryz.isAgg4
 z4 := Tryz.sizeOf4
 v4 := Tryz.zeroValue4
 t5 := Tryz.underlying5
 a5 := Tryz.isAgg5
 z5 := Tryz.sizeOf5
 v5 := Tryz.zeroValue5
 t9 := Tryz.underlying9
 a9 := Tryz.isAgg9
 z9 := Tryz.sizeOf9
 v9 := Tryz.zeroValue9
 t22 := Tryz.underlying105
 a22 := Tryz.isAgg105
 z22 := Tryz.sizeOf105
 v22 := Tryz.zeroValue105
 t25 := Tryz.underlying120
 a25 := Tryz.isAgg120
 z25 := Tryz.sizeOf120
 v25 := Tryz.zeroValue120
 t39 := Tryz.underlying130
 a39 := Tryz.isAgg130
 z39 := Tryz.sizeOf130
 v39 := Tryz.zeroValue130
 t45 := Tryz.underlying134
 a45 := Tryz.isAgg134
 z45 := Tryz.sizeOf134
 v45 := Tryz.zeroValue134
 t46 := Tryz.underlying135
 a46 := Tryz.isAgg135
 z46 := Tryz.sizeOf135
 v46 := Tryz.zeroValue135
 t50 := Tryz.underlying139
 a50 := Tryz.isAgg139
 z50 := Tryz.sizeOf139
 v50 := Tryz.zeroValue139
 t53 := Tryz.underlying142
 a53 := Tryz.isAgg142
 z53 := Tryz.sizeOf142
 v53 := Tryz.zeroValue142
 t55 := Tryz.underlying144
 a55 := Tryz.isAgg144
 z55 := Tryz.sizeOf144
 v55 := Tryz.zeroValue144
 t66 := Tryz.underlying152
 a66 := Tryz.isAgg152
 z66 := Tryz.sizeOf152
 v66 := Tryz.zeroValue152
 t70 := Tryz.underlying156
 a70 := Tryz.isAgg156
 z70 := Tryz.sizeOf156
 v70 := Tryz.zeroValue156
 t76 := Tryz.underlying161
 a76 := Tryz.isAgg161
 z76 := Tryz.sizeOf161
 v76 := Tryz.zeroValue161
 t77 := Tryz.underlying162
 a77 := Tryz.isAgg162
 z77 := Tryz.sizeOf162
 v77 := Tryz.zeroValue162
theorem cmpF : ∀ x y : Int × Int, G 449 [.int x.1, .int x.2, .int y.1, .int y.2] = some [.int (cmpE x y)] := fun _ _ => rfl
theorem s103 : SoundCall Tryz.prog 103 ⟨[m1 ⟨true, [i8, i8]⟩ 77 true, .fn 104 []], []⟩ (G 402) := sortFunc_sound srt Tryz.isAgg77 Tryz.sizeOf77 s104 cmpF
theorem s86 : SoundCall Tryz.prog 86 q2 (G 401) := sound (l := [(53, 400, q20), (103, 402, ⟨[m1 ⟨true, [i8, i8]⟩ 77 true, .fn 104 []], []⟩)]) (h := (zn .e (zn .e (zn (zn .e (.n (some (.mk 4 1 [(5, jo 3), (15, ji 6), (16, jb 7)] [(1, .map (.mk 104 77 2 (.s ei 2)) 0 (.v 4) none), (2, .dead), (3, .row (.s1 (.mk true [(.int .i64), (.int .i64)])) 77 (.v 5))])) (.n (some (.mk 3 1 [(5, jo 3), (15, ji 6)] [(1, .map (.mk 104 77 2 (.s ei 2)) 0 (.v 4) none), (2, .dead), (3, .row (.s1 (.mk true [(.int .i64), (.int .i64)])) 77 (.v 5))])) (zn .e (zn .e (zn (zn (zn .e (zn .e (.n (some (.mk 4 1 [(5, jo 4), (20, ji 11), (21, jb 12)] [(1, .map (.mk 104 77 2 (.s ei 2)) 0 (.v 9) none), (3, .dead), (4, .row (.s1 (.mk true [(.int .i64), (.int .i64)])) 77 (.v 10))])) (.n (some (.mk 3 1 [(5, jo 4), (20, ji 11)] [(1, .map (.mk 104 77 2 (.s ei 2)) 0 (.v 9) none), (3, .dead), (4, .row (.s1 (.mk true [(.int .i64), (.int .i64)])) 77 (.v 10))])) (zn .e (zn .e (zn (zn (zn .e (zn .e (zn (zn .e (.n (some (.mk 1 1 [(5, jo 6)] [(4, .dead), (6, .row (.s1 (.mk true [(.int .i64), (.int .i64)])) 77 (.v 23))])) .e .e)) .e))) .e) .e))) .e) .e))) .e) .e))) .e) .e)) .e)))) noX Tryz.func86 (by kernel_rfl) (by kernel_rfl) (run401 rfl rfl) (.cons s53 (.cons s103 .nil))
theorem s54_431 : SoundCall Tryz.prog 54 ⟨[.val true [.rd (.s1 eV), .rd (.s2 ei)], .fn 55 [[.rd (.s1 eV), .rd (.s2 ei)]], .fn 57 []], [r1 ei 2, rv f1, rv .bool]⟩ (G 431) := sound (l := [(55, 426, q10), (57, 428, q42), (86, 401, q2)]) (h := (zn .e (zn .e (zn .e (zn (zn .e (.n (some (.mk 6 0 [(10, jf 9), (11, jb 10), (26, ji 11), (27, jb 12)] [(1, .var [(.s (.dat (.b (.int .i64)) (.v 7))), (.s (.dat (.b (.int .i64)) (.v 8)))])])) (.n (some (.mk 5 0 [(10, jf 9), (11, jb 10), (26, ji 11)] [(1, .var [(.s (.dat (.b (.int .i64)) (.v 7))), (.s (.dat (.b (.int .i64)) (.v 8)))])])) (zn .e (zn .e (zn (zn (zn .e (zn .e (zn .e (.n (some (.mk 4 0 [(10, jf 33), (11, jb 34), (38, ju), (39, ju), (40, ju), (43, ju), (44, ju), (45, ju), (46, ju), (47, ju), (48, ju), (49, ju), (50, ju)] [(1, .var [(.s (.dat (.b (.int .i64)) (.v 31))), (.s (.dat (.b (.int .i64)) (.v 32)))])])) .e .e)))) .e) .e))) .e) .e)) .e))))) noX Tryz.func54 (by kernel_rfl) (by kernel_rfl) (run431 rfl rfl rfl) (.cons s55 (.cons s57 (.cons s86 .nil)))
theorem s25 : SoundCall Tryz.prog 25 q17 (G 434) := sound (l := [(52, 150, q1), (54, 431, ⟨[.val true [.rd (.s1 eV), .rd (.s2 ei)], .fn 55 [[.rd (.s1 eV), .rd (.s2 ei)]], .fn 57 []], [r1 ei 2, rv f1, rv .bool]⟩)]) (h := .e) noX Tryz.func25 (by kernel_rfl) (by kernel_rfl) (run434 rfl rfl) (.cons s52 (.cons s54_431 .nil))
theorem s89 : SoundCall Tryz.prog 89 ⟨[.val true [.rd (.s1 eV), .rd (.s2 ei)], pv i8], [rv .bool]⟩ (G 409) := sound (l := [(52, 150, q1), (40, 19, q22)]) (h := .e) noX Tryz.func89 (by kernel_rfl) (by kernel_rfl) (run409 rfl rfl) (.cons s52 (.cons s40 .nil))
theorem s58 : SoundCall Tryz.prog 58 q5 (G 410) := sound (l := [(23, 403, q1), (89, 409, ⟨[.val true [.rd (.s1 eV), .rd (.s2 ei)], pv i8], [rv .bool]⟩)]) (h := .e) noX Tryz.func58 (by kernel_rfl) (by kernel_rfl) (run410 rfl rfl) (.cons s23 (.cons s89 .nil))
theorem s107 : SoundCall Tryz.prog 107 q38 (G 442) := sound (l := []) (h := (zn .e (zn (zn .e (.n (some (.mk 2 0 [(8, ji 3), (9, jb 4)] [])) (.n (some (.mk 1 0 [(8, ji 3)] [])) .e .e) .e)) .e))) noX Tryz.func107 (by kernel_rfl) (by kernel_rfl) run442 .nil
theorem s90 : SoundCall Tryz.prog 90 q24 (G 441) := sound (l := [(107, 442, q38)]) (h := .e) noX Tryz.func90 (by kernel_rfl) (by kernel_rfl) (run441 rfl) (.cons s107 .nil)
theorem s59 : SoundCall Tryz.prog 59 q31 (G 411) := sound (l := [(90, 441, q24)]) (h := (zn .e (zn .e (zn (zn .e (.n (some (.mk 3 1 [(5, jo 2), (15, ji 6), (16, jb 7)] [(1, .dead), (2, .row (.s1 ei) 2 (.v 5))])) (.n (some (.mk 2 1 [(5, jo 2), (15, ji 6)] [(1, .dead), (2, .row (.s1 ei) 2 (.v 5))])) (zn .e (zn .e (zn (zn (zn .e (zn .e (zn (zn .e (.n (some (.mk 3 0 [(8, jb 10), (22, ji 11), (23, jb 12)] [])) (.n (some (.mk 2 0 [(8, jb 10), (22, ji 11)] [])) .e .e) .e)) (zn .e (.n (some (.mk 1 1 [(5, jo 3)] [(2, .dead), (3, .row (.s1 ei) 2 (.v 13))])) .e .e))))) .e) .e))) .e) .e)) .e)))) noX Tryz.func59 (by kernel_rfl) (by kernel_rfl) (run411 rfl) (.cons s90 .nil)
theorem s92 : SoundCall Tryz.prog 92 q19 (G 31) := sound (l := []) (h := .e) noX Tryz.func92 (by kernel_rfl) (by kernel_rfl) run31 .nil
theorem s91 : SoundCall Tryz.prog 91 q0 (G 30) := sound (l := []) (h := .e) noX Tryz.func91 (by kernel_rfl) (by kernel_rfl) run30 .nil
theorem s60 : SoundCall Tryz.prog 60 q7 (G 424) := sound (l := [(88, 13, q0), (92, 31, q19), (91, 30, q0)]) (h := .e) noX Tryz.func60 (by kernel_rfl) (by kernel_rfl) (run424 rfl rfl rfl) (.cons s88 (.cons s92 (.cons s91 .nil)))
theorem s61 : SoundCall Tryz.prog 61 q37 (G 408) := sound (l := []) (h := .e) noX Tryz.func61 (by kernel_rfl) (by kernel_rfl) run408 .nil
theorem s62 : SoundCall Tryz.prog 62 q23 (G 407) := sound (l := []) (h := (zn .e (zn (zn .e (.n (some (.mk 2 0 [(8, ji 3), (9, jb 4)] [])) (.n (some (.mk 1 0 [(8, ji 3)] [])) .e .e) .e)) .e))) noX Tryz.func62 (by kernel_rfl) (by kernel_rfl) run407 .nil
theorem s26 : SoundCall Tryz.prog 26 ⟨[.val true [.rd (.s1 eV), .rd (.s2 ei)], pv i8, pv i8, pv f1], [(true, [.own (.row (.s1 eV) 70), .own (.rows ei 2 37)]), rv .bool]⟩ (G 422) := sound (l := [(58, 410, q5), (59, 411, q31), (31, 151, q3), (60, 424, q7), (53, 400, q20), (61, 408, q37), (62, 407, q23), (23, 403, q1)]) (h := (zn .e (zn .e (zn .e (zn .e (zn .e (zn .e (zn .e (zn (zn .e (.n (some (.mk 3 1 [(22, ju), (23, ju), (24, ju), (25, ju), (26, ju), (27, ju), (28, ju), (64, ji 38), (65, jb 39)] [(5, .dead), (6, .var [(.s (.own 8)), (.s (.own 9))]), (9, .rows ei 2 37 0 (.v 37))])) (.n (some (.mk 2 1 [(22, ju), (23, ju), (24, ju), (25, ju), (26, ju), (27, ju), (28, ju), (64, ji 38)] [(6, .var [(.s (.own 8)), (.s (.own 9))]), (5, .dead), (9, .rows ei 2 37 0 (.v 37))])) (zn .e (zn .e (zn (zn (zn .e (zn .e (zn .e (.n (some (.mk 1 1 [] [(6, .var [(.s (.own 8)), (.s (.own 10))]), (9, .dead), (10, .rows ei 2 37 0 (.v 48))])) .e .e)))) .e) .e))) .e) .e)) .e))))))))) noX Tryz.func26 (by kernel_rfl) (by kernel_rfl) (run422 rfl rfl rfl rfl rfl rfl rfl rfl) (.cons s58 (.cons s59 (.cons s31 (.cons s60 (.cons s53 (.cons s61 (.cons s62 (.cons s23 .nil))))))))
theorem s63 : SoundCall Tryz.prog 63 q10 (G 426) := sound (l := [(56, 425, q21)]) (h := .e) noX Tryz.func63 (by kernel_rfl) (by kernel_rfl) (run426 rfl) (.cons s56 .nil)
theorem s64 : SoundCall Tryz.prog 64 q42 (G 429) := sound (l := []) (h := .e) noX Tryz.func64 (by kernel_rfl) (by kernel_rfl) run429 .nil
theorem s54_430 : SoundCall Tryz.prog 54 ⟨[.val true [.rd (.s1 eV), .rd (.s2 ei)], .fn 63 [[.rd (.s1 eV), .rd (.s2 ei)]], .fn 64 []], [r1 ei 2, rv f1, rv .bool]⟩ (G 430) := sound (l := [(63, 426, q10), (64, 429, q42), (86, 401, q2)]) (h := (zn .e (zn .e (zn .e (zn (zn .e (.n (some (.mk 6 0 [(10, jf 9), (11, jb 10), (26, ji 11), (27, jb 12)] [(1, .var [(.s (.dat (.b (.int .i64)) (.v 7))), (.s (.dat (.b (.int .i64)) (.v 8)))])])) (.n (some (.mk 5 0 [(10, jf 9), (11, jb 10), (26, ji 11)] [(1, .var [(.s (.dat (.b (.int .i64)) (.v 7))), (.s (.dat (.b (.int .i64)) (.v 8)))])])) (zn .e (zn .e (zn (zn (zn .e (zn .e (zn .e (.n (some (.mk 4 0 [(10, jf 33), (11, jb 34), (38, ju), (39, ju), (40, ju), (43, ju), (44, ju), (45, ju), (46, ju), (47, ju), (48, ju), (49, ju), (50, ju)] [(1, .var [(.s (.dat (.b (.int .i64)) (.v 31))), (.s (.dat (.b (.int .i64)) (.v 32)))])])) .e .e)))) .e) .e))) .e) .e)) .e))))) noX Tryz.func54 (by kernel_rfl) (by kernel_rfl) (run430 rfl rfl rfl) (.cons s63 (.cons s64 (.cons s86 .nil)))
theorem s27 : SoundCall Tryz.prog 27 q17 (G 435) := sound (l := [(52, 150, q1), (54, 430, ⟨[.val true [.rd (.s1 eV), .rd (.s2 ei)], .fn 63 [[.rd (.s1 eV), .rd (.s2 ei)]], .fn 64 []], [r1 ei 2, rv f1, rv .bool]⟩)]) (h := .e) noX Tryz.func27 (by kernel_rfl) (by kernel_rfl) (run435 rfl rfl) (.cons s52 (.cons s54_430 .nil))
def srd_ren : Go.Shelf.Ren := ⟨fun | 45 => 95 | n => n, fun | 22 => 28 | 23 => 70 | 3 => 3 | 4 => 4 | 0 => 0 | n => n, fun n => n⟩
theorem srd : SlLaysE0.n45 Tryz.prog srd_ren where
 mixed := by kernel_rfl
 f45 := ⟨Tryz.f95.name, by kernel_rfl, Tryz.func95.trans (congrArg some (by kernel_rfl))⟩
 t0 := Tryz.underlying0
 a0 := Tryz.isAgg0
 z0 := Tryz.sizeOf0
 v0 := Tryz.zeroValue0
 t3 := Tryz.underlying3
 a3 := Tryz.isAgg3
 z3 := Tryz.sizeOf3
 v3 := Tryz.zeroValue3
 t4 := Tryz.underlying4
 a4 := Tryz.isAgg4
 z4 := Tryz.sizeOf4
 v4 := Tryz.zeroValue4
 t22 := Tryz.underlying28
 a22 := Tryz.isAgg28
 z22 := Tryz.sizeOf28
 v22 := Tryz.zeroValue28
set_option maxRecDepth 100000 in
theorem s95 : SoundCall Tryz.prog 95 ⟨[m1 eV 70 false, pv i8, pv i8], [r1 eV 70]⟩ (G 440) := delete_sound srd rfl Tryz.sizeOf70 _ (.float .f32 0) Tryz.zeroValue70 rfl rfl _ rfl rfl
theorem s66 : SoundCall Tryz.prog 66 q15 (G 439) := sound (l := [(95, 440, ⟨[m1 eV 70 false, pv i8, pv i8], [r1 eV 70]⟩), (90, 441, q24)]) (h := (zn .e (zn .e (zn (zn .e (.n (some (.mk 3 1 [(25, ji 10), (26, jb 11)] [(5, .var [(.s (.own 4)), (.s (.own 6))]), (6, .rows ei 2 37 0 (.v 9))])) (.n (some (.mk 2 1 [(25, ji 10)] [(5, .var [(.s (.own 4)), (.s (.own 6))]), (6, .rows ei 2 37 0 (.v 9))])) (zn .e (zn .e (zn (.n (some (.mk 7 1 [(9, .c (.s (.dat (.s1 ei) (.v 13)))), (28, .c (.s (.dat (.s1 ei) (.v 14)))), (29, .c (.s (.dat (.s1 ei) (.v 15)))), (30, ji 2), (31, jb 16), (32, jb 17), (36, jb 18)] [(5, .var [(.s (.own 4)), (.s (.own 7))]), (6, .dead), (7, .rows ei 2 37 0 (.v 12))])) (zn .e (zn .e (zn .e (zn (zn .e (.n (some (.mk 3 1 [(10, jo 8), (33, ju), (34, ju), (35, ju), (40, ji 21), (41, jb 22)] [(7, .dead), (8, .row (.s1 ei) 2 (.v 20))])) (.n (some (.mk 2 1 [(10, jo 8), (33, ju), (34, ju), (35, ju), (40, ji 21)] [(7, .dead), (8, .row (.s1 ei) 2 (.v 20))])) (zn .e (zn .e (zn (zn (zn .e (zn (zn .e (.n (some (.mk 1 0 [(12, ji 25)] [])) .e .e)) (zn (zn .e (.n (some (.mk 1 0 [(12, ji 27)] [])) .e .e)) .e))) .e) .e))) .e) .e)) .e)))) .e) .e))) .e) .e)) .e)))) noX Tryz.func66 (by kernel_rfl) (by kernel_rfl) (run439 rfl rfl) (.cons s95 (.cons s90 .nil))
def sri_ren : Go.Shelf.Ren := ⟨fun | 53 => 108 | 64 => 113 | 63 => 115 | 78 => 125 | 79 => 126 | 70 => 128 | 71 => 129 | 72 => 130 | 73 => 131 | 74 => 132 | 75 => 133 | 59 => 134 | 76 => 135 | 77 => 136 | 88 => 143 | 89 => 138 | 90 => 139 | 91 => 144 | 92 => 145 | 68 => 142 | 96 => 147 | n => n, fun | 22 => 37 | 23 => 2 | 3 => 3 | 51 => 130 | 0 => 0 | 67 => 142 | 69 => 144 | 4 => 4 | 61 => 135 | 60 => 134 | 44 => 139 | 5 => 5 | 9 => 9 | 75 => 152 | 79 => 156 | 83 => 161 | 84 => 162 | n => n, fun n => n⟩
theorem sri : SlLaysN.n53 Tryz.prog sri_ren where
 mixed := by kernel_rfl
 f53 := ⟨Tryz.f108.name, by kernel_rfl, Tryz.func108.trans (congrArg some (by kernel_rfl))⟩
 f59 := ⟨Tryz.f134.name, by kernel_rfl, Tryz.func134.trans (congrArg some (by kernel_rfl))⟩
 f63 := ⟨Tryz.f115.name, by kernel_rfl, Tryz.func115.trans (congrArg some (by kernel_rfl))⟩
 f64 := Tryz.func113.trans (congrArg some (by kernel_rfl))
 f68 := ⟨Tryz.f142.name, by kernel_rfl, Tryz.func142.trans (congrArg some (by kernel_rfl))⟩
 f70 := ⟨Tryz.f128.name, by kernel_rfl, Tryz.func128.trans (congrArg some (by kernel_rfl))⟩
 f71 := ⟨Tryz.f129.name, by kernel_rfl, Tryz.func129.trans (congrArg some (by kernel_rfl))⟩
 f72 := ⟨Tryz.f130.name, by kernel_rfl, Tryz.func130.trans (congrArg some (by kernel_rfl))⟩
 f73 := ⟨Tryz.f131.name, by kernel_rfl, Tryz.func131.trans (congrArg some (by kernel_rfl))⟩
 f74 := ⟨Tryz.f132.name, by kernel_rfl, Tryz.func132.trans (congrArg some (by kernel_rfl))⟩
 f75 := ⟨Tryz.f133.name, by kernel_rfl, Tryz.func133.trans (congrArg some (by kernel_rfl))⟩
 f76 := ⟨Tryz.f135.name, by kernel_rfl, Tryz.func135.trans (congrArg some (by kernel_rfl))⟩
 f77 := ⟨Tryz.f136.name, by kernel_rfl, Tryz.func136.trans (congrArg some (by kernel_rfl))⟩
 f78 := Tryz.func125.trans (congrArg some (by kernel_rfl))
 f79 := Tryz.func126.trans (congrArg some (by kernel_rfl))
 f88 := ⟨Tryz.f143.name, by kernel_rfl, Tryz.func143.trans (congrArg some (by kernel_rfl))⟩
 f89 := Tryz.func138.trans (congrArg some (by kernel_rfl))
 f90 := Tryz.func139.trans (congrArg some (by kernel_rfl))
 f91 := ⟨Tryz.f144.name, by kernel_rfl, Tryz.func144.trans (congrArg some (by kernel_rfl))⟩
 f92 := ⟨Tryz.f145.name, by kernel_rfl, Tryz.func145.trans (congrArg some (by kernel_rfl))⟩
 f96 := ⟨Tryz.f147.name, by kernel_rfl, Tryz.func147.trans (congrArg some (by kernel_rfl))⟩
 t0 := Tryz.underlying0
 a0 := Tryz.isAgg0
 z0 := Tryz.sizeOf0
 v0 := Tryz.zeroValue0
 t3 := Tryz.underlying3
 a3 := Tryz.isAgg3
 z3 := Tryz.sizeOf3
 v3 := Tryz.zeroValue3
 t4 := Tryz.underlying4
 a4 := Tryz.isAgg4
 z4 := Tryz.sizeOf4
 v4 := Tryz.zeroValue4
 t5 := Tryz.underlying5
 a5 := Tryz.isAgg5
 z5 := Tryz.sizeOf5
 v5 := Tryz.zeroValue5
 t9 := Tryz.underlying9
 a9 := Tryz.isAgg9
 z9 := Tryz.sizeOf9
 v9 := Tryz.zeroValue9
 t22 := Tryz.underlying37
 a22 := Tryz.isAgg37
 z22 := Tryz.sizeOf37
 v22 := Tryz.zeroValue37
 t23 := Tryz.underlying2
 a23 := Tryz.isAgg2
 z23 := Tryz.sizeOf2
 v23 := Tryz.zeroValue2
 t44 := Tryz.underlying139
 a44 := Tryz.isAgg139
 z44 := Tryz.sizeOf139
 v44 := Tryz.zeroValue139
 t51 := Tryz.underlying130
 a51 := Tryz.isAgg130
 z51 := Tryz.sizeOf130
 v51 := Tryz.zeroValue130
 t60 := Tryz.underlying134
 a60 := Tryz.isAgg134
 z60 := Tryz.sizeOf134
 v60 := Tryz.zeroValue134
 t61 := Tryz.underlying135
 a61 := Tryz.isAgg135
 z61 := Tryz.sizeOf135
 v61 := Tryz.zeroValue135
 t67 := Tryz.underlying142
 a67 := Tryz.isAgg142
 z67 := Tryz.sizeOf142
 v67 := Tryz.zeroValue142
 t69 := Tryz.underlying144
 a69 := Tryz.isAgg144
 z69 := Tryz.sizeOf144
 v69 := Tryz.zeroValue144
 t75 := Tryz.underlying152
 a75 := Tryz.isAgg152
 z75 := Tryz.sizeOf152
 v75 := Tryz.zeroValue152
 t79 := Tryz.underlying156
 a79 := Tryz.isAgg156
 z79 := Tryz.sizeOf156
 v79 := Tryz.zeroValue156
 t83 := Tryz.underlying161
 a83 := Tryz.isAgg161
 z83 := Tryz.sizeOf161
 v83 := Tryz.zeroValue161
 t84 := Tryz.underlying162
 a84 := Tryz.isAgg162
 z84 := Tryz.sizeOf162
 v84 := Tryz.zeroValue162
theorem s108 : SoundCall Tryz.prog 108 ⟨[m1 ei 2 true], []⟩ (G 405) := sort_sound sri
theorem s93 : SoundCall Tryz.prog 93 q1 (G 404) := sound (l := [(108, 405, ⟨[m1 ei 2 true], []⟩)]) (h := (zn .e (zn .e (zn (zn .e (.n (some (.mk 3 0 [(12, ji 4), (13, jb 5)] [(1, .map (.mk 122 124 3 (.b .bool)) 0 (.v 3) none)])) (.n (some (.mk 2 0 [(12, ji 4)] [(1, .map (.mk 122 124 3 (.b .bool)) 0 (.v 3) none)])) .e .e) .e)) .e)))) noX Tryz.func93 (by kernel_rfl) (by kernel_rfl) (run404 rfl) (.cons s108 .nil)
theorem s109 : SoundCall Tryz.prog 109 ⟨[.val true [.rd (.s1 eV), .rd (.s2 ei)]], [r1 eb 4]⟩ (G 169) := sound (l := []) (h := (zn .e (zn .e (zn (zn .e (.n (some (.mk 3 0 [(15, ji 6), (16, jb 7)] [(1, .row (.s1 (.mk false [.bool])) 4 (.v 5))])) (.n (some (.mk 2 0 [(15, ji 6)] [(1, .row (.s1 (.mk false [.bool])) 4 (.v 5))])) (zn .e (zn .e (zn (zn (zn .e (zn .e (.n (some (.mk 3 0 [(21, ji 11), (22, jb 12)] [(1, .row (.s1 (.mk false [.bool])) 4 (.v 10))])) (.n (some (.mk 2 0 [(21, ji 11)] [(1, .row (.s1 (.mk false [.bool])) 4 (.v 10))])) .e .e) .e))) .e) .e))) .e) .e)) .e)))) noX Tryz.func109 (by kernel_rfl) (by kernel_rfl) run169 .nil
theorem s94 : SoundCall Tryz.prog 94 ⟨[.val true [.rd (.s1 eV), .rd (.s2 ei)]], [rv i8, rv .bool]⟩ (G 445) := sound (l := [(52, 150, q1), (109, 169, ⟨[.val true [.rd (.s1 eV), .rd (.s2 ei)]], [r1 eb 4]⟩), (86, 401, q2)]) (h := (zn .e (zn .e (zn .e (zn (zn .e (.n (some (.mk 3 0 [(4, ji 7), (18, ji 8), (19, jb 9)] [])) (.n (some (.mk 2 0 [(4, ji 7), (18, ji 8)] [])) (zn .e (zn .e (zn (zn (zn .e (zn .e (.n (some (.mk 1 0 [(4, ji 12)] [])) .e .e))) .e) .e))) .e) .e)) .e))))) noX Tryz.func94 (by kernel_rfl) (by kernel_rfl) (run445 rfl rfl rfl) (.cons s52 (.cons s109 (.cons s86 .nil)))
theorem s65 : SoundCall Tryz.prog 65 q5 (G 443) := sound (l := [(58, 410, q5), (59, 411, q31), (66, 439, q15), (23, 403, q1), (93, 404, q1), (94, 445, ⟨[.val true [.rd (.s1 eV), .rd (.s2 ei)]], [rv i8, rv .bool]⟩)]) (h := .e) noX Tryz.func65 (by kernel_rfl) (by kernel_rfl) (run443 rfl rfl rfl rfl rfl rfl) (.cons s58 (.cons s59 (.cons s66 (.cons s23 (.cons s93 (.cons s94 .nil))))))
theorem s28 : SoundCall Tryz.prog 28 q12 (G 444) := sound (l := [(65, 443, q5), (66, 439, q15)]) (h := .e) noX Tryz.func28 (by kernel_rfl) (by kernel_rfl) (run444 rfl rfl) (.cons s65 (.cons s66 .nil))
theorem s70 : SoundCall Tryz.prog 70 q9 (G 406) := sound (l := [(86, 401, q2), (53, 400, q20), (62, 407, q23), (61, 408, q37)]) (h := (zn .e (zn .e (zn .e (zn .e (zn .e (zn .e (zn (zn .e (.n (some (.mk 2 0 [(15, ji 19), (16, ji 20)] [])) .e .e)) .e)))))))) noX Tryz.func70 (by kernel_rfl) (by kernel_rfl) (run406 rfl rfl rfl rfl) (.cons s86 (.cons s53 (.cons s62 (.cons s61 .nil))))
theorem s68 : SoundCall Tryz.prog 68 ⟨[.val true [.rd (.s1 eV), .rd (.s2 ei)], pv i8, pv i8], [rv f1, rv .bool]⟩ (G 417) := sound (l := [(70, 406, q9), (88, 13, q0), (87, 15, q13)]) (h := .e) noX Tryz.func68 (by kernel_rfl) (by kernel_rfl) (run417 rfl rfl rfl rfl rfl) (.cons s70 (.cons s88 (.cons s87 .nil)))
theorem s67 : SoundCall Tryz.prog 67 q10 (G 427) := sound (l := [(68, 417, ⟨[.val true [.rd (.s1 eV), .rd (.s2 ei)], pv i8, pv i8], [rv f1, rv .bool]⟩)]) (h := .e) noX Tryz.func67 (by kernel_rfl) (by kernel_rfl) (run427 rfl) (.cons s68 .nil)
theorem s54_432 : SoundCall Tryz.prog 54 ⟨[.val true [.rd (.s1 eV), .rd (.s2 ei)], .fn 67 [[.rd (.s1 eV), .rd (.s2 ei)]], .fn 57 []], [r1 ei 2, rv f1, rv .bool]⟩ (G 432) := sound (l := [(67, 427, q10), (57, 428, q42), (86, 401, q2)]) (h := (zn .e (zn .e (zn .e (zn (zn .e (.n (some (.mk 6 0 [(10, jf 9), (11, jb 10), (26, ji 11), (27, jb 12)] [(1, .var [(.s (.dat (.b (.int .i64)) (.v 7))), (.s (.dat (.b (.int .i64)) (.v 8)))])])) (.n (some (.mk 5 0 [(10, jf 9), (11, jb 10), (26, ji 11)] [(1, .var [(.s (.dat (.b (.int .i64)) (.v 7))), (.s (.dat (.b (.int .i64)) (.v 8)))])])) (zn .e (zn .e (zn (zn (zn .e (zn .e (zn .e (.n (some (.mk 4 0 [(10, jf 33), (11, jb 34), (38, ju), (39, ju), (40, ju), (43, ju), (44, ju), (45, ju), (46, ju), (47, ju), (48, ju), (49, ju), (50, ju)] [(1, .var [(.s (.dat (.b (.int .i64)) (.v 31))), (.s (.dat (.b (.int .i64)) (.v 32)))])])) .e .e)))) .e) .e))) .e) .e)) .e))))) noX Tryz.func54 (by kernel_rfl) (by kernel_rfl) (run432 rfl rfl rfl) (.cons s67 (.cons s57 (.cons s86 .nil)))
theorem s29 : SoundCall Tryz.prog 29 q17 (G 436) := sound (l := [(23, 403, q1), (54, 432, ⟨[.val true [.rd (.s1 eV), .rd (.s2 ei)], .fn 67 [[.rd (.s1 eV), .rd (.s2 ei)]], .fn 57 []], [r1 ei 2, rv f1, rv .bool]⟩)]) (h := .e) noX Tryz.func29 (by kernel_rfl) (by kernel_rfl) (run436 rfl rfl) (.cons s23 (.cons s54_432 .nil))
theorem s69 : SoundCall Tryz.prog 69 q5 (G 419) := sound (l := [(58, 410, q5), (70, 406, q9)]) (h := .e) noX Tryz.func69 (by kernel_rfl) (by kernel_rfl) (run419 rfl rfl) (.cons s58 (.cons s70 .nil))
theorem s30 : SoundCall Tryz.prog 30 q12 (G 421) := sound (l := [(69, 419, q5), (70, 406, q9), (31, 151, q3)]) (h := .e) noX Tryz.func30 (by kernel_rfl) (by kernel_rfl) (run421 rfl rfl rfl rfl rfl) (.cons s69 (.cons s70 (.cons s31 .nil)))
theorem s8 : SoundCall Tryz.prog 8 ⟨[.val true [.rd (.s1 eV), .rd (.s2 ei)], pv f1, pv f1], [(true, [.own (.row (.s1 eV) 70), .own (.rows ei 2 37)]), rv i8, rv .bool]⟩ (G 500) := sound (l := [(23, 403, q1), (24, 1, q49), (25, 434, q17), (26, 422, ⟨[.val true [.rd (.s1 eV), .rd (.s2 ei)], pv i8, pv i8, pv f1], [(true, [.own (.row (.s1 eV) 70), .own (.rows ei 2 37)]), rv .bool]⟩), (27, 435, q17), (28, 444, q12), (29, 436, q17), (30, 421, q12), (31, 151, q3)]) (h := (zn .e (zn .e (zn (zn .e (zn .e (.n (some (.mk 0 0 [(28, ju), (29, ju), (30, ju), (33, ju), (34, ju), (35, ju), (46, ju), (47, ju), (48, ju)] [])) .e .e))) (zn (zn .e (zn .e (.n (some (.mk 0 0 [(71, ju), (72, ju), (73, ju)] [])) .e .e))) (zn (zn .e (zn .e (.n (some (.mk 0 0 [(96, ju), (97, ju)] [])) .e .e))) .e)))))) noX Tryz.func8 (by kernel_rfl) (by kernel_rfl) (run500 rfl rfl rfl rfl rfl rfl rfl rfl rfl) (.cons s23 (.cons s24 (.cons s25 (.cons s26 (.cons s27 (.cons s28 (.cons s29 (.cons s30 (.cons s31 .nil)))))))))
theorem s13 : SoundCall Tryz.prog 13 q11 (G 504) := sound (l := [(23, 403, q1), (24, 1, q49), (40, 19, q22), (31, 151, q3), (8, 500, ⟨[.val true [.rd (.s1 eV), .rd (.s2 ei)], pv f1, pv f1], [(true, [.own (.row (.s1 eV) 70), .own (.rows ei 2 37)]), rv i8, rv .bool]⟩)]) (h := (zn .e (zn .e (zn .e (zn (zn .e (.n (some (.mk 5 3 [(12, jo 8), (20, ju), (21, ju), (22, ju), (25, ju), (26, ju), (27, ju), (30, ju), (31, ju), (32, ju), (39, ji 25), (40, jb 26)] [(2, .dead), (3, .dead), (4, .dead), (5, .var [(.s (.own 6)), (.s (.own 7))]), (6, .row (.s1 eV) 70 (.v 22)), (7, .rows ei 2 37 0 (.v 23)), (8, .row (.s1 ei) 2 (.v 24))])) (.n (some (.mk 4 3 [(12, jo 8), (20, ju), (21, ju), (22, ju), (25, ju), (26, ju), (27, ju), (30, ju), (31, ju), (32, ju), (39, ji 25)] [(5, .var [(.s (.own 6)), (.s (.own 7))]), (2, .dead), (3, .dead), (4, .dead), (6, .row (.s1 eV) 70 (.v 22)), (7, .rows ei 2 37 0 (.v 23)), (8, .row (.s1 ei) 2 (.v 24))])) .e .e) .e)) .e))))) noX Tryz.func13 (by kernel_rfl) (by kernel_rfl) (run504 rfl rfl rfl rfl rfl) (.cons s23 (.cons s24 (.cons s40 (.cons s31 (.cons s8 .nil)))))
theorem s96 : SoundCall Tryz.prog 96 ⟨[pv f8, pv f8], [rv .bool]⟩ (G 4) := sound (l := []) (h := .e) noX Tryz.func96 (by kernel_rfl) (by kernel_rfl) run4 .nil
theorem s71 : SoundCall Tryz.prog 71 ⟨[.val true [.rd (.b f1), .rd (.b f1), .rd (.b f1)], .val true [.rd (.b f1), .rd (.b f1), .rd (.b f1)]], [rv .bool]⟩ (G 40) := sound (l := [(96, 4, ⟨[pv f8, pv f8], [rv .bool]⟩)]) (h := .e) noX Tryz.func71 (by kernel_rfl) (by kernel_rfl) (run40 rfl) (.cons s96 .nil)
theorem s32 : SoundCall Tryz.prog 32 ⟨[p1 eV, p1 eV], [rv .bool]⟩ (G 127) := sound (l := [(71, 40, ⟨[.val true [.rd (.b f1), .rd (.b f1), .rd (.b f1)], .val true [.rd (.b f1), .rd (.b f1), .rd (.b f1)]], [rv .bool]⟩)]) (h := (zn .e (zn .e (zn (zn .e (.n (some (.mk 4 0 [(5, ji 5), (11, ji 6), (12, .c (.s (.dat (.s1 eV) (.v 0)))), (13, ji 7), (14, jb 8)] [])) (.n (some (.mk 1 0 [(5, ji 5)] [])) .e .e) .e)) .e)))) noX Tryz.func32 (by kernel_rfl) (by kernel_rfl) (run127 rfl) (.cons s71 .nil)
theorem s14 : SoundCall Tryz.prog 14 q54 (G 100) := sound (l := []) (h := (zn .e (zn .e (zn (zn .e (.n (some (.mk 4 0 [(5, ji 5), (11, ji 6), (12, .c (.s (.dat (.s1 ei) (.v 0)))), (13, ji 7), (14, jb 8)] [])) (.n (some (.mk 1 0 [(5, ji 5)] [])) .e .e) .e)) .e)))) noX Tryz.func14 (by kernel_rfl) (by kernel_rfl) run100 .nil
theorem s33 : SoundCall Tryz.prog 33 ⟨[p2 ei, p2 ei], [rv .bool]⟩ (G 101) := sound (l := [(14, 100, q54)]) (h := (zn .e (zn .e (zn (zn .e (.n (some (.mk 4 0 [(5, ji 5), (11, ji 6), (12, .c (.s (.dat (.s2 ei) (.v 0)))), (13, ji 7), (14, jb 8)] [])) (.n (some (.mk 1 0 [(5, ji 5)] [])) .e .e) .e)) .e)))) noX Tryz.func33 (by kernel_rfl) (by kernel_rfl) (run101 rfl) (.cons s14 .nil)
theorem s9 : SoundCall Tryz.prog 9 ⟨[.val true [.rd (.s1 eV), .rd (.s2 ei)], .val true [.rd (.s1 eV), .rd (.s2 ei)]], [rv .bool]⟩ (G 146) := sound (l := [(32, 127, ⟨[p1 eV, p1 eV], [rv .bool]⟩), (33, 101, ⟨[p2 ei, p2 ei], [rv .bool]⟩)]) (h := .e) noX Tryz.func9 (by kernel_rfl) (by kernel_rfl) (run146 rfl rfl) (.cons s32 (.cons s33 .nil))
theorem s34 : SoundCall Tryz.prog 34 ⟨[m1 eV 70 true, pv i8], [rv i8]⟩ (G 128) := sound (l := []) (h := (zn .e (zn (zn .e (.n (some (.mk 6 0 [(1, ji 3), (5, ji 4), (6, ji 5), (7, jo 0), (8, ji 6), (9, jb 7)] [(0, .row (.s1 eV) 70 (.v 2))])) (.n (some (.mk 3 0 [(1, ji 3), (5, ji 4)] [(0, .row (.s1 eV) 70 (.v 2))])) .e .e) .e)) .e))) noX Tryz.func34 (by kernel_rfl) (by kernel_rfl) run128 .nil
theorem s15 : SoundCall Tryz.prog 15 q48 (G 102) := sound (l := []) (h := (zn .e (zn (zn .e (.n (some (.mk 6 0 [(1, ji 3), (5, ji 4), (6, ji 5), (7, jo 0), (8, ji 6), (9, jb 7)] [(0, .row (.s1 ei) 2 (.v 2))])) (.n (some (.mk 3 0 [(1, ji 3), (5, ji 4)] [(0, .row (.s1 ei) 2 (.v 2))])) .e .e) .e)) .e))) noX Tryz.func15 (by kernel_rfl) (by kernel_rfl) run102 .nil
theorem s35 : SoundCall Tryz.prog 35 ⟨[m2 ei 2 37 true, pv i8], [rv i8]⟩ (G 103) := sound (l := [(15, 102, q48)]) (h := (zn .e (zn (zn .e (.n (some (.mk 6 0 [(1, ji 3), (5, ji 4), (6, ji 5), (7, jo 0), (8, ji 6), (9, jb 7)] [(0, .rows ei 2 37 0 (.v 2))])) (.n (some (.mk 3 0 [(1, ji 3), (5, ji 4)] [(0, .rows ei 2 37 0 (.v 2))])) .e .e) .e)) .e))) noX Tryz.func35 (by kernel_rfl) (by kernel_rfl) (run103 rfl) (.cons s15 .nil)
theorem s10 : SoundCall Tryz.prog 10 ⟨[.val true [.mt (.row (.s1 eV) 70) true, .mt (.rows ei 2 37) true], pv i8], [rv i8]⟩ (G 147) := sound (l := [(34, 128, ⟨[m1 eV 70 true, pv i8], [rv i8]⟩), (35, 103, ⟨[m2 ei 2 37 true, pv i8], [rv i8]⟩)]) (h := .e) noX Tryz.func10 (by kernel_rfl) (by kernel_rfl) (run147 rfl rfl) (.cons s34 (.cons s35 .nil))
theorem s36 : SoundCall Tryz.prog 36 q56 (G 129) := sound (l := []) (h := (zn .e (zn (zn .e (.n (some (.mk 5 0 [(1, ji 2), (5, ji 3), (6, ji 4), (7, .c (.s (.dat (.s1 eV) (.v 0)))), (8, ji 5), (9, jb 6)] [])) (.n (some (.mk 2 0 [(1, ji 2), (5, ji 3)] [])) .e .e) .e)) .e))) noX Tryz.func36 (by kernel_rfl) (by kernel_rfl) run129 .nil
theorem s16 : SoundCall Tryz.prog 16 q38 (G 104) := sound (l := []) (h := (zn .e (zn (zn .e (.n (some (.mk 5 0 [(1, ji 2), (5, ji 3), (6, ji 4), (7, .c (.s (.dat (.s1 ei) (.v 0)))), (8, ji 5), (9, jb 6)] [])) (.n (some (.mk 2 0 [(1, ji 2), (5, ji 3)] [])) .e .e) .e)) .e))) noX Tryz.func16 (by kernel_rfl) (by kernel_rfl) run104 .nil
theorem s37 : SoundCall Tryz.prog 37 q57 (G 105) := sound (l := [(16, 104, q38)]) (h := (zn .e (zn (zn .e (.n (some (.mk 5 0 [(1, ji 2), (5, ji 3), (6, ji 4), (7, .c (.s (.dat (.s2 ei) (.v 0)))), (8, ji 5), (9, jb 6)] [])) (.n (some (.mk 2 0 [(1, ji 2), (5, ji 3)] [])) .e .e) .e)) .e))) noX Tryz.func37 (by kernel_rfl) (by kernel_rfl) (run105 rfl) (.cons s16 .nil)
theorem s11 : SoundCall Tryz.prog 11 q36 (G 148) := sound (l := [(36, 129, q56), (37, 105, q57)]) (h := .e) noX Tryz.func11 (by kernel_rfl) (by kernel_rfl) (run148 rfl rfl) (.cons s36 (.cons s37 .nil))
theorem s4 : SoundCall Tryz.prog 4 ⟨[.val true [.rd (.s1 eV), .rd (.s2 ei)], pv f1, pv f1, pv i8], [rv .bool]⟩ (G 505) := sound (l := [(5, 142, q36), (7, 145, q3), (12, 504, q11), (13, 504, q11), (9, 146, ⟨[.val true [.rd (.s1 eV), .rd (.s2 ei)], .val true [.rd (.s1 eV), .rd (.s2 ei)]], [rv .bool]⟩), (14, 100, q54), (10, 147, ⟨[.val true [.mt (.row (.s1 eV) 70) true, .mt (.rows ei 2 37) true], pv i8], [rv i8]⟩), (15, 102, q48), (11, 148, q36), (16, 104, q38)]) (h := .e) noX Tryz.func4 (by kernel_rfl) (by kernel_rfl) (run505 rfl rfl rfl rfl rfl rfl rfl rfl rfl) (.cons s5 (.cons s7 (.cons s12 (.cons s13 (.cons s9 (.cons s14 (.cons s10 (.cons s15 (.cons s11 (.cons s16 .nil))))))))))
theorem own : ownKnob Tryz.prog.godebug = none := by kernel_rfl
theorem laidOut : laidOutB Tryz.prog = true := by kernel_rfl
theorem mapsRow : mapsRowed Tryz.prog = true := by kernel_rfl
theorem slicesFull : ((List.range Tryz.prog.types.size).all fun t => match Tryz.prog.underlying t with | some (.slice e) => decide (0 < Tryz.prog.cellsOf e) | _ => true) = true := by kernel_rfl
set_option maxRecDepth 100000 in
theorem mendMesh_lifted (os : Os) (started : os.Started) (H : Type) (enc : TypeId × Value → H) :
  ReturnsInHanded {} Tryz.checked os 4 .any (Rows.fnExactMendMeshSpec.pre6 enc Tryz.prog Tryz.f4 Rows.fnExactMendMeshRow.domain false) (Rows.fnExactMendMeshSpec.post enc Tryz.prog Tryz.f4 false true false false) := by
 refine returnsInHanded_of_change (C := Tryz.checked) own started (by kernel_rfl) Tryz.func4
  (ChangeSpec.witness6 (enc := enc) (C := Tryz.checked) false ⟨#[], #[.agg #[.slice none 0 0, .slice none 0 0], .float .f32 0, .float .f32 0, .int .i64 0], []⟩ 8 (by kernel_rfl) (by kernel_rfl) (by kernel_rfl) (by kernel_rfl)) ?_
 intro W base args ds gs before hval0 hW hcnd _
 have hval : ∀ (j : Nat) t v, Tryz.f4.params.toList[j]? = some t → args.toList[j]? = some v → Value.okWide Tryz.prog W .any base t v := fun j t v h1 h2 => hval0 j t v (by simpa using h1) (by simpa using h2)
 obtain ⟨p, q, hA, hV, _⟩ := id hW
 obtain ⟨xs, hX, hF0, hl0⟩ := args_mix (ps := [(true, [.s1 eV, .s2 ei]), (false, [.b f1]), (false, [.b f1]), (false, [.b i8])]) (by kernel_rfl) hA hval
 rw [← Fm_nil] at hX
 obtain ⟨x0, ys0, rfl, hb0, hF1⟩ := fitsd_vl hF0
 obtain ⟨x1, ys1, rfl, hb1, hF2⟩ := fitsd_tl hF1
 obtain ⟨x2, ys2, rfl, hF3⟩ := fitsd_flt hF2
 obtain ⟨x3, ys3, rfl, hF4⟩ := fitsd_flt hF3
 obtain ⟨x4, ys4, rfl, hF5⟩ := fitsd_int hF4
 obtain rfl := fitsd_nil hF5
 rw [Tryz.params4] at hl0
 obtain ⟨d0, es0, rfl, hl1⟩ := len_cons hl0
 obtain ⟨d1, es1, rfl, hl2⟩ := len_cons hl1
 obtain ⟨d2, es2, rfl, hl3⟩ := len_cons hl2
 obtain ⟨d3, es3, rfl, hl4⟩ := len_cons hl3
 obtain rfl := len_nil hl4
 exact law_of_sound (bT := true) (tb := 4) laidOut mapsRow slicesFull (by kernel_rfl) (by kernel_rfl) (by kernel_rfl) rfl ⟨rfl, rfl, rfl⟩ s4 rfl hW ⟨_, hX, by show F505 [vl x0, tl x1, .flt x2, .flt x3, .int x4] = _; simp only [F505, dV_vl, dT_tl, Option.bind_some]; exact if_pos ⟨hb0, hb1.1, hb1.2⟩⟩
theorem mendMesh_holds : Rows.FnExactMendMeshSaid :=
 OpenClaim.holds_of_wide 4 Tryz.f4 rfl rfl rfl rfl rfl rfl rfl ⟨rfl, rfl, rfl, rfl, rfl⟩ rfl rfl rfl rfl rfl (by kernel_rfl) Tryz.func4 (by kernel_rfl)
  (of_decide_eq_true (by kernel_rfl)) (by unfold Func.isWrapper; first | (rw [if_pos (by decide +kernel)]; kernel_rfl) | (rw [if_neg (by decide +kernel)]; exact ⟨rfl, rfl⟩))
  (fun os started H enc _ => mendMesh_lifted os started H enc)
end Go.Proofs.YtflfikfcbohddaaGreat
