/-
  Proved: for all arguments the program's JoinEdge returns what the reference's returns, in memory of its own, and leaves its arguments as they were (the law answers true). Conditions: none.
-/
import Derived.Test.YtflfikfcbohddaaRows
import Derived.Test.YtflfikfcbohddaaK8
import Derived.Test.YtflfikfcbohddaaK37
namespace Go.Proofs.Ytflfikfcbohddaa
open Vs Go Go.Shelf Go.RowKit Go.ChangeShapes Go.WideShapes Go.ChangeAt
noncomputable def G : Vs.Told
 | 4 => F4
 | 16 => F16
 | 19 => F19
 | 40 => F40
 | 100 => F100
 | 101 => F101
 | 102 => F102
 | 103 => F103
 | 104 => F104
 | 105 => F105
 | 120 => F120
 | 121 => F121
 | 127 => F127
 | 128 => F128
 | 129 => F129
 | 140 => F140
 | 141 => F141
 | 142 => F142
 | 143 => F143
 | 144 => F144
 | 145 => F145
 | 146 => F146
 | 147 => F147
 | 148 => F148
 | 149 => F149
 | 150 => F150
 | 167 => F167
 | 168 => F168g
 | 169 => F169
 | 210 => F210m
 | 400 => F400
 | 401 => F401
 | 402 => F402
 | 403 => F403
 | 404 => F404
 | 405 => F405
 | 407 => F407
 | 409 => F409
 | 410 => F410
 | 411 => F411
 | 413 => F413
 | 414 => F414
 | 438 => F438
 | 439 => F439
 | 440 => F440
 | 441 => F441
 | 442 => F442
 | 443 => F443
 | 444 => F444
 | 445 => F445
 | 446 => F446
 | 447 => F447
 | 448 => F448
 | 449 => F449
 | 450 => F450
 | 451 => F451
 | 452 => F452
 | 453 => F453
 | 468 => F468
 | _ => fun _ => none
def ji (k : Nat) : SV := .c (.s (.dat (.b (.int .i64)) (.v k)))
def jf (k : Nat) : SV := .c (.s (.dat (.b (.flt .f32)) (.v k)))
def jb (k : Nat) : SV := .c (.s (.dat (.b .bool) (.v k)))
def jo (k : Nat) : SV := .c (.s (.own k))
def jm (k : Nat) : SV := .c (.s (.fcel [.d (.s1 eV) (.v 0), .d (.s2 ei) (.v 1)] k))
def ju : SV := .c (.s .undef)
def zn (l r : H) : H := .n none l r
def q0 : Sig := ⟨[.val true [.rd (.s1 eV), .rd (.s2 ei)]], [rv .bool]⟩
def q1 : Sig := ⟨[.val true [.rd (.s1 eV), .rd (.s2 ei)], pv i8, pv i8], [(true, [.own (.row (.s1 eV) 62), .own (.rows ei 2 39)]), rv .bool]⟩
def q2 : Sig := ⟨[.val true [.rd (.s1 eV), .rd (.s2 ei)], pv i8, pv i8], [(true, [.own (.row (.s1 eV) 62), .own (.rows ei 2 39)])]⟩
def q3 : Sig := ⟨[.ptr [.rd (.s1 eV), .rd (.s2 ei)]], [rv .bool]⟩
def q4 : Sig := ⟨[.ptr [.rd (.s1 eV), .rd (.s2 ei)], pv i8, pv i8], [r1 ei 2]⟩
def q5 : Sig := ⟨[p1 ei, pv i8], [rv .bool]⟩
def q6 : Sig := ⟨[pv i8, pv i8, pv i8], [rv .bool]⟩
def q7 : Sig := ⟨[.val true [.rd (.s1 eV), .rd (.s2 ei)], pv i8, pv i8], [rv .bool]⟩
def q10 : Sig := ⟨[.val true [.rd (.s1 eV), .rd (.s2 ei)], pv i8], [rv i8]⟩
def q12 : Sig := ⟨[.ptr [.rd (.s1 eV), .rd (.s2 ei)]], [r2 ei 2 39]⟩
def q14 : Sig := ⟨[pv i8, pv i8], [(true, [.cell i8, .cell i8])]⟩
def q18 : Sig := ⟨[p1 ei, pv i8], [rv i8]⟩
def q19 : Sig := ⟨[pv i8, pv i8], [rv i8]⟩
def q26 : Sig := ⟨[p1 eV, pv i8], [rv i8]⟩
def q27 : Sig := ⟨[p2 ei, pv i8], [rv i8]⟩
theorem noX : ∀ x ∈ ([] : List (FuncId × Ext)), ∀ args w, (callFunc x.1 args).run Try.prog w = ((extFn x.2 args).run Try.prog w).andThen fun v w' => .ok (.value v) w' := by
 intro x hx; cases hx
theorem s42 : SoundCall Try.prog 42 q26 (G 120) := sound (l := []) (h := .e) noX Try.func42 (by kernel_rfl) (by kernel_rfl) run120 .nil
theorem s93 : SoundCall Try.prog 93 q18 (G 140) := sound (l := []) (h := .e) noX Try.func93 (by kernel_rfl) (by kernel_rfl) run140 .nil
theorem s43 : SoundCall Try.prog 43 q27 (G 141) := sound (l := [(93, 140, q18)]) (h := (zn .e (zn .e (zn .e (zn (zn .e (.n (some (.mk 5 0 [(1, ji 5), (5, ji 6), (12, ji 7), (13, .c (.s (.dat (.s2 ei) (.v 0)))), (14, ji 8), (15, jb 9)] [])) (.n (some (.mk 2 0 [(1, ji 5), (5, ji 6)] [])) .e .e) .e)) .e))))) noX Try.func43 (by kernel_rfl) (by kernel_rfl) (run141 rfl) (.cons s93 .nil)
theorem s13 : SoundCall Try.prog 13 q10 (G 142) := sound (l := [(42, 120, q26), (43, 141, q27)]) (h := .e) noX Try.func13 (by kernel_rfl) (by kernel_rfl) (run142 rfl rfl) (.cons s42 (.cons s43 .nil))
theorem s100 : SoundCall Try.prog 100 ⟨[.val true [.rd (.b f1), .rd (.b f1), .rd (.b f1)]], [(true, [.cell f1, .cell f1, .cell f1])]⟩ (G 16) := sound (l := []) (h := .e) noX Try.func100 (by kernel_rfl) (by kernel_rfl) run16 .nil
theorem s46 : SoundCall Try.prog 46 ⟨[p1 eV], [r1 eV 62]⟩ (G 121) := sound (l := [(100, 16, ⟨[.val true [.rd (.b f1), .rd (.b f1), .rd (.b f1)]], [(true, [.cell f1, .cell f1, .cell f1])]⟩)]) (h := (zn .e (zn .e (zn (zn .e (.n (some (.mk 5 0 [(4, ji 4), (8, ji 5), (9, .c (.s (.dat (.s1 eV) (.v 0)))), (10, ji 6), (11, jb 7)] [(0, .row (.s1 eV) 62 (.v 3))])) (.n (some (.mk 2 0 [(4, ji 4)] [(0, .row (.s1 eV) 62 (.v 3))])) .e .e) .e)) .e)))) noX Try.func46 (by kernel_rfl) (by kernel_rfl) (run121 rfl) (.cons s100 .nil)
theorem s101 : SoundCall Try.prog 101 ⟨[p1 ei], [r1 ei 2]⟩ (G 143) := sound (l := []) (h := (zn .e (zn .e (zn (zn .e (.n (some (.mk 5 0 [(4, ji 4), (8, ji 5), (9, .c (.s (.dat (.s1 ei) (.v 0)))), (10, ji 6), (11, jb 7)] [(0, .row (.s1 ei) 2 (.v 3))])) (.n (some (.mk 2 0 [(4, ji 4)] [(0, .row (.s1 ei) 2 (.v 3))])) .e .e) .e)) .e)))) noX Try.func101 (by kernel_rfl) (by kernel_rfl) run143 .nil
theorem s47 : SoundCall Try.prog 47 ⟨[p2 ei], [r2 ei 2 39]⟩ (G 144) := sound (l := [(101, 143, ⟨[p1 ei], [r1 ei 2]⟩)]) (h := (zn .e (zn .e (zn (zn .e (.n (some (.mk 5 0 [(4, ji 4), (8, ji 5), (9, .c (.s (.dat (.s2 ei) (.v 0)))), (10, ji 6), (11, jb 7)] [(0, .rows ei 2 39 0 (.v 3))])) (.n (some (.mk 2 0 [(4, ji 4)] [(0, .rows ei 2 39 0 (.v 3))])) .e .e) .e)) .e)))) noX Try.func47 (by kernel_rfl) (by kernel_rfl) (run144 rfl) (.cons s101 .nil)
theorem s15 : SoundCall Try.prog 15 ⟨[.val true [.rd (.s1 eV), .rd (.s2 ei)]], [(true, [.own (.row (.s1 eV) 62), .own (.rows ei 2 39)])]⟩ (G 145) := sound (l := [(46, 121, ⟨[p1 eV], [r1 eV 62]⟩), (47, 144, ⟨[p2 ei], [r2 ei 2 39]⟩)]) (h := .e) noX Try.func15 (by kernel_rfl) (by kernel_rfl) (run145 rfl rfl) (.cons s46 (.cons s47 .nil))
theorem s122 : SoundCall Try.prog 122 q6 (G 19) := sound (l := []) (h := .e) noX Try.func122 (by kernel_rfl) (by kernel_rfl) run19 .nil
theorem s109 : SoundCall Try.prog 109 q5 (G 149) := sound (l := [(122, 19, q6)]) (h := .e) noX Try.func109 (by kernel_rfl) (by kernel_rfl) (run149 rfl) (.cons s122 .nil)
theorem s64 : SoundCall Try.prog 64 q3 (G 150) := sound (l := [(109, 149, q5)]) (h := (zn .e (zn .e (zn (zn .e (.n (some (.mk 4 0 [(3, ji 8), (11, ju), (12, ju), (13, ju), (14, ju), (15, ju), (16, ju), (18, ji 9), (19, jm 0), (20, jm 0), (21, jm 1), (22, .c (.s (.dat (.s2 ei) (.v 1)))), (23, ji 10), (24, jb 11)] [])) (.n (some (.mk 1 0 [(3, ji 8), (11, ju), (12, ju), (13, ju), (14, ju), (15, ju), (16, ju)] [])) .e .e) .e)) .e)))) noX Try.func64 (by kernel_rfl) (by kernel_rfl) (run150s rfl) (.cons s109 .nil)
theorem s94 : SoundCall Try.prog 94 ⟨[.ptr [.rd (.s1 eV), .rd (.s2 ei)], pv i8], [rv .bool]⟩ (G 448) := sound (l := [(122, 19, q6)]) (h := .e) noX Try.func94 (by kernel_rfl) (by kernel_rfl) (run448 rfl) (.cons s122 .nil)
theorem s74 : SoundCall Try.prog 74 q19 (G 453) := sound (l := []) (h := .e) noX Try.func74 (by kernel_rfl) (by kernel_rfl) run453 .nil
theorem s75 : SoundCall Try.prog 75 q19 (G 210) := sound (l := []) (h := .e) noX Try.func75 (by kernel_rfl) (by kernel_rfl) run210m .nil
theorem s110 : SoundCall Try.prog 110 q12 (G 413) := sound (l := [(74, 453, q19), (75, 210, q19)]) (h := (zn .e (zn .e (zn .e (zn (zn .e (.n (some (.mk 5 0 [(5, ji 6), (22, ji 7), (23, jm 0), (24, jm 0), (25, jm 1), (26, .c (.s (.dat (.s2 ei) (.v 1)))), (27, ji 8), (28, jb 9)] [(0, .row (.s1 (.mk false [.bool])) 4 (.v 5))])) (.n (some (.mk 2 0 [(5, ji 6)] [(0, .row (.s1 (.mk false [.bool])) 4 (.v 5))])) (zn .e (zn (zn (zn .e (zn .e (.n (some (.mk 4 0 [(7, ji 11), (38, ji 12), (39, jb 13)] [(0, .row (.s1 (.mk false [.bool])) 4 (.v 10))])) (.n (some (.mk 2 0 [(7, ji 11)] [(0, .row (.s1 (.mk false [.bool])) 4 (.v 10))])) .e .e) .e))) .e) .e)) .e) .e)) (zn .e (zn (zn .e (.n (some (.mk 4 1 [(10, jo 2), (11, ji 12), (64, ji 13), (65, ji 2), (66, jb 14)] [(1, .dead), (2, .rows ei 2 39 0 (.v 11))])) (.n (some (.mk 2 1 [(10, jo 2), (11, ji 12)] [(1, .dead), (2, .rows ei 2 39 0 (.v 11))])) (zn .e (zn (zn (zn .e (.n (some (.mk 4 1 [(10, jo 3), (12, ji 16), (71, ji 17), (72, ji 2), (73, jb 18)] [(2, .dead), (3, .rows ei 2 39 0 (.v 15))])) (.n (some (.mk 2 1 [(10, jo 3), (12, ji 16)] [(2, .dead), (3, .rows ei 2 39 0 (.v 15))])) (zn .e (zn (zn (zn .e (.n (some (.mk 1 1 [(10, jo 4)] [(3, .dead), (4, .rows ei 2 39 0 (.v 22))])) .e .e)) .e) .e)) .e) .e)) .e) .e)) .e) .e)) .e))))))) noX Try.func110 (by kernel_rfl) (by kernel_rfl) (run413 rfl rfl) (.cons s74 (.cons s75 .nil))
theorem s116 : SoundCall Try.prog 116 q5 (G 167) := sound (l := []) (h := .e) noX Try.func116 (by kernel_rfl) (by kernel_rfl) run167 .nil
theorem s95 : SoundCall Try.prog 95 q4 (G 168) := sound (l := [(116, 167, q5)]) (h := (zn .e (zn .e (zn (zn .e (.n (some (.mk 5 1 [(7, jo 1), (8, ji 6), (10, ji 7), (11, jm 0), (12, jm 0), (13, jm 1), (14, .c (.s (.dat (.s2 ei) (.v 1)))), (15, ji 8), (16, jb 9)] [(0, .dead), (1, .row (.s1 ei) 2 (.v 5))])) (.n (some (.mk 2 1 [(7, jo 1), (8, ji 6)] [(0, .dead), (1, .row (.s1 ei) 2 (.v 5))])) (zn .e (zn (zn (zn .e (.n (some (.mk 1 1 [(7, jo 2), (29, ju), (30, ju), (31, ju), (32, ju), (33, ju), (34, ju), (35, ju), (36, ju), (37, ju)] [(1, .dead), (2, .row (.s1 ei) 2 (.v 18))])) .e .e)) .e) .e)) .e) .e)) .e)))) noX Try.func95 (by kernel_rfl) (by kernel_rfl) (run168g rfl) (.cons s116 .nil)
theorem s99 : SoundCall Try.prog 99 ⟨[p1 ei, pv i8, pv i8], [rv .bool]⟩ (G 407) := sound (l := []) (h := .e) noX Try.func99 (by kernel_rfl) (by kernel_rfl) run407s .nil
theorem s78 : SoundCall Try.prog 78 q3 (G 414) := sound (l := [(110, 413, q12), (95, 168, q4), (99, 407, ⟨[p1 ei, pv i8, pv i8], [rv .bool]⟩)]) (h := (zn .e (zn .e (zn (zn .e (.n (some (.mk 4 0 [(4, ji 3), (10, ji 4), (11, jo 0), (12, ji 5), (13, jb 6)] [])) (.n (some (.mk 1 0 [(4, ji 3)] [])) .e .e) .e)) .e)))) noX Try.func78 (by kernel_rfl) (by kernel_rfl) (run414 rfl rfl rfl) (.cons s110 (.cons s95 (.cons s99 .nil)))
theorem s44 : SoundCall Try.prog 44 ⟨[.ptr [.rd (.s1 eV), .rd (.s2 ei)], pv i8, pv i8], [rv .bool]⟩ (G 410) := sound (l := [(64, 150, q3), (94, 448, ⟨[.ptr [.rd (.s1 eV), .rd (.s2 ei)], pv i8], [rv .bool]⟩), (78, 414, q3)]) (h := .e) noX Try.func44 (by kernel_rfl) (by kernel_rfl) (run410s rfl rfl rfl) (.cons s64 (.cons s94 (.cons s78 .nil)))
theorem s115 : SoundCall Try.prog 115 ⟨[p1 ei], [r1 ei 2]⟩ (G 143) := sound (l := []) (h := .e) noX Try.func115 (by kernel_rfl) (by kernel_rfl) run143s .nil
theorem s117 : SoundCall Try.prog 117 q3 (G 447) := sound (l := [(116, 167, q5)]) (h := (zn .e (zn (zn .e (.n (some (.mk 4 0 [(3, ji 2), (6, ji 3), (7, jm 0), (8, jm 0), (9, jm 1), (10, .c (.s (.dat (.s2 ei) (.v 1)))), (11, ji 4), (12, jb 5)] [])) (.n (some (.mk 1 0 [(3, ji 2)] [])) (zn .e (zn (zn (zn .e (.n (some (.mk 4 0 [(4, ji 6), (17, ji 7), (18, jm 0), (19, jm 0), (20, jm 1), (21, .c (.s (.dat (.s2 ei) (.v 1)))), (22, ji 8), (23, jb 9)] [])) (.n (some (.mk 1 0 [(4, ji 6)] [])) .e .e) .e)) .e) .e)) .e) .e)) .e))) noX Try.func117 (by kernel_rfl) (by kernel_rfl) (run447 rfl) (.cons s116 .nil)
theorem s118 : SoundCall Try.prog 118 ⟨[.ptr [.rd (.s1 eV), .rd (.s2 ei)]], [rv i8]⟩ (G 446) := sound (l := [(95, 168, q4), (110, 413, q12)]) (h := (zn .e (zn .e (zn (zn .e (.n (some (.mk 5 0 [(3, ji 2), (4, ji 3), (5, ji 4), (6, jm 0), (7, jm 0), (8, jm 0), (9, .c (.s (.dat (.s1 eV) (.v 0)))), (10, ji 5), (11, jb 6)] [])) (.n (some (.mk 2 0 [(3, ji 2), (4, ji 3)] [])) (zn .e (zn (zn (zn .e (.n (some (.mk 1 0 [(3, ji 9)] [])) .e .e)) .e) .e)) .e) .e)) .e)))) noX Try.func118 (by kernel_rfl) (by kernel_rfl) (run446 rfl rfl) (.cons s95 (.cons s110 .nil))
theorem s81 : SoundCall Try.prog 81 ⟨[.ptr [.rd (.s1 eV), .rd (.s2 ei)], pv i8, pv i8], [(true, [.own (.row (.s1 eV) 62), .own (.rows ei 2 39)]), rv .bool]⟩ (G 438) := sound (l := [(95, 168, q4), (115, 143, ⟨[p1 ei], [r1 ei 2]⟩), (116, 167, q5), (78, 414, q3), (117, 447, q3), (118, 446, ⟨[.ptr [.rd (.s1 eV), .rd (.s2 ei)]], [rv i8]⟩)]) (h := (zn .e (zn .e (zn .e (zn (zn .e (.n (some (.mk 5 1 [(9, ji 10), (23, ji 11), (24, jm 0), (25, jm 0), (26, jm 0), (27, .c (.s (.dat (.s1 eV) (.v 0)))), (28, ji 12), (29, jb 13)] [(2, .dead), (4, .var [(.s (.own 5)), (.s (.own 3))]), (5, .row (.s1 eV) 62 (.v 9))])) (.n (some (.mk 2 1 [(9, ji 10)] [(4, .var [(.s (.own 5)), (.s (.own 3))]), (2, .dead), (5, .row (.s1 eV) 62 (.v 9))])) (zn .e (zn (zn (zn .e (.n (some (.mk 1 1 [] [(4, .var [(.s (.own 6)), (.s (.own 3))]), (5, .dead), (6, .row (.s1 eV) 62 (.v 14))])) .e .e)) .e) .e)) .e) .e)) (zn (zn .e (.n (some (.mk 5 1 [(10, ji 15), (47, ji 16), (48, jm 0), (49, jm 0), (50, jm 1), (51, .c (.s (.dat (.s2 ei) (.v 1)))), (52, ji 17), (53, jb 18)] [(3, .dead), (4, .var [(.s (.own 5)), (.s (.own 6))]), (6, .rows ei 2 39 0 (.v 14))])) (.n (some (.mk 2 1 [(10, ji 15)] [(4, .var [(.s (.own 5)), (.s (.own 6))]), (3, .dead), (6, .rows ei 2 39 0 (.v 14))])) (zn .e (zn (.n (some (.mk 5 1 [(56, jm 0), (57, jm 0), (58, jm 1), (59, .c (.s (.dat (.s2 ei) (.v 1)))), (60, ji 15), (62, .c (.s (.dat (.s1 ei) (.v 19)))), (65, ji 2), (66, jb 20), (67, jb 21), (71, jb 22)] [(4, .var [(.s (.own 5)), (.s (.own 7))]), (6, .dead), (7, .rows ei 2 39 0 (.v 18))])) (zn .e (zn .e (zn (zn .e (.n (some (.mk 4 0 [(12, ji 25), (68, ju), (69, ju), (70, ju), (72, ji 26), (73, jb 27)] [(7, .row (.s1 ei) 2 (.v 24))])) (.n (some (.mk 2 0 [(12, ji 25), (68, ju), (69, ju), (70, ju)] [(7, .row (.s1 ei) 2 (.v 24))])) (zn .e (zn (zn (zn (zn .e (.n (some (.mk 1 0 [] [(7, .row (.s1 ei) 2 (.v 30))])) .e .e)) (zn .e (.n (some (.mk 1 0 [] [(7, .row (.s1 ei) 2 (.v 34))])) .e .e))) .e) .e)) .e) .e)) .e))) .e) .e)) .e) .e)) .e)))))) noX Try.func81 (by kernel_rfl) (by kernel_rfl) (run438 rfl rfl rfl rfl rfl rfl) (.cons s95 (.cons s115 (.cons s116 (.cons s78 (.cons s117 (.cons s118 .nil))))))
theorem s38 : SoundCall Try.prog 38 q1 (G 444) := sound (l := [(44, 410, ⟨[.ptr [.rd (.s1 eV), .rd (.s2 ei)], pv i8, pv i8], [rv .bool]⟩), (81, 438, ⟨[.ptr [.rd (.s1 eV), .rd (.s2 ei)], pv i8, pv i8], [(true, [.own (.row (.s1 eV) 62), .own (.rows ei 2 39)]), rv .bool]⟩)]) (h := .e) noX Try.func38 (by kernel_rfl) (by kernel_rfl) (run444s rfl rfl) (.cons s44 (.cons s81 .nil))
theorem s113 : SoundCall Try.prog 113 q6 (G 19) := sound (l := []) (h := .e) noX Try.func113 (by kernel_rfl) (by kernel_rfl) run19 .nil
theorem s66 : SoundCall Try.prog 66 q0 (G 150) := sound (l := [(113, 19, q6)]) (h := (zn .e (zn .e (zn .e (zn (zn .e (.n (some (.mk 2 0 [(14, ju), (15, ju), (16, ju), (17, ju), (22, ji 9), (23, jb 10)] [])) (.n (some (.mk 1 0 [(14, ju), (15, ju), (16, ju), (17, ju), (22, ji 9)] [])) (zn .e (zn .e (zn (zn (zn .e (zn .e (zn .e (.n (some (.mk 2 0 [(30, ju), (31, ju), (32, ju), (33, ju), (34, ju), (35, ju), (36, ju), (39, ju), (40, ju), (41, ju), (42, ju), (43, ju), (44, ju), (45, ju), (48, ju), (49, ju), (50, ju), (51, ju), (52, ju), (53, ju), (54, ju), (58, ji 39), (59, jb 40)] [])) (.n (some (.mk 1 0 [(30, ju), (31, ju), (32, ju), (33, ju), (34, ju), (35, ju), (36, ju), (39, ju), (40, ju), (41, ju), (42, ju), (43, ju), (44, ju), (45, ju), (48, ju), (49, ju), (50, ju), (51, ju), (52, ju), (53, ju), (54, ju), (58, ji 39)] [])) .e .e) .e)))) .e) .e))) .e) .e)) .e))))) noX Try.func66 (by kernel_rfl) (by kernel_rfl) (run150 rfl) (.cons s113 .nil)
theorem s53 : SoundCall Try.prog 53 q14 (G 400) := sound (l := []) (h := .e) noX Try.func53 (by kernel_rfl) (by kernel_rfl) run400 .nil
theorem s55 : SoundCall Try.prog 55 q0 (G 403) := sound (l := [(66, 150, q0), (53, 400, q14)]) (h := (zn .e (zn .e (zn .e (zn (zn .e (.n (some (.mk 4 0 [(18, ji 7), (19, jb 8)] [(1, .map (.mk 104 66 2 (.b .bool)) 0 (.v 5) none), (2, .map (.mk 105 66 2 (.b (.int .i64))) 0 (.v 6) none)])) (.n (some (.mk 3 0 [(18, ji 7)] [(1, .map (.mk 104 66 2 (.b .bool)) 0 (.v 5) none), (2, .map (.mk 105 66 2 (.b (.int .i64))) 0 (.v 6) none)])) (zn .e (zn .e (zn (zn (zn .e (zn .e (.n (some (.mk 4 0 [(22, ji 12), (23, jb 13)] [(1, .map (.mk 104 66 2 (.b .bool)) 0 (.v 10) none), (2, .map (.mk 105 66 2 (.b (.int .i64))) 0 (.v 11) none)])) (.n (some (.mk 3 0 [(22, ji 12)] [(1, .map (.mk 104 66 2 (.b .bool)) 0 (.v 10) none), (2, .map (.mk 105 66 2 (.b (.int .i64))) 0 (.v 11) none)])) .e .e) .e))) .e) .e))) .e) .e)) .e))))) noX Try.func55 (by kernel_rfl) (by kernel_rfl) (run403 rfl rfl) (.cons s66 (.cons s53 .nil))
theorem s102 : SoundCall Try.prog 102 ⟨[.val true [.rd (.s1 eV), .rd (.s2 ei)], pv i8], [rv .bool]⟩ (G 409) := sound (l := [(66, 150, q0), (113, 19, q6)]) (h := .e) noX Try.func102 (by kernel_rfl) (by kernel_rfl) (run409 rfl rfl) (.cons s66 (.cons s113 .nil))
theorem s48 : SoundCall Try.prog 48 q7 (G 410) := sound (l := [(55, 403, q0), (102, 409, ⟨[.val true [.rd (.s1 eV), .rd (.s2 ei)], pv i8], [rv .bool]⟩)]) (h := .e) noX Try.func48 (by kernel_rfl) (by kernel_rfl) (run410 rfl rfl) (.cons s55 (.cons s102 .nil))
theorem s139 : SoundCall Try.prog 139 q18 (G 442) := sound (l := []) (h := (zn .e (zn (zn .e (.n (some (.mk 2 0 [(8, ji 3), (9, jb 4)] [])) (.n (some (.mk 1 0 [(8, ji 3)] [])) .e .e) .e)) .e))) noX Try.func139 (by kernel_rfl) (by kernel_rfl) run442 .nil
theorem s103 : SoundCall Try.prog 103 q5 (G 441) := sound (l := [(139, 442, q18)]) (h := .e) noX Try.func103 (by kernel_rfl) (by kernel_rfl) (run441 rfl) (.cons s139 .nil)
theorem s49 : SoundCall Try.prog 49 ⟨[.val true [.rd (.s1 eV), .rd (.s2 ei)], p1 ei], [r1 ei 2]⟩ (G 411) := sound (l := [(103, 441, q5)]) (h := (zn .e (zn .e (zn (zn .e (.n (some (.mk 3 1 [(5, jo 2), (15, ji 6), (16, jb 7)] [(1, .dead), (2, .row (.s1 ei) 2 (.v 5))])) (.n (some (.mk 2 1 [(5, jo 2), (15, ji 6)] [(1, .dead), (2, .row (.s1 ei) 2 (.v 5))])) (zn .e (zn .e (zn (zn (zn .e (zn .e (zn (zn .e (.n (some (.mk 3 0 [(8, jb 10), (22, ji 11), (23, jb 12)] [])) (.n (some (.mk 2 0 [(8, jb 10), (22, ji 11)] [])) .e .e) .e)) (zn .e (.n (some (.mk 1 1 [(5, jo 3)] [(2, .dead), (3, .row (.s1 ei) 2 (.v 13))])) .e .e))))) .e) .e))) .e) .e)) .e)))) noX Try.func49 (by kernel_rfl) (by kernel_rfl) (run411 rfl) (.cons s103 .nil)
def srd_ren : Go.Shelf.Ren := ⟨fun | 45 => 119 | n => n, fun | 22 => 28 | 23 => 62 | 3 => 3 | 4 => 4 | 0 => 0 | n => n, fun n => n⟩
theorem srd : SlLaysE0.n45 Try.prog srd_ren where
 mixed := by kernel_rfl
 f45 := ⟨Try.f119.name, by kernel_rfl, Try.func119.trans (congrArg some (by kernel_rfl))⟩
 t0 := Try.underlying0
 a0 := Try.isAgg0
 z0 := Try.sizeOf0
 v0 := Try.zeroValue0
 t3 := Try.underlying3
 a3 := Try.isAgg3
 z3 := Try.sizeOf3
 v3 := Try.zeroValue3
 t4 := Try.underlying4
 a4 := Try.isAgg4
 z4 := Try.sizeOf4
 v4 := Try.zeroValue4
 t22 := Try.underlying28
 a22 := Try.isAgg28
 z22 := Try.sizeOf28
 v22 := Try.zeroValue28
set_option maxRecDepth 100000 in
theorem s119 : SoundCall Try.prog 119 ⟨[m1 eV 62 false, pv i8, pv i8], [r1 eV 62]⟩ (G 440) := delete_sound srd rfl Try.sizeOf62 _ (.float .f32 0) Try.zeroValue62 rfl rfl _ rfl rfl
theorem s82 : SoundCall Try.prog 82 q2 (G 439) := sound (l := [(119, 440, ⟨[m1 eV 62 false, pv i8, pv i8], [r1 eV 62]⟩), (103, 441, q5)]) (h := (zn .e (zn .e (zn (zn .e (.n (some (.mk 3 1 [(25, ji 10), (26, jb 11)] [(5, .var [(.s (.own 4)), (.s (.own 6))]), (6, .rows ei 2 39 0 (.v 9))])) (.n (some (.mk 2 1 [(25, ji 10)] [(5, .var [(.s (.own 4)), (.s (.own 6))]), (6, .rows ei 2 39 0 (.v 9))])) (zn .e (zn .e (zn (.n (some (.mk 7 1 [(9, .c (.s (.dat (.s1 ei) (.v 13)))), (28, .c (.s (.dat (.s1 ei) (.v 14)))), (29, .c (.s (.dat (.s1 ei) (.v 15)))), (30, ji 2), (31, jb 16), (32, jb 17), (36, jb 18)] [(5, .var [(.s (.own 4)), (.s (.own 7))]), (6, .dead), (7, .rows ei 2 39 0 (.v 12))])) (zn .e (zn .e (zn .e (zn (zn .e (.n (some (.mk 3 1 [(10, jo 8), (33, ju), (34, ju), (35, ju), (40, ji 21), (41, jb 22)] [(7, .dead), (8, .row (.s1 ei) 2 (.v 20))])) (.n (some (.mk 2 1 [(10, jo 8), (33, ju), (34, ju), (35, ju), (40, ji 21)] [(7, .dead), (8, .row (.s1 ei) 2 (.v 20))])) (zn .e (zn .e (zn (zn (zn .e (zn (zn .e (.n (some (.mk 1 0 [(12, ji 25)] [])) .e .e)) (zn (zn .e (.n (some (.mk 1 0 [(12, ji 27)] [])) .e .e)) .e))) .e) .e))) .e) .e)) .e)))) .e) .e))) .e) .e)) .e)))) noX Try.func82 (by kernel_rfl) (by kernel_rfl) (run439 rfl rfl) (.cons s119 (.cons s103 .nil))
theorem s185 : SoundCall Try.prog 185 ⟨[pv i8], [rv .bool]⟩ (G 452) := sound (l := []) (h := .e) noX Try.func185 (by kernel_rfl) (by kernel_rfl) run452 .nil
def sri_ren : Go.Shelf.Ren := ⟨fun | 53 => 120 | 64 => 147 | 63 => 146 | 78 => 166 | 79 => 167 | 70 => 157 | 71 => 158 | 72 => 159 | 73 => 160 | 74 => 161 | 75 => 162 | 59 => 163 | 76 => 164 | 77 => 165 | 88 => 180 | 89 => 181 | 90 => 182 | 91 => 183 | 92 => 184 | 68 => 185 | 96 => 191 | n => n, fun | 22 => 39 | 23 => 2 | 3 => 3 | 51 => 133 | 0 => 0 | 67 => 149 | 69 => 135 | 4 => 4 | 61 => 141 | 60 => 140 | 44 => 146 | 5 => 5 | 9 => 9 | 75 => 158 | 79 => 162 | 83 => 168 | 84 => 169 | n => n, fun n => n⟩
theorem sri : SlLaysN.n53 Try.prog sri_ren where
 mixed := by kernel_rfl
 f53 := ⟨Try.f120.name, by kernel_rfl, Try.func120.trans (congrArg some (by kernel_rfl))⟩
 f59 := ⟨Try.f163.name, by kernel_rfl, Try.func163.trans (congrArg some (by kernel_rfl))⟩
 f63 := ⟨Try.f146.name, by kernel_rfl, Try.func146.trans (congrArg some (by kernel_rfl))⟩
 f64 := Try.func147.trans (congrArg some (by kernel_rfl))
 f68 := ⟨Try.f185.name, by kernel_rfl, Try.func185.trans (congrArg some (by kernel_rfl))⟩
 f70 := ⟨Try.f157.name, by kernel_rfl, Try.func157.trans (congrArg some (by kernel_rfl))⟩
 f71 := ⟨Try.f158.name, by kernel_rfl, Try.func158.trans (congrArg some (by kernel_rfl))⟩
 f72 := ⟨Try.f159.name, by kernel_rfl, Try.func159.trans (congrArg some (by kernel_rfl))⟩
 f73 := ⟨Try.f160.name, by kernel_rfl, Try.func160.trans (congrArg some (by kernel_rfl))⟩
 f74 := ⟨Try.f161.name, by kernel_rfl, Try.func161.trans (congrArg some (by kernel_rfl))⟩
 f75 := ⟨Try.f162.name, by kernel_rfl, Try.func162.trans (congrArg some (by kernel_rfl))⟩
 f76 := ⟨Try.f164.name, by kernel_rfl, Try.func164.trans (congrArg some (by kernel_rfl))⟩
 f77 := ⟨Try.f165.name, by kernel_rfl, Try.func165.trans (congrArg some (by kernel_rfl))⟩
 f78 := Try.func166.trans (congrArg some (by kernel_rfl))
 f79 := Try.func167.trans (congrArg some (by kernel_rfl))
 f88 := ⟨Try.f180.name, by kernel_rfl, Try.func180.trans (congrArg some (by kernel_rfl))⟩
 f89 := Try.func181.trans (congrArg some (by kernel_rfl))
 f90 := Try.func182.trans (congrArg some (by kernel_rfl))
 f91 := ⟨Try.f183.name, by kernel_rfl, Try.func183.trans (congrArg some (by kernel_rfl))⟩
 f92 := ⟨Try.f184.name, by kernel_rfl, Try.func184.trans (congrArg some (by kernel_rfl))⟩
 f96 := ⟨Try.f191.name, by kernel_rfl, Try.func191.trans (congrArg some (by kernel_rfl))⟩
 t0 := Try.underlying0
 a0 := Try.isAgg0
 z0 := Try.sizeOf0
 v0 := Try.zeroValue0
 t3 := Try.underlying3
 a3 := Try.isAgg3
 z3 := Try.sizeOf3
 v3 := Try.zeroValue3
 t4 := Try.underlying4
 a4 := Try.isAgg4
 z4 := Try.sizeOf4
 v4 := Try.zeroValue4
 t5 := Try.underlying5
 a5 := Try.isAgg5
 z5 := Try.sizeOf5
 v5 := Try.zeroValue5
 t9 := Try.underlying9
 a9 := Try.isAgg9
 z9 := Try.sizeOf9
 v9 := Try.zeroValue9
 t22 := Try.underlying39
 a22 := Try.isAgg39
 z22 := Try.sizeOf39
 v22 := Try.zeroValue39
 t23 := Try.underlying2
 a23 := Try.isAgg2
 z23 := Try.sizeOf2
 v23 := Try.zeroValue2
 t44 := Try.underlying146
 a44 := Try.isAgg146
 z44 := Try.sizeOf146
 v44 := Try.zeroValue146
 t51 := Try.underlying133
 a51 := Try.isAgg133
 z51 := Try.sizeOf133
 v51 := Try.zeroValue133
 t60 := Try.underlying140
 a60 := Try.isAgg140
 z60 := Try.sizeOf140
 v60 := Try.zeroValue140
 t61 := Try.underlying141
 a61 := Try.isAgg141
 z61 := Try.sizeOf141
 v61 := Try.zeroValue141
 t67 := Try.underlying149
 a67 := Try.isAgg149
 z67 := Try.sizeOf149
 v67 := Try.zeroValue149
 t69 := Try.underlying135
 a69 := Try.isAgg135
 z69 := Try.sizeOf135
 v69 := Try.zeroValue135
 t75 := Try.underlying158
 a75 := Try.isAgg158
 z75 := Try.sizeOf158
 v75 := Try.zeroValue158
 t79 := Try.underlying162
 a79 := Try.isAgg162
 z79 := Try.sizeOf162
 v79 := Try.zeroValue162
 t83 := Try.underlying168
 a83 := Try.isAgg168
 z83 := Try.sizeOf168
 v83 := Try.zeroValue168
 t84 := Try.underlying169
 a84 := Try.isAgg169
 z84 := Try.sizeOf169
 v84 := Try.zeroValue169
theorem s120 : SoundCall Try.prog 120 ⟨[m1 ei 2 true], []⟩ (G 405) := sort_sound sri
theorem s83 : SoundCall Try.prog 83 q0 (G 404) := sound (l := [(120, 405, ⟨[m1 ei 2 true], []⟩)]) (h := (zn .e (zn .e (zn (zn .e (.n (some (.mk 3 0 [(12, ji 4), (13, jb 5)] [(1, .map (.mk 116 118 3 (.b .bool)) 0 (.v 3) none)])) (.n (some (.mk 2 0 [(12, ji 4)] [(1, .map (.mk 116 118 3 (.b .bool)) 0 (.v 3) none)])) .e .e) .e)) .e)))) noX Try.func83 (by kernel_rfl) (by kernel_rfl) (run404 rfl) (.cons s120 .nil)
theorem s121 : SoundCall Try.prog 121 ⟨[.val true [.rd (.s1 eV), .rd (.s2 ei)]], [r1 eb 4]⟩ (G 169) := sound (l := []) (h := (zn .e (zn .e (zn (zn .e (.n (some (.mk 3 0 [(15, ji 6), (16, jb 7)] [(1, .row (.s1 (.mk false [.bool])) 4 (.v 5))])) (.n (some (.mk 2 0 [(15, ji 6)] [(1, .row (.s1 (.mk false [.bool])) 4 (.v 5))])) (zn .e (zn .e (zn (zn (zn .e (zn .e (.n (some (.mk 3 0 [(21, ji 11), (22, jb 12)] [(1, .row (.s1 (.mk false [.bool])) 4 (.v 10))])) (.n (some (.mk 2 0 [(21, ji 11)] [(1, .row (.s1 (.mk false [.bool])) 4 (.v 10))])) .e .e) .e))) .e) .e))) .e) .e)) .e)))) noX Try.func121 (by kernel_rfl) (by kernel_rfl) run169 .nil
theorem s178 : SoundCall Try.prog 178 q19 (G 451) := sound (l := [(185, 452, ⟨[pv i8], [rv .bool]⟩)]) (h := .e) noX Try.func178 (by kernel_rfl) (by kernel_rfl) (run451 rfl) (.cons s185 .nil)
theorem s155 : SoundCall Try.prog 155 ⟨[p1 ei, p1 ei], [rv i8]⟩ (G 450) := sound (l := [(178, 451, q19)]) (h := (zn .e (zn (zn .e (.n (some (.mk 2 0 [(11, ji 3), (12, jb 4)] [])) (.n (some (.mk 1 0 [(11, ji 3)] [])) .e .e) .e)) .e))) noX Try.func155 (by kernel_rfl) (by kernel_rfl) (run450 rfl) (.cons s178 .nil)
theorem s141 : SoundCall Try.prog 141 ⟨[.val true [.rd (.b i8), .rd (.b i8)], .val true [.rd (.b i8), .rd (.b i8)]], [rv i8]⟩ (G 449) := sound (l := [(155, 450, ⟨[p1 ei, p1 ei], [rv i8]⟩)]) (h := .e) noX Try.func141 (by kernel_rfl) (by kernel_rfl) (run449 rfl) (.cons s155 .nil)
def srt_ren : Go.Shelf.Ren := ⟨fun | 6 => 140 | 15 => 147 | 14 => 154 | 28 => 166 | 29 => 167 | 20 => 170 | 21 => 171 | 22 => 172 | 23 => 173 | 24 => 174 | 25 => 175 | 26 => 176 | 27 => 177 | 46 => 188 | 47 => 181 | 48 => 182 | 49 => 189 | 50 => 190 | 57 => 192 | n => n, fun | 22 => 108 | 24 => 66 | 25 => 129 | 3 => 3 | 39 => 133 | 0 => 0 | 53 => 149 | 55 => 135 | 4 => 4 | 46 => 141 | 45 => 140 | 50 => 146 | 5 => 5 | 9 => 9 | 66 => 158 | 70 => 162 | 76 => 168 | 77 => 169 | n => n, fun n => n⟩
theorem srt : SlLaysF0.n6 Try.prog srt_ren where
 mixed := by kernel_rfl
 f6 := ⟨Try.f140.name, by kernel_rfl, Try.func140.trans (congrArg some (by kernel_rfl))⟩
 f14 := ⟨Try.f154.name, by kernel_rfl, Try.func154.trans (congrArg some (by kernel_rfl))⟩
 f15 := Try.func147.trans (congrArg some (by kernel_rfl))
 f20 := ⟨Try.f170.name, by kernel_rfl, Try.func170.trans (congrArg some (by kernel_rfl))⟩
 f21 := ⟨Try.f171.name, by kernel_rfl, Try.func171.trans (congrArg some (by kernel_rfl))⟩
 f22 := ⟨Try.f172.name, by kernel_rfl, Try.func172.trans (congrArg some (by kernel_rfl))⟩
 f23 := ⟨Try.f173.name, by kernel_rfl, Try.func173.trans (congrArg some (by kernel_rfl))⟩
 f24 := ⟨Try.f174.name, by kernel_rfl, Try.func174.trans (congrArg some (by kernel_rfl))⟩
 f25 := ⟨Try.f175.name, by kernel_rfl, Try.func175.trans (congrArg some (by kernel_rfl))⟩
 f26 := ⟨Try.f176.name, by kernel_rfl, Try.func176.trans (congrArg some (by kernel_rfl))⟩
 f27 := ⟨Try.f177.name, by kernel_rfl, Try.func177.trans (congrArg some (by kernel_rfl))⟩
 f28 := Try.func166.trans (congrArg some (by kernel_rfl))
 f29 := Try.func167.trans (congrArg some (by kernel_rfl))
 f46 := ⟨Try.f188.name, by kernel_rfl, Try.func188.trans (congrArg some (by kernel_rfl))⟩
 f47 := Try.func181.trans (congrArg some (by kernel_rfl))
 f48 := Try.func182.trans (congrArg some (by kernel_rfl))
 f49 := ⟨Try.f189.name, by kernel_rfl, Try.func189.trans (congrArg some (by kernel_rfl))⟩
 f50 := ⟨Try.f190.name, by kernel_rfl, Try.func190.trans (congrArg some (by kernel_rfl))⟩
 f57 := ⟨Try.f192.name, by kernel_rfl, Try.func192.trans (congrArg some (by kernel_rfl))⟩
 t0 := Try.underlying0
 a0 := Try.isAgg0
 z0 := Try.sizeOf0
 v0 := Try.zeroValue0
 t3 := Try.underlying3
 a3 := Try.isAgg3
 z3 := Try.sizeOf3
 v3 := Try.zeroValue3
 t4 := Try.underlying4
 a4 := Try.isAgg4
 z4 := Try.sizeOf4
 v4 := Try.zeroValue4
 t5 := Try.underlying5
 a5 := Try.isAgg5
 z5 := Try.sizeOf5
 v5 := Try.zeroValue5
 t9 := Try.underlying9
 a9 := Try.isAgg9
 z9 := Try.sizeOf9
 v9 := Try.zeroValue9
 t22 := Try.underlying108
 a22 := Try.isAgg108
 z22 := Try.sizeOf108
 v22 := Try.zeroValue108
 t25 := Try.underlying129
 a25 := Try.isAgg129
 z25 := Try.sizeOf129
 v25 := Try.zeroValue129
 t39 := Try.underlying133
 a39 := Try.isAgg133
 z39 := Try.sizeOf133
 v39 := Try.zeroValue133
 t45 := Try.underlying140
 a45 := Try.isAgg140
 z45 := Try.sizeOf140
 v45 := Try.zeroValue140
 t46 := Try.underlying141
 a46 := Try.isAgg141
 z46 := Try.sizeOf141
 v46 := Try.zeroValue141
 t50 := Try.underlying146
 a50 := Try.isAgg146
 z50 := Try.sizeOf146
 v50 := Try.zeroValue146
 t53 := Try.underlying149
 a53 := Try.isAgg149
 z53 := Try.sizeOf149
 v53 := Try.zeroValue149
 t55 := Try.underlying135
 a55 := Try.isAgg135
 z55 := Try.sizeOf135
 v55 := Try.zeroValue135
 t66 := Try.underlying158
 a66 := Try.isAgg158
 z66 := Try.sizeOf158
 v66 := Try.zeroValue158
 t70 := Try.underlying162
 a70 := Try.isAgg162
 z70 := Try.sizeOf162
 v70 := Try.zeroValue162
 t76 := Try.underlying168
 a76 := Try.isAgg168
 z76 := Try.sizeOf168
 v76 := Try.zeroValue168
 t77 := Try.underlying169
 a77 := Try.isAgg169
 z77 := Try.sizeOf169
 v77 := Try.zeroValue169
theorem cmpF : ∀ x y : Int × Int, G 449 [.int x.1, .int x.2, .int y.1, .int y.2] = some [.int (cmpE x y)] := fun _ _ => rfl
theorem s140 : SoundCall Try.prog 140 ⟨[m1 ⟨true, [i8, i8]⟩ 66 true, .fn 141 []], []⟩ (G 402) := sortFunc_sound srt Try.isAgg66 Try.sizeOf66 s141 cmpF
theorem s108 : SoundCall Try.prog 108 ⟨[.val true [.rd (.s1 eV), .rd (.s2 ei)]], [(false, [.own (.map ⟨107, 66, 2, .s ei 2⟩)]), r1 ⟨true, [i8, i8]⟩ 66]⟩ (G 401) := sound (l := [(53, 400, q14), (140, 402, ⟨[m1 ⟨true, [i8, i8]⟩ 66 true, .fn 141 []], []⟩)]) (h := (zn .e (zn .e (zn (zn .e (.n (some (.mk 4 1 [(5, jo 3), (15, ji 6), (16, jb 7)] [(1, .map (.mk 107 66 2 (.s ei 2)) 0 (.v 4) none), (2, .dead), (3, .row (.s1 (.mk true [(.int .i64), (.int .i64)])) 66 (.v 5))])) (.n (some (.mk 3 1 [(5, jo 3), (15, ji 6)] [(1, .map (.mk 107 66 2 (.s ei 2)) 0 (.v 4) none), (2, .dead), (3, .row (.s1 (.mk true [(.int .i64), (.int .i64)])) 66 (.v 5))])) (zn .e (zn .e (zn (zn (zn .e (zn .e (.n (some (.mk 4 1 [(5, jo 4), (20, ji 11), (21, jb 12)] [(1, .map (.mk 107 66 2 (.s ei 2)) 0 (.v 9) none), (3, .dead), (4, .row (.s1 (.mk true [(.int .i64), (.int .i64)])) 66 (.v 10))])) (.n (some (.mk 3 1 [(5, jo 4), (20, ji 11)] [(1, .map (.mk 107 66 2 (.s ei 2)) 0 (.v 9) none), (3, .dead), (4, .row (.s1 (.mk true [(.int .i64), (.int .i64)])) 66 (.v 10))])) (zn .e (zn .e (zn (zn (zn .e (zn .e (zn (zn .e (.n (some (.mk 1 1 [(5, jo 6)] [(4, .dead), (6, .row (.s1 (.mk true [(.int .i64), (.int .i64)])) 66 (.v 23))])) .e .e)) .e))) .e) .e))) .e) .e))) .e) .e))) .e) .e)) .e)))) noX Try.func108 (by kernel_rfl) (by kernel_rfl) (run401 rfl rfl) (.cons s53 (.cons s140 .nil))
theorem s84 : SoundCall Try.prog 84 ⟨[.val true [.rd (.s1 eV), .rd (.s2 ei)]], [rv i8, rv .bool]⟩ (G 445) := sound (l := [(66, 150, q0), (121, 169, ⟨[.val true [.rd (.s1 eV), .rd (.s2 ei)]], [r1 eb 4]⟩), (108, 401, ⟨[.val true [.rd (.s1 eV), .rd (.s2 ei)]], [(false, [.own (.map ⟨107, 66, 2, .s ei 2⟩)]), r1 ⟨true, [i8, i8]⟩ 66]⟩)]) (h := (zn .e (zn .e (zn .e (zn (zn .e (.n (some (.mk 3 0 [(4, ji 7), (18, ji 8), (19, jb 9)] [])) (.n (some (.mk 2 0 [(4, ji 7), (18, ji 8)] [])) (zn .e (zn .e (zn (zn (zn .e (zn .e (.n (some (.mk 1 0 [(4, ji 12)] [])) .e .e))) .e) .e))) .e) .e)) .e))))) noX Try.func84 (by kernel_rfl) (by kernel_rfl) (run445 rfl rfl rfl) (.cons s66 (.cons s121 (.cons s108 .nil)))
theorem s37 : SoundCall Try.prog 37 q7 (G 443) := sound (l := [(48, 410, q7), (49, 411, ⟨[.val true [.rd (.s1 eV), .rd (.s2 ei)], p1 ei], [r1 ei 2]⟩), (82, 439, q2), (55, 403, q0), (83, 404, q0), (84, 445, ⟨[.val true [.rd (.s1 eV), .rd (.s2 ei)]], [rv i8, rv .bool]⟩)]) (h := .e) noX Try.func37 (by kernel_rfl) (by kernel_rfl) (run443 rfl rfl rfl rfl rfl rfl) (.cons s48 (.cons s49 (.cons s82 (.cons s55 (.cons s83 (.cons s84 .nil))))))
theorem s39 : SoundCall Try.prog 39 q1 (G 444) := sound (l := [(37, 443, q7), (82, 439, q2)]) (h := .e) noX Try.func39 (by kernel_rfl) (by kernel_rfl) (run444 rfl rfl) (.cons s37 (.cons s82 .nil))
theorem s25 : SoundCall Try.prog 25 ⟨[pv f8, pv f8], [rv .bool]⟩ (G 4) := sound (l := []) (h := .e) noX Try.func25 (by kernel_rfl) (by kernel_rfl) run4 .nil
theorem s107 : SoundCall Try.prog 107 ⟨[.val true [.rd (.b f1), .rd (.b f1), .rd (.b f1)], .val true [.rd (.b f1), .rd (.b f1), .rd (.b f1)]], [rv .bool]⟩ (G 40) := sound (l := [(25, 4, ⟨[pv f8, pv f8], [rv .bool]⟩)]) (h := .e) noX Try.func107 (by kernel_rfl) (by kernel_rfl) (run40 rfl) (.cons s25 .nil)
theorem s56 : SoundCall Try.prog 56 ⟨[p1 eV, p1 eV], [rv .bool]⟩ (G 127) := sound (l := [(107, 40, ⟨[.val true [.rd (.b f1), .rd (.b f1), .rd (.b f1)], .val true [.rd (.b f1), .rd (.b f1), .rd (.b f1)]], [rv .bool]⟩)]) (h := (zn .e (zn .e (zn (zn .e (.n (some (.mk 4 0 [(5, ji 5), (11, ji 6), (12, .c (.s (.dat (.s1 eV) (.v 0)))), (13, ji 7), (14, jb 8)] [])) (.n (some (.mk 1 0 [(5, ji 5)] [])) .e .e) .e)) .e)))) noX Try.func56 (by kernel_rfl) (by kernel_rfl) (run127 rfl) (.cons s107 .nil)
theorem s24 : SoundCall Try.prog 24 ⟨[p1 ei, p1 ei], [rv .bool]⟩ (G 100) := sound (l := []) (h := (zn .e (zn .e (zn (zn .e (.n (some (.mk 4 0 [(5, ji 5), (11, ji 6), (12, .c (.s (.dat (.s1 ei) (.v 0)))), (13, ji 7), (14, jb 8)] [])) (.n (some (.mk 1 0 [(5, ji 5)] [])) .e .e) .e)) .e)))) noX Try.func24 (by kernel_rfl) (by kernel_rfl) run100 .nil
theorem s57 : SoundCall Try.prog 57 ⟨[p2 ei, p2 ei], [rv .bool]⟩ (G 101) := sound (l := [(24, 100, ⟨[p1 ei, p1 ei], [rv .bool]⟩)]) (h := (zn .e (zn .e (zn (zn .e (.n (some (.mk 4 0 [(5, ji 5), (11, ji 6), (12, .c (.s (.dat (.s2 ei) (.v 0)))), (13, ji 7), (14, jb 8)] [])) (.n (some (.mk 1 0 [(5, ji 5)] [])) .e .e) .e)) .e)))) noX Try.func57 (by kernel_rfl) (by kernel_rfl) (run101 rfl) (.cons s24 .nil)
theorem s17 : SoundCall Try.prog 17 ⟨[.val true [.rd (.s1 eV), .rd (.s2 ei)], .val true [.rd (.s1 eV), .rd (.s2 ei)]], [rv .bool]⟩ (G 146) := sound (l := [(56, 127, ⟨[p1 eV, p1 eV], [rv .bool]⟩), (57, 101, ⟨[p2 ei, p2 ei], [rv .bool]⟩)]) (h := .e) noX Try.func17 (by kernel_rfl) (by kernel_rfl) (run146 rfl rfl) (.cons s56 (.cons s57 .nil))
theorem s58 : SoundCall Try.prog 58 ⟨[m1 eV 62 true, pv i8], [rv i8]⟩ (G 128) := sound (l := []) (h := (zn .e (zn (zn .e (.n (some (.mk 6 0 [(1, ji 3), (5, ji 4), (6, ji 5), (7, jo 0), (8, ji 6), (9, jb 7)] [(0, .row (.s1 eV) 62 (.v 2))])) (.n (some (.mk 3 0 [(1, ji 3), (5, ji 4)] [(0, .row (.s1 eV) 62 (.v 2))])) .e .e) .e)) .e))) noX Try.func58 (by kernel_rfl) (by kernel_rfl) run128 .nil
theorem s26 : SoundCall Try.prog 26 ⟨[m1 ei 2 true, pv i8], [rv i8]⟩ (G 102) := sound (l := []) (h := (zn .e (zn (zn .e (.n (some (.mk 6 0 [(1, ji 3), (5, ji 4), (6, ji 5), (7, jo 0), (8, ji 6), (9, jb 7)] [(0, .row (.s1 ei) 2 (.v 2))])) (.n (some (.mk 3 0 [(1, ji 3), (5, ji 4)] [(0, .row (.s1 ei) 2 (.v 2))])) .e .e) .e)) .e))) noX Try.func26 (by kernel_rfl) (by kernel_rfl) run102 .nil
theorem s59 : SoundCall Try.prog 59 ⟨[m2 ei 2 39 true, pv i8], [rv i8]⟩ (G 103) := sound (l := [(26, 102, ⟨[m1 ei 2 true, pv i8], [rv i8]⟩)]) (h := (zn .e (zn (zn .e (.n (some (.mk 6 0 [(1, ji 3), (5, ji 4), (6, ji 5), (7, jo 0), (8, ji 6), (9, jb 7)] [(0, .rows ei 2 39 0 (.v 2))])) (.n (some (.mk 3 0 [(1, ji 3), (5, ji 4)] [(0, .rows ei 2 39 0 (.v 2))])) .e .e) .e)) .e))) noX Try.func59 (by kernel_rfl) (by kernel_rfl) (run103 rfl) (.cons s26 .nil)
theorem s18 : SoundCall Try.prog 18 ⟨[.val true [.mt (.row (.s1 eV) 62) true, .mt (.rows ei 2 39) true], pv i8], [rv i8]⟩ (G 147) := sound (l := [(58, 128, ⟨[m1 eV 62 true, pv i8], [rv i8]⟩), (59, 103, ⟨[m2 ei 2 39 true, pv i8], [rv i8]⟩)]) (h := .e) noX Try.func18 (by kernel_rfl) (by kernel_rfl) (run147 rfl rfl) (.cons s58 (.cons s59 .nil))
theorem s60 : SoundCall Try.prog 60 q26 (G 129) := sound (l := []) (h := (zn .e (zn (zn .e (.n (some (.mk 5 0 [(1, ji 2), (5, ji 3), (6, ji 4), (7, .c (.s (.dat (.s1 eV) (.v 0)))), (8, ji 5), (9, jb 6)] [])) (.n (some (.mk 2 0 [(1, ji 2), (5, ji 3)] [])) .e .e) .e)) .e))) noX Try.func60 (by kernel_rfl) (by kernel_rfl) run129 .nil
theorem s27 : SoundCall Try.prog 27 q18 (G 104) := sound (l := []) (h := (zn .e (zn (zn .e (.n (some (.mk 5 0 [(1, ji 2), (5, ji 3), (6, ji 4), (7, .c (.s (.dat (.s1 ei) (.v 0)))), (8, ji 5), (9, jb 6)] [])) (.n (some (.mk 2 0 [(1, ji 2), (5, ji 3)] [])) .e .e) .e)) .e))) noX Try.func27 (by kernel_rfl) (by kernel_rfl) run104 .nil
theorem s61 : SoundCall Try.prog 61 q27 (G 105) := sound (l := [(27, 104, q18)]) (h := (zn .e (zn (zn .e (.n (some (.mk 5 0 [(1, ji 2), (5, ji 3), (6, ji 4), (7, .c (.s (.dat (.s2 ei) (.v 0)))), (8, ji 5), (9, jb 6)] [])) (.n (some (.mk 2 0 [(1, ji 2), (5, ji 3)] [])) .e .e) .e)) .e))) noX Try.func61 (by kernel_rfl) (by kernel_rfl) (run105 rfl) (.cons s27 .nil)
theorem s19 : SoundCall Try.prog 19 q10 (G 148) := sound (l := [(60, 129, q26), (61, 105, q27)]) (h := .e) noX Try.func19 (by kernel_rfl) (by kernel_rfl) (run148 rfl rfl) (.cons s60 (.cons s61 .nil))
theorem s11 : SoundCall Try.prog 11 q7 (G 468) := sound (l := [(13, 142, q10), (15, 145, ⟨[.val true [.rd (.s1 eV), .rd (.s2 ei)]], [(true, [.own (.row (.s1 eV) 62), .own (.rows ei 2 39)])]⟩), (38, 444, q1), (39, 444, q1), (17, 146, ⟨[.val true [.rd (.s1 eV), .rd (.s2 ei)], .val true [.rd (.s1 eV), .rd (.s2 ei)]], [rv .bool]⟩), (18, 147, ⟨[.val true [.mt (.row (.s1 eV) 62) true, .mt (.rows ei 2 39) true], pv i8], [rv i8]⟩), (19, 148, q10)]) (h := .e) noX Try.func11 (by kernel_rfl) (by kernel_rfl) (run468 rfl rfl rfl rfl rfl rfl) (.cons s13 (.cons s15 (.cons s38 (.cons s39 (.cons s17 (.cons s18 (.cons s19 .nil)))))))
theorem own : ownKnob Try.prog.godebug = none := by kernel_rfl
theorem laidOut : laidOutB Try.prog = true := by kernel_rfl
theorem mapsRow : mapsRowed Try.prog = true := by kernel_rfl
theorem slicesFull : ((List.range Try.prog.types.size).all fun t => match Try.prog.underlying t with | some (.slice e) => decide (0 < Try.prog.cellsOf e) | _ => true) = true := by kernel_rfl
set_option maxRecDepth 100000 in
theorem joinEdge_lifted (os : Os) (started : os.Started) (H : Type) (enc : TypeId × Value → H) :
  ReturnsInHanded {} Try.checked os 11 .any (Rows.fnExactJoinEdgeSpec.pre6 enc Try.prog Try.f11 Rows.fnExactJoinEdgeRow.domain false) (Rows.fnExactJoinEdgeSpec.post enc Try.prog Try.f11 false true false false) := by
 refine returnsInHanded_of_change (C := Try.checked) own started (by kernel_rfl) Try.func11
  (ChangeSpec.witness6 (enc := enc) (C := Try.checked) false ⟨#[], #[.agg #[.slice none 0 0, .slice none 0 0], .int .i64 0, .int .i64 0], []⟩ 8 (by kernel_rfl) (by kernel_rfl) (by kernel_rfl) (by kernel_rfl)) ?_
 intro W base args ds gs before hval0 hW hcnd _
 have hval : ∀ (j : Nat) t v, Try.f11.params.toList[j]? = some t → args.toList[j]? = some v → Value.okWide Try.prog W .any base t v := fun j t v h1 h2 => hval0 j t v (by simpa using h1) (by simpa using h2)
 obtain ⟨p, q, hA, hV, _⟩ := id hW
 obtain ⟨xs, hX, hF0, hl0⟩ := args_mix (ps := [(true, [.s1 eV, .s2 ei]), (false, [.b i8]), (false, [.b i8])]) (by kernel_rfl) hA hval
 rw [← Fm_nil] at hX
 obtain ⟨x0, ys0, rfl, hb0, hF1⟩ := fitsd_vl hF0
 obtain ⟨x1, ys1, rfl, hb1, hF2⟩ := fitsd_tl hF1
 obtain ⟨x2, ys2, rfl, hF3⟩ := fitsd_int hF2
 obtain ⟨x3, ys3, rfl, hF4⟩ := fitsd_int hF3
 obtain rfl := fitsd_nil hF4
 rw [Try.params11] at hl0
 obtain ⟨d0, es0, rfl, hl1⟩ := len_cons hl0
 obtain ⟨d1, es1, rfl, hl2⟩ := len_cons hl1
 obtain ⟨d2, es2, rfl, hl3⟩ := len_cons hl2
 obtain rfl := len_nil hl3
 exact law_of_sound (bT := true) (tb := 4) laidOut mapsRow slicesFull (by kernel_rfl) (by kernel_rfl) (by kernel_rfl) rfl ⟨rfl, rfl, rfl⟩ s11 rfl hW ⟨_, hX, by show F468 [vl x0, tl x1, .int x2, .int x3] = _; simp only [F468, dV_vl, dT_tl, Option.bind_some]; exact if_pos ⟨hb0, hb1.1, hb1.2⟩⟩
theorem joinEdge_holds : Rows.FnExactJoinEdgeSaid :=
 OpenClaim.holds_of_wide 11 Try.f11 rfl rfl rfl rfl rfl rfl rfl ⟨rfl, rfl, rfl, rfl, rfl⟩ rfl rfl rfl rfl rfl (by kernel_rfl) Try.func11 (by kernel_rfl)
  (of_decide_eq_true (by kernel_rfl)) (by unfold Func.isWrapper; first | (rw [if_pos (by decide +kernel)]; kernel_rfl) | (rw [if_neg (by decide +kernel)]; exact ⟨rfl, rfl⟩))
  (fun os started H enc _ => joinEdge_lifted os started H enc)
end Go.Proofs.Ytflfikfcbohddaa
