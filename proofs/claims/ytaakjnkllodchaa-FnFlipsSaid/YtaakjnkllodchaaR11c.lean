/-
  Proved: a flip keeps the sheet and its number of Euler, and the new edge can be flipped back, with the opposite gain (the law answers true for all inputs). Conditions: none.
-/
import Derived.Test.YtaakjnkllodchaaRows
import Derived.Test.YtaakjnkllodchaaK52
namespace Go.Proofs.Ytaakjnkllodchaa
open Vs Go Go.Shelf Go.RowKit Go.ChangeShapes Go.WideShapes Go.ChangeAt
noncomputable def G : Vs.Told
 | 1 => F1
 | 9 => F9
 | 10 => F10
 | 11 => F11
 | 13 => F13
 | 14 => F14
 | 15 => F15
 | 19 => F19
 | 30 => F30
 | 31 => F31
 | 143 => F143
 | 150 => F150
 | 151 => F151
 | 169 => F169
 | 210 => F210m
 | 220 => F220
 | 221 => F221
 | 331 => F331
 | 400 => F400
 | 401 => F401
 | 402 => F402
 | 403 => F403
 | 406 => F406
 | 407 => F407
 | 408 => F408
 | 409 => F409
 | 410 => F410
 | 411 => F411
 | 413 => F413
 | 417 => F417
 | 418 => F418
 | 419 => F419
 | 421 => F421
 | 427 => F427
 | 428 => F428
 | 432 => F432
 | 436 => F436
 | 441 => F441
 | 442 => F442
 | 445 => F445
 | 449 => F449
 | 450 => F450
 | 451 => F451
 | 452 => F452
 | 453 => F453
 | 474 => F474
 | 475 => F475
 | 540 => F540
 | 541 => F541
 | 542 => F542
 | 543 => F543
 | 544 => F544
 | 545 => F545
 | 546 => F546
 | 549 => F549
 | 550 => F550
 | 551 => F551
 | 552 => F552
 | 553 => F553
 | 554 => F554
 | 555 => F555
 | 556 => F556
 | 557 => F557
 | 558 => F558
 | 561 => F561
 | _ => fun _ => none
def ji (k : Nat) : SV := .c (.s (.dat (.b (.int .i64)) (.v k)))
def jf (k : Nat) : SV := .c (.s (.dat (.b (.flt .f32)) (.v k)))
def jb (k : Nat) : SV := .c (.s (.dat (.b .bool) (.v k)))
def jo (k : Nat) : SV := .c (.s (.own k))
def jm (k : Nat) : SV := .c (.s (.fcel [.d (.s1 eV) (.v 0), .d (.s2 ei) (.v 1)] k))
def ju : SV := .c (.s .undef)
def zn (l r : H) : H := .n none l r
def q0 : Sig := ⟨[.val true [.rd (.s1 eV), .rd (.s2 ei)]], [(false, [.own (.map ⟨88, 100, 2, .s ei 2⟩)]), r1 ⟨true, [i8, i8]⟩ 100]⟩
def q1 : Sig := ⟨[.val true [.rd (.b f1), .rd (.b f1), .rd (.b f1)], .val true [.rd (.b f1), .rd (.b f1), .rd (.b f1)]], [(true, [.cell f1, .cell f1, .cell f1])]⟩
def q2 : Sig := ⟨[.val true [.rd (.s1 eV), .rd (.s2 ei)]], [rv .bool]⟩
def q3 : Sig := ⟨[.val true [.rd (.s1 eV), .rd (.s2 ei)], pv i8, pv i8], [rv i8, rv i8, rv i8, rv i8, rv .bool]⟩
def q4 : Sig := ⟨[.val true [.rd (.s1 eV), .rd (.s2 ei)], pv i8, pv i8], [rv .bool]⟩
def q5 : Sig := ⟨[.val true [.rd (.b f1), .rd (.b f1), .rd (.b f1)], .val true [.rd (.b f1), .rd (.b f1), .rd (.b f1)]], [rv f1]⟩
def q6 : Sig := ⟨[.val true [.rd (.s1 eV), .rd (.s2 ei)], pv i8, pv i8], [rv f1, rv .bool]⟩
def q7 : Sig := ⟨[.ptr [.rd (.s1 eV), .rd (.s2 ei)]], [(true, [.own (.row (.s1 eV) 66), .own (.rows ei 2 43)])]⟩
def q9 : Sig := ⟨[pv i8, pv i8], [(true, [.cell i8, .cell i8])]⟩
def q11 : Sig := ⟨[pv i8, pv i8], [rv i8]⟩
def q13 : Sig := ⟨[.val true [.rd (.b f1), .rd (.b f1), .rd (.b f1)]], [rv f1]⟩
def q14 : Sig := ⟨[.val true [.rd (.s1 eV), .rd (.s2 ei)], pv i8], [rv .bool]⟩
def q26 : Sig := ⟨[pv i8, pv i8, pv i8], [rv .bool]⟩
def q34 : Sig := ⟨[pv f8], [rv f8]⟩
def q35 : Sig := ⟨[pv f1], [rv f1]⟩
theorem noX : ∀ x ∈ ([] : List (FuncId × Ext)), ∀ args w, (callFunc x.1 args).run Try.prog w = ((extFn x.2 args).run Try.prog w).andThen fun v w' => .ok (.value v) w' := by intro x hx; cases hx
theorem f64frombitsX : ∀ x ∈ ([(137, .f64frombits)] : List (FuncId × Ext)), ∀ args w, (callFunc x.1 args).run Try.prog w = ((extFn x.2 args).run Try.prog w).andThen fun v w' => .ok (.value v) w' := by
 intro x hx
 simp only [List.mem_cons, List.not_mem_nil, or_false] at hx
 subst hx
 exact fun args w => run_callFunc_extern Try.func137 (by kernel_rfl) (by kernel_rfl) (by kernel_rfl) (by kernel_rfl) args w
theorem sqrtX : ∀ x ∈ ([(138, .sqrt)] : List (FuncId × Ext)), ∀ args w, (callFunc x.1 args).run Try.prog w = ((extFn x.2 args).run Try.prog w).andThen fun v w' => .ok (.value v) w' := by
 intro x hx
 simp only [List.mem_cons, List.not_mem_nil, or_false] at hx
 subst hx
 exact fun args w => run_callFunc_extern Try.func138 (by kernel_rfl) (by kernel_rfl) (by kernel_rfl) (by kernel_rfl) args w
theorem s13 : SoundCall Try.prog 13 ⟨[p1 ⟨false, [.int .u8]⟩, p1 ⟨false, [.int .u8]⟩], [rv .bool]⟩ (G 220) := sound (l := []) (h := .e) noX Try.func13 (by kernel_rfl) (by kernel_rfl) run220 .nil
theorem s16 : SoundCall Try.prog 16 ⟨[p1 ⟨false, [.int .u8]⟩, pv i8, pv i8], [rv i8]⟩ (G 221) := sound (l := []) (h := .e) noX Try.func16 (by kernel_rfl) (by kernel_rfl) run221 .nil
theorem s54 : SoundCall Try.prog 54 ⟨[pv i8, pv i8, pv f1], [(true, [.own (.row (.s1 eV) 66), .own (.rows ei 2 43)])]⟩ (G 545) := sound (l := []) (h := (zn .e (zn .e (zn (zn .e (.n (some (.mk 4 1 [(8, ji 6), (17, ji 7), (18, ji 1), (19, jb 8)] [(1, .dead), (3, .var [(.s (.own 4)), (.s (.own 2))]), (4, .row (.s1 eV) 66 (.v 5))])) (.n (some (.mk 2 1 [(8, ji 6)] [(3, .var [(.s (.own 4)), (.s (.own 2))]), (1, .dead), (4, .row (.s1 eV) 66 (.v 5))])) (zn .e (zn (zn (zn .e (.n (some (.mk 4 1 [(9, ji 9), (22, ji 10), (23, ji 0), (24, jb 11)] [(3, .var [(.s (.own 5)), (.s (.own 2))]), (4, .dead), (5, .row (.s1 eV) 66 (.v 8))])) (.n (some (.mk 2 1 [(9, ji 9)] [(3, .var [(.s (.own 5)), (.s (.own 2))]), (4, .dead), (5, .row (.s1 eV) 66 (.v 8))])) .e .e) .e)) .e) .e)) .e) .e)) (zn (zn .e (.n (some (.mk 4 1 [(10, ji 10), (41, ji 11), (42, ji 1), (43, jb 12)] [(2, .dead), (3, .var [(.s (.own 4)), (.s (.own 5))]), (5, .rows ei 2 43 0 (.v 9))])) (.n (some (.mk 2 1 [(10, ji 10)] [(3, .var [(.s (.own 4)), (.s (.own 5))]), (2, .dead), (5, .rows ei 2 43 0 (.v 9))])) (zn .e (zn (zn (zn .e (.n (some (.mk 4 1 [(11, ji 13), (46, ji 14), (47, ji 0), (48, jb 15)] [(3, .var [(.s (.own 4)), (.s (.own 6))]), (5, .dead), (6, .rows ei 2 43 0 (.v 12))])) (.n (some (.mk 2 1 [(11, ji 13)] [(3, .var [(.s (.own 4)), (.s (.own 6))]), (5, .dead), (6, .rows ei 2 43 0 (.v 12))])) .e .e) .e)) .e) .e)) .e) .e)) .e))))) noX Try.func54 (by kernel_rfl) (by kernel_rfl) run545 .nil
theorem s124 : SoundCall Try.prog 124 ⟨[], [rv f8]⟩ (G 331) := sound (X := [(137, .f64frombits)]) (l := []) (h := .e) f64frombitsX Try.func124 (by kernel_rfl) (by kernel_rfl) run331 .nil
theorem s112 : SoundCall Try.prog 112 q34 (G 475) := sound (l := [(124, 331, ⟨[], [rv f8]⟩)]) (h := (zn .e (zn .e (zn .e (zn .e (zn (zn .e (.n (some (.mk 1 0 [(3, .c (.s (.dat (.b (.flt .f64)) (.v 11)))), (17, ju), (18, ju)] [])) .e .e)) (zn .e (zn (zn .e (.n (some (.mk 1 0 [(3, .c (.s (.dat (.b (.flt .f64)) (.v 13))))] [])) .e .e)) (zn (zn .e (.n (some (.mk 1 0 [(3, .c (.s (.dat (.b (.flt .f64)) (.v 15))))] [])) .e .e)) (zn .e (zn .e (zn .e (zn (zn .e (.n (some (.mk 4 0 [(7, .c (.s (.dat (.b (.flt .f64)) (.v 18)))), (8, ji 19), (43, ji 20), (44, jb 21)] [])) (.n (some (.mk 2 0 [(7, .c (.s (.dat (.b (.flt .f64)) (.v 18)))), (8, ji 19)] [])) .e .e) .e)) .e))))))))))))) noX Try.func112 (by kernel_rfl) (by kernel_rfl) run475 (.cons s124 .nil)
theorem s111 : SoundCall Try.prog 111 ⟨[pv f8], [rv f1]⟩ (G 10) := sound (l := []) (h := .e) noX Try.func111 (by kernel_rfl) (by kernel_rfl) run10 .nil
theorem s91 : SoundCall Try.prog 91 q35 (G 474) := sound (l := [(112, 475, q34), (111, 10, ⟨[pv f8], [rv f1]⟩)]) (h := .e) noX Try.func91 (by kernel_rfl) (by kernel_rfl) (run474s rfl rfl) (.cons s112 (.cons s111 .nil))
theorem s55 : SoundCall Try.prog 55 ⟨[pv i8, pv i8, pv f1, pv f1], [(true, [.own (.row (.s1 eV) 66), .own (.rows ei 2 43)])]⟩ (G 546) := sound (l := [(91, 474, q35)]) (h := (zn .e (zn .e (zn (zn .e (.n (some (.mk 4 1 [(10, ji 7), (21, ji 8), (22, ji 1), (23, jb 9)] [(1, .dead), (3, .var [(.s (.own 4)), (.s (.own 2))]), (4, .row (.s1 eV) 66 (.v 6))])) (.n (some (.mk 2 1 [(10, ji 7)] [(3, .var [(.s (.own 4)), (.s (.own 2))]), (1, .dead), (4, .row (.s1 eV) 66 (.v 6))])) (zn .e (zn (zn (zn .e (.n (some (.mk 4 1 [(11, ji 10), (26, ji 11), (27, ji 0), (28, jb 12)] [(3, .var [(.s (.own 5)), (.s (.own 2))]), (4, .dead), (5, .row (.s1 eV) 66 (.v 9))])) (.n (some (.mk 2 1 [(11, ji 10)] [(3, .var [(.s (.own 5)), (.s (.own 2))]), (4, .dead), (5, .row (.s1 eV) 66 (.v 9))])) .e .e) .e)) .e) .e)) .e) .e)) (zn (zn .e (.n (some (.mk 4 1 [(14, ji 11), (57, ji 12), (58, ji 1), (59, jb 13)] [(2, .dead), (3, .var [(.s (.own 4)), (.s (.own 5))]), (5, .rows ei 2 43 0 (.v 10))])) (.n (some (.mk 2 1 [(14, ji 11)] [(3, .var [(.s (.own 4)), (.s (.own 5))]), (2, .dead), (5, .rows ei 2 43 0 (.v 10))])) (zn .e (zn (zn (zn .e (.n (some (.mk 4 1 [(15, ji 14), (62, ji 15), (63, ji 0), (64, jb 16)] [(3, .var [(.s (.own 4)), (.s (.own 6))]), (5, .dead), (6, .rows ei 2 43 0 (.v 13))])) (.n (some (.mk 2 1 [(15, ji 14)] [(3, .var [(.s (.own 4)), (.s (.own 6))]), (5, .dead), (6, .rows ei 2 43 0 (.v 13))])) .e .e) .e)) .e) .e)) .e) .e)) .e))))) noX Try.func55 (by kernel_rfl) (by kernel_rfl) (run546 rfl) (.cons s91 .nil)
theorem s113 : SoundCall Try.prog 113 ⟨[pv f1], [rv .bool]⟩ (G 1) := sound (l := []) (h := .e) noX Try.func113 (by kernel_rfl) (by kernel_rfl) run1 .nil
theorem s92 : SoundCall Try.prog 92 ⟨[pv f1], [rv .bool]⟩ (G 550) := sound (l := [(113, 1, ⟨[pv f1], [rv .bool]⟩)]) (h := .e) noX Try.func92 (by kernel_rfl) (by kernel_rfl) (run550 rfl) (.cons s113 .nil)
theorem s56 : SoundCall Try.prog 56 ⟨[pv f1], [(true, [.own (.row (.s1 eV) 66), .own (.rows ei 2 43)]), rv .bool]⟩ (G 549) := sound (l := [(92, 550, ⟨[pv f1], [rv .bool]⟩)]) (h := (zn .e (zn .e (zn .e (zn (zn .e (.n (some (.mk 4 1 [(5, ji 4), (12, ji 5), (13, jb 6)] [(1, .var [(.s (.own 2)), (.s .nils)]), (2, .row (.s1 eV) 66 (.v 3))])) (.n (some (.mk 2 1 [(5, ji 4)] [(1, .var [(.s (.own 2)), (.s .nils)]), (2, .row (.s1 eV) 66 (.v 3))])) (zn .e (zn (zn (zn .e (zn (zn .e (.n (some (.mk 1 0 [] [(3, .var [(.s (.dat (.b (.flt .f32)) (.v 8))), (.s (.dat (.b (.flt .f32)) (.c (.flt 0)))), (.s (.dat (.b (.flt .f32)) (.c (.flt 0))))])])) .e .e)) (zn (zn .e (.n (some (.mk 1 0 [] [(3, .var [(.s (.dat (.b (.flt .f32)) (.v 8))), (.s (.dat (.b (.flt .f32)) (.v 11))), (.s (.dat (.b (.flt .f32)) (.c (.flt 0))))])])) .e .e)) (zn (zn .e (.n (some (.mk 1 0 [] [(3, .var [(.s (.dat (.b (.flt .f32)) (.v 8))), (.s (.dat (.b (.flt .f32)) (.v 11))), (.s (.dat (.b (.flt .f32)) (.v 14)))])])) .e .e)) .e)))) .e) .e)) .e) .e)) .e))))) noX Try.func56 (by kernel_rfl) (by kernel_rfl) (run549 rfl) (.cons s92 .nil)
theorem s114 : SoundCall Try.prog 114 q11 (G 453) := sound (l := []) (h := .e) noX Try.func114 (by kernel_rfl) (by kernel_rfl) run453 .nil
theorem s115 : SoundCall Try.prog 115 q11 (G 210) := sound (l := []) (h := .e) noX Try.func115 (by kernel_rfl) (by kernel_rfl) run210m .nil
theorem s93 : SoundCall Try.prog 93 ⟨[.ptr [.rd (.s1 eV), .rd (.s2 ei)]], [r2 ei 2 43]⟩ (G 413) := sound (l := [(114, 453, q11), (115, 210, q11)]) (h := (zn .e (zn .e (zn .e (zn (zn .e (.n (some (.mk 5 0 [(5, ji 6), (22, ji 7), (23, jm 0), (24, jm 0), (25, jm 1), (26, .c (.s (.dat (.s2 ei) (.v 1)))), (27, ji 8), (28, jb 9)] [(0, .row (.s1 (.mk false [.bool])) 4 (.v 5))])) (.n (some (.mk 2 0 [(5, ji 6)] [(0, .row (.s1 (.mk false [.bool])) 4 (.v 5))])) (zn .e (zn (zn (zn .e (zn .e (.n (some (.mk 4 0 [(7, ji 11), (38, ji 12), (39, jb 13)] [(0, .row (.s1 (.mk false [.bool])) 4 (.v 10))])) (.n (some (.mk 2 0 [(7, ji 11)] [(0, .row (.s1 (.mk false [.bool])) 4 (.v 10))])) .e .e) .e))) .e) .e)) .e) .e)) (zn .e (zn (zn .e (.n (some (.mk 4 1 [(10, jo 2), (11, ji 12), (64, ji 13), (65, ji 2), (66, jb 14)] [(1, .dead), (2, .rows ei 2 43 0 (.v 11))])) (.n (some (.mk 2 1 [(10, jo 2), (11, ji 12)] [(1, .dead), (2, .rows ei 2 43 0 (.v 11))])) (zn .e (zn (zn (zn .e (.n (some (.mk 4 1 [(10, jo 3), (12, ji 16), (71, ji 17), (72, ji 2), (73, jb 18)] [(2, .dead), (3, .rows ei 2 43 0 (.v 15))])) (.n (some (.mk 2 1 [(10, jo 3), (12, ji 16)] [(2, .dead), (3, .rows ei 2 43 0 (.v 15))])) (zn .e (zn (zn (zn .e (.n (some (.mk 1 1 [(10, jo 4)] [(3, .dead), (4, .rows ei 2 43 0 (.v 22))])) .e .e)) .e) .e)) .e) .e)) .e) .e)) .e) .e)) .e))))))) noX Try.func93 (by kernel_rfl) (by kernel_rfl) (run413 rfl rfl) (.cons s114 (.cons s115 .nil))
theorem s82 : SoundCall Try.prog 82 ⟨[p1 ei], [r1 ei 2]⟩ (G 143) := sound (l := []) (h := .e) noX Try.func82 (by kernel_rfl) (by kernel_rfl) run143s .nil
theorem s39 : SoundCall Try.prog 39 q7 (G 151) := sound (l := [(82, 143, ⟨[p1 ei], [r1 ei 2]⟩)]) (h := (zn .e (zn .e (zn (zn .e (.n (some (.mk 5 1 [(4, ji 6), (13, ji 7), (14, jm 0), (15, jm 0), (16, jm 1), (17, .c (.s (.dat (.s2 ei) (.v 1)))), (18, ji 8), (19, jb 9)] [(3, .dead), (4, .var [(.s (.own 2)), (.s (.own 5))]), (5, .rows ei 2 43 0 (.v 5))])) (.n (some (.mk 2 1 [(4, ji 6)] [(4, .var [(.s (.own 2)), (.s (.own 5))]), (3, .dead), (5, .rows ei 2 43 0 (.v 5))])) .e .e) .e)) .e)))) noX Try.func39 (by kernel_rfl) (by kernel_rfl) (run151s rfl) (.cons s82 .nil)
theorem s53 : SoundCall Try.prog 53 q1 (G 30) := sound (l := []) (h := .e) noX Try.func53 (by kernel_rfl) (by kernel_rfl) run30 .nil
theorem s94 : SoundCall Try.prog 94 ⟨[.val true [.rd (.b f1), .rd (.b f1), .rd (.b f1)], pv f1], [(true, [.cell f1, .cell f1, .cell f1])]⟩ (G 31) := sound (l := []) (h := .e) noX Try.func94 (by kernel_rfl) (by kernel_rfl) run31 .nil
theorem s117 : SoundCall Try.prog 117 q5 (G 14) := sound (l := []) (h := .e) noX Try.func117 (by kernel_rfl) (by kernel_rfl) run14 .nil
theorem s125 : SoundCall Try.prog 125 q34 (G 9) := sound (X := [(138, .sqrt)]) (l := []) (h := .e) sqrtX Try.func125 (by kernel_rfl) (by kernel_rfl) run9 .nil
theorem s116 : SoundCall Try.prog 116 q35 (G 11) := sound (l := [(125, 9, q34), (111, 10, ⟨[pv f8], [rv f1]⟩)]) (h := .e) noX Try.func116 (by kernel_rfl) (by kernel_rfl) (run11' rfl rfl) (.cons s125 (.cons s111 .nil))
theorem s95 : SoundCall Try.prog 95 q13 (G 15) := sound (l := [(117, 14, q5), (116, 11, q35)]) (h := .e) noX Try.func95 (by kernel_rfl) (by kernel_rfl) (run15 rfl rfl) (.cons s117 (.cons s116 .nil))
theorem s96 : SoundCall Try.prog 96 ⟨[p2 ei, pv i8, pv i8], [rv i8]⟩ (G 552) := sound (l := [(114, 453, q11), (115, 210, q11)]) (h := (zn .e (zn (zn .e (.n (some (.mk 4 0 [(7, ji 3), (8, ji 4), (9, .c (.s (.dat (.s2 ei) (.v 0)))), (10, ji 5), (11, jb 6)] [])) (.n (some (.mk 1 0 [(7, ji 3)] [])) .e .e) .e)) .e))) noX Try.func96 (by kernel_rfl) (by kernel_rfl) (run552 rfl rfl) (.cons s114 (.cons s115 .nil))
theorem s57 : SoundCall Try.prog 57 ⟨[pv i8, pv f1], [(true, [.own (.row (.s1 eV) 66), .own (.rows ei 2 43)])]⟩ (G 551) := sound (l := [(93, 413, ⟨[.ptr [.rd (.s1 eV), .rd (.s2 ei)]], [r2 ei 2 43]⟩), (39, 151, q7), (53, 30, q1), (94, 31, ⟨[.val true [.rd (.b f1), .rd (.b f1), .rd (.b f1)], pv f1], [(true, [.cell f1, .cell f1, .cell f1])]⟩), (95, 15, q13), (96, 552, ⟨[p2 ei, pv i8, pv i8], [rv i8]⟩)]) (h := (zn .e (zn .e (zn .e (zn .e (zn .e (zn .e (zn .e (zn (zn .e (.n (some (.mk 5 1 [(9, ji 27), (51, ji 28), (52, jo 12), (53, ji 29), (54, jb 30)] [(13, .dead), (15, .var [(.s (.own 16)), (.s (.own 14))]), (16, .row (.s1 eV) 66 (.v 26))])) (.n (some (.mk 2 1 [(9, ji 27)] [(15, .var [(.s (.own 16)), (.s (.own 14))]), (13, .dead), (16, .row (.s1 eV) 66 (.v 26))])) .e .e) .e)) (zn .e (zn (zn .e (.n (some (.mk 5 1 [(11, ji 33), (92, ji 34), (93, .c (.s (.vptr 2 1))), (94, jo 11), (95, ji 35), (96, jb 36)] [(15, .var [(.s (.own 16)), (.s (.own 18))]), (17, .dead), (18, .rows ei 2 43 0 (.v 32))])) (.n (some (.mk 2 1 [(11, ji 33)] [(15, .var [(.s (.own 16)), (.s (.own 18))]), (17, .dead), (18, .rows ei 2 43 0 (.v 32))])) .e .e) .e)) .e))))))))))) noX Try.func57 (by kernel_rfl) (by kernel_rfl) (run551 rfl rfl rfl rfl rfl rfl) (.cons s93 (.cons s39 (.cons s53 (.cons s94 (.cons s95 (.cons s96 .nil))))))
theorem s15 : SoundCall Try.prog 15 ⟨[pv i8], [(true, [.own (.row (.s1 eV) 66), .own (.rows ei 2 43)])]⟩ (G 544) := sound (l := [(54, 545, ⟨[pv i8, pv i8, pv f1], [(true, [.own (.row (.s1 eV) 66), .own (.rows ei 2 43)])]⟩), (55, 546, ⟨[pv i8, pv i8, pv f1, pv f1], [(true, [.own (.row (.s1 eV) 66), .own (.rows ei 2 43)])]⟩), (56, 549, ⟨[pv f1], [(true, [.own (.row (.s1 eV) 66), .own (.rows ei 2 43)]), rv .bool]⟩), (57, 551, ⟨[pv i8, pv f1], [(true, [.own (.row (.s1 eV) 66), .own (.rows ei 2 43)])]⟩)]) (h := (zn .e (zn .e (zn (zn .e (zn (zn .e (.n (some (.mk 2 2 [] [(1, .var [(.s (.own 2)), (.s (.own 3))]), (2, .row (.s1 eV) 66 (.v 2)), (3, .rows ei 2 43 0 (.v 3))])) .e (zn .e (.n (some (.mk 2 2 [] [(1, .var [(.s (.own 2)), (.s (.own 3))]), (2, .row (.s1 eV) 66 (.v 3)), (3, .rows ei 2 43 0 (.v 4))])) .e (zn .e (.n (some (.mk 2 2 [] [(1, .var [(.s (.own 2)), (.s (.own 3))]), (2, .row (.s1 eV) 66 (.v 4)), (3, .rows ei 2 43 0 (.v 5))])) .e (zn .e (.n (some (.mk 2 2 [] [(1, .var [(.s (.own 2)), (.s (.own 3))]), (2, .row (.s1 eV) 66 (.v 5)), (3, .rows ei 2 43 0 (.v 6))])) .e .e)))))))) .e)) .e)))) noX Try.func15 (by kernel_rfl) (by kernel_rfl) (run544 rfl rfl rfl rfl) (.cons s54 (.cons s55 (.cons s56 (.cons s57 .nil))))
theorem s51 : SoundCall Try.prog 51 ⟨[.val false [.rd (.s1 ⟨false, [.int .u8]⟩)]], [(false, [.own (.box [.s1 ⟨false, [.int .u8]⟩, .b (.int .i64), .b (.int .u64)])])]⟩ (G 540) := sound (l := []) (h := .e) noX Try.func51 (by kernel_rfl) (by kernel_rfl) run540 .nil
theorem s90 : SoundCall Try.prog 90 ⟨[.val false [.mt (.box [.s1 ⟨false, [.int .u8]⟩, .b (.int .i64), .b (.int .u64)]) true]], [rv i8]⟩ (G 541) := sound (l := []) (h := (zn .e (zn .e (zn (zn .e (.n (some (.mk 1 0 [(3, ji 5)] [])) .e .e)) .e)))) noX Try.func90 (by kernel_rfl) (by kernel_rfl) run541 .nil
theorem s52 : SoundCall Try.prog 52 ⟨[.val false [.mt (.box [.s1 ⟨false, [.int .u8]⟩, .b (.int .i64), .b (.int .u64)]) true], pv i8], [rv i8]⟩ (G 542) := sound (l := [(90, 541, ⟨[.val false [.mt (.box [.s1 ⟨false, [.int .u8]⟩, .b (.int .i64), .b (.int .u64)]) true]], [rv i8]⟩)]) (h := (zn .e (zn .e (zn .e (zn (zn .e (.n (some (.mk 2 0 [(5, ji 7)] [(0, .bx [(.s1 (.mk false [(.int .u8)])), (.b (.int .i64)), (.b (.int .u64))] (.v 6))])) .e .e)) .e))))) noX Try.func52 (by kernel_rfl) (by kernel_rfl) (run542 rfl) (.cons s90 .nil)
theorem s14 : SoundCall Try.prog 14 ⟨[.val false [.rd (.s1 ⟨false, [.int .u8]⟩)], .val true [.rd (.s1 eV), .rd (.s2 ei)]], [(true, [.own (.row (.s1 eV) 66), .own (.rows ei 2 43)])]⟩ (G 543) := sound (l := [(51, 540, ⟨[.val false [.rd (.s1 ⟨false, [.int .u8]⟩)]], [(false, [.own (.box [.s1 ⟨false, [.int .u8]⟩, .b (.int .i64), .b (.int .u64)])])]⟩), (39, 151, q7), (52, 542, ⟨[.val false [.mt (.box [.s1 ⟨false, [.int .u8]⟩, .b (.int .i64), .b (.int .u64)]) true], pv i8], [rv i8]⟩), (53, 30, q1)]) (h := (zn .e (zn .e (zn .e (zn (zn .e (.n (some (.mk 6 0 [(7, ji 8), (12, ji 9), (13, .c (.s (.vptr 5 0))), (14, jo 3), (15, ji 10), (16, jb 11)] [(2, .bx [(.s1 (.mk false [(.int .u8)])), (.b (.int .i64)), (.b (.int .u64))] (.v 6)), (3, .row (.s1 eV) 66 (.v 7))])) (.n (some (.mk 3 0 [(7, ji 8)] [(2, .bx [(.s1 (.mk false [(.int .u8)])), (.b (.int .i64)), (.b (.int .u64))] (.v 6)), (3, .row (.s1 eV) 66 (.v 7))])) .e .e) .e)) .e))))) noX Try.func14 (by kernel_rfl) (by kernel_rfl) (run543 rfl rfl rfl rfl) (.cons s51 (.cons s39 (.cons s52 (.cons s53 .nil))))
theorem s85 : SoundCall Try.prog 85 q26 (G 19) := sound (l := []) (h := .e) noX Try.func85 (by kernel_rfl) (by kernel_rfl) run19 .nil
theorem s58 : SoundCall Try.prog 58 q2 (G 150) := sound (l := [(85, 19, q26)]) (h := (zn .e (zn .e (zn .e (zn (zn .e (.n (some (.mk 2 0 [(14, ju), (15, ju), (16, ju), (17, ju), (22, ji 9), (23, jb 10)] [])) (.n (some (.mk 1 0 [(14, ju), (15, ju), (16, ju), (17, ju), (22, ji 9)] [])) (zn .e (zn .e (zn (zn (zn .e (zn .e (zn .e (.n (some (.mk 2 0 [(30, ju), (31, ju), (32, ju), (33, ju), (34, ju), (35, ju), (36, ju), (39, ju), (40, ju), (41, ju), (42, ju), (43, ju), (44, ju), (45, ju), (48, ju), (49, ju), (50, ju), (51, ju), (52, ju), (53, ju), (54, ju), (58, ji 39), (59, jb 40)] [])) (.n (some (.mk 1 0 [(30, ju), (31, ju), (32, ju), (33, ju), (34, ju), (35, ju), (36, ju), (39, ju), (40, ju), (41, ju), (42, ju), (43, ju), (44, ju), (45, ju), (48, ju), (49, ju), (50, ju), (51, ju), (52, ju), (53, ju), (54, ju), (58, ji 39)] [])) .e .e) .e)))) .e) .e))) .e) .e)) .e))))) noX Try.func58 (by kernel_rfl) (by kernel_rfl) (run150 rfl) (.cons s85 .nil)
theorem s70 : SoundCall Try.prog 70 q9 (G 400) := sound (l := []) (h := .e) noX Try.func70 (by kernel_rfl) (by kernel_rfl) run400 .nil
theorem s144 : SoundCall Try.prog 144 ⟨[pv i8], [rv .bool]⟩ (G 452) := sound (l := []) (h := .e) noX Try.func144 (by kernel_rfl) (by kernel_rfl) run452 .nil
theorem s136 : SoundCall Try.prog 136 q11 (G 451) := sound (l := [(144, 452, ⟨[pv i8], [rv .bool]⟩)]) (h := .e) noX Try.func136 (by kernel_rfl) (by kernel_rfl) (run451 rfl) (.cons s144 .nil)
theorem s120 : SoundCall Try.prog 120 ⟨[p1 ei, p1 ei], [rv i8]⟩ (G 450) := sound (l := [(136, 451, q11)]) (h := (zn .e (zn (zn .e (.n (some (.mk 2 0 [(11, ji 3), (12, jb 4)] [])) (.n (some (.mk 1 0 [(11, ji 3)] [])) .e .e) .e)) .e))) noX Try.func120 (by kernel_rfl) (by kernel_rfl) (run450 rfl) (.cons s136 .nil)
theorem s98 : SoundCall Try.prog 98 ⟨[.val true [.rd (.b i8), .rd (.b i8)], .val true [.rd (.b i8), .rd (.b i8)]], [rv i8]⟩ (G 449) := sound (l := [(120, 450, ⟨[p1 ei, p1 ei], [rv i8]⟩)]) (h := .e) noX Try.func98 (by kernel_rfl) (by kernel_rfl) (run449 rfl) (.cons s120 .nil)
def srt_ren : Go.Shelf.Ren := ⟨fun | 6 => 97 | 15 => 119 | 14 => 118 | 28 => 134 | 29 => 135 | 20 => 126 | 21 => 127 | 22 => 128 | 23 => 129 | 24 => 130 | 25 => 131 | 26 => 132 | 27 => 133 | 46 => 139 | 47 => 140 | 48 => 141 | 49 => 142 | 50 => 143 | 57 => 145 | n => n, fun | 22 => 89 | 24 => 100 | 25 => 127 | 3 => 3 | 39 => 135 | 0 => 0 | 53 => 153 | 55 => 117 | 4 => 4 | 46 => 146 | 45 => 145 | 50 => 150 | 5 => 5 | 9 => 9 | 66 => 157 | 70 => 161 | 76 => 164 | 77 => 165 | n => n, fun n => n⟩
theorem srt : SlLaysF0.n6 Try.prog srt_ren where
 mixed := by kernel_rfl
 f6 := ⟨Try.f97.name, by kernel_rfl, Try.func97.trans (congrArg some (by kernel_rfl))⟩
 f14 := ⟨Try.f118.name, by kernel_rfl, Try.func118.trans (congrArg some (by kernel_rfl))⟩
 f15 := Try.func119.trans (congrArg some (by kernel_rfl))
 f20 := ⟨Try.f126.name, by kernel_rfl, Try.func126.trans (congrArg some (by kernel_rfl))⟩
 f21 := ⟨Try.f127.name, by kernel_rfl, Try.func127.trans (congrArg some (by kernel_rfl))⟩
 f22 := ⟨Try.f128.name, by kernel_rfl, Try.func128.trans (congrArg some (by kernel_rfl))⟩
 f23 := ⟨Try.f129.name, by kernel_rfl, Try.func129.trans (congrArg some (by kernel_rfl))⟩
 f24 := ⟨Try.f130.name, by kernel_rfl, Try.func130.trans (congrArg some (by kernel_rfl))⟩
 f25 := ⟨Try.f131.name, by kernel_rfl, Try.func131.trans (congrArg some (by kernel_rfl))⟩
 f26 := ⟨Try.f132.name, by kernel_rfl, Try.func132.trans (congrArg some (by kernel_rfl))⟩
 f27 := ⟨Try.f133.name, by kernel_rfl, Try.func133.trans (congrArg some (by kernel_rfl))⟩
 f28 := Try.func134.trans (congrArg some (by kernel_rfl))
 f29 := Try.func135.trans (congrArg some (by kernel_rfl))
 f46 := ⟨Try.f139.name, by kernel_rfl, Try.func139.trans (congrArg some (by kernel_rfl))⟩
 f47 := Try.func140.trans (congrArg some (by kernel_rfl))
 f48 := Try.func141.trans (congrArg some (by kernel_rfl))
 f49 := ⟨Try.f142.name, by kernel_rfl, Try.func142.trans (congrArg some (by kernel_rfl))⟩
 f50 := ⟨Try.f143.name, by kernel_rfl, Try.func143.trans (congrArg some (by kernel_rfl))⟩
 f57 := ⟨Try.f145.name, by kernel_rfl, Try.func145.trans (congrArg some (by kernel_rfl))⟩
 t0 := Try.underlying0
 a0 := Try.isAgg0
 z0 := Try.sizeOf0
 v0 := Try.zeroValue0
 t3 := Try.underlying3
 a3 := Try.isAgg3
 z3 := Try.sizeOf3
 v3 := Try.zeroValue3
 t4 := Try.underlying4
 a4 := Try.isAgg4
 z4 := Try.sizeOf4
 v4 := Try.zeroValue4
 t5 := Try.underlying5
 a5 := Try.isAgg5
 z5 := Try.sizeOf5
 v5 := Try.zeroValue5
 t9 := Try.underlying9
 a9 := Try.isAgg9
 z9 := Try.sizeOf9
 v9 := Try.zeroValue9
 t22 := Try.underlying89
 a22 := Try.isAgg89
 z22 := Try.sizeOf89
 v22 := Try.zeroValue89
 t25 := Try.underlying127
 a25 := Try.isAgg127
 z25 := Try.sizeOf127
 v25 := Try.zeroValue127
 t39 := Try.underlying135
 a39 := Try.isAgg135
 z39 := Try.sizeOf135
 v39 := Try.zeroValue135
 t45 := Try.underlying145
 a45 := Try.isAgg145
 z45 := Try.sizeOf145
 v45 := Try.zeroValue145
 t46 := Try.underlying146
 a46 := Try.isAgg146
 z46 := Try.sizeOf146
 v46 := Try.zeroValue146
 t50 := Try.underlying150
 a50 := Try.isAgg150
 z50 := Try.sizeOf150
 v50 := Try.zeroValue150
 t53 := Try.underlying153
 a53 := Try.isAgg153
 z53 := Try.sizeOf153
 v53 := Try.zeroValue153
 t55 := Try.underlying117
 a55 := Try.isAgg117
 z55 := Try.sizeOf117
 v55 := Try.zeroValue117
 t66 := Try.underlying157
 a66 := Try.isAgg157
 z66 := Try.sizeOf157
 v66 := Try.zeroValue157
 t70 := Try.underlying161
 a70 := Try.isAgg161
 z70 := Try.sizeOf161
 v70 := Try.zeroValue161
 t76 := Try.underlying164
 a76 := Try.isAgg164
 z76 := Try.sizeOf164
 v76 := Try.zeroValue164
 t77 := Try.underlying165
 a77 := Try.isAgg165
 z77 := Try.sizeOf165
 v77 := Try.zeroValue165
theorem cmpF : ∀ x y : Int × Int, G 449 [.int x.1, .int x.2, .int y.1, .int y.2] = some [.int (cmpE x y)] := fun _ _ => rfl
theorem s97 : SoundCall Try.prog 97 ⟨[m1 ⟨true, [i8, i8]⟩ 100 true, .fn 98 []], []⟩ (G 402) := sortFunc_sound srt Try.isAgg100 Try.sizeOf100 s98 cmpF
theorem s59 : SoundCall Try.prog 59 q0 (G 401) := sound (l := [(70, 400, q9), (97, 402, ⟨[m1 ⟨true, [i8, i8]⟩ 100 true, .fn 98 []], []⟩)]) (h := (zn .e (zn .e (zn (zn .e (.n (some (.mk 4 1 [(5, jo 3), (15, ji 6), (16, jb 7)] [(1, .map (.mk 88 100 2 (.s ei 2)) 0 (.v 4) none), (2, .dead), (3, .row (.s1 (.mk true [(.int .i64), (.int .i64)])) 100 (.v 5))])) (.n (some (.mk 3 1 [(5, jo 3), (15, ji 6)] [(1, .map (.mk 88 100 2 (.s ei 2)) 0 (.v 4) none), (2, .dead), (3, .row (.s1 (.mk true [(.int .i64), (.int .i64)])) 100 (.v 5))])) (zn .e (zn .e (zn (zn (zn .e (zn .e (.n (some (.mk 4 1 [(5, jo 4), (20, ji 11), (21, jb 12)] [(1, .map (.mk 88 100 2 (.s ei 2)) 0 (.v 9) none), (3, .dead), (4, .row (.s1 (.mk true [(.int .i64), (.int .i64)])) 100 (.v 10))])) (.n (some (.mk 3 1 [(5, jo 4), (20, ji 11)] [(1, .map (.mk 88 100 2 (.s ei 2)) 0 (.v 9) none), (3, .dead), (4, .row (.s1 (.mk true [(.int .i64), (.int .i64)])) 100 (.v 10))])) (zn .e (zn .e (zn (zn (zn .e (zn .e (zn (zn .e (.n (some (.mk 1 1 [(5, jo 6)] [(4, .dead), (6, .row (.s1 (.mk true [(.int .i64), (.int .i64)])) 100 (.v 23))])) .e .e)) .e))) .e) .e))) .e) .e))) .e) .e))) .e) .e)) .e)))) noX Try.func59 (by kernel_rfl) (by kernel_rfl) (run401 rfl rfl) (.cons s70 (.cons s97 .nil))
theorem s60 : SoundCall Try.prog 60 ⟨[p1 ⟨true, [i8, i8]⟩], [r2 ei 2 43]⟩ (G 554) := sound (l := []) (h := (zn .e (zn .e (zn (zn .e (.n (some (.mk 3 1 [(3, jo 1), (9, ji 4), (10, jb 5)] [(0, .dead), (1, .rows ei 2 43 0 (.v 3))])) (.n (some (.mk 2 1 [(3, jo 1), (9, ji 4)] [(0, .dead), (1, .rows ei 2 43 0 (.v 3))])) .e .e) .e)) .e)))) noX Try.func60 (by kernel_rfl) (by kernel_rfl) run554 .nil
theorem s17 : SoundCall Try.prog 17 ⟨[.val true [.rd (.s1 eV), .rd (.s2 ei)]], [r2 ei 2 43, rv .bool]⟩ (G 553) := sound (l := [(58, 150, q2), (59, 401, q0), (60, 554, ⟨[p1 ⟨true, [i8, i8]⟩], [r2 ei 2 43]⟩)]) (h := .e) noX Try.func17 (by kernel_rfl) (by kernel_rfl) (run553 rfl rfl rfl) (.cons s58 (.cons s59 (.cons s60 .nil)))
theorem s25 : SoundCall Try.prog 25 q2 (G 403) := sound (l := [(58, 150, q2), (70, 400, q9)]) (h := (zn .e (zn .e (zn .e (zn (zn .e (.n (some (.mk 4 0 [(18, ji 7), (19, jb 8)] [(1, .map (.mk 102 100 2 (.b .bool)) 0 (.v 5) none), (2, .map (.mk 103 100 2 (.b (.int .i64))) 0 (.v 6) none)])) (.n (some (.mk 3 0 [(18, ji 7)] [(1, .map (.mk 102 100 2 (.b .bool)) 0 (.v 5) none), (2, .map (.mk 103 100 2 (.b (.int .i64))) 0 (.v 6) none)])) (zn .e (zn .e (zn (zn (zn .e (zn .e (.n (some (.mk 4 0 [(22, ji 12), (23, jb 13)] [(1, .map (.mk 102 100 2 (.b .bool)) 0 (.v 10) none), (2, .map (.mk 103 100 2 (.b (.int .i64))) 0 (.v 11) none)])) (.n (some (.mk 3 0 [(22, ji 12)] [(1, .map (.mk 102 100 2 (.b .bool)) 0 (.v 10) none), (2, .map (.mk 103 100 2 (.b (.int .i64))) 0 (.v 11) none)])) .e .e) .e))) .e) .e))) .e) .e)) .e))))) noX Try.func25 (by kernel_rfl) (by kernel_rfl) (run403 rfl rfl) (.cons s58 (.cons s70 .nil))
theorem s64 : SoundCall Try.prog 64 q14 (G 409) := sound (l := [(58, 150, q2), (85, 19, q26)]) (h := .e) noX Try.func64 (by kernel_rfl) (by kernel_rfl) (run409 rfl rfl) (.cons s58 (.cons s85 .nil))
theorem s62 : SoundCall Try.prog 62 q4 (G 410) := sound (l := [(25, 403, q2), (64, 409, q14)]) (h := .e) noX Try.func62 (by kernel_rfl) (by kernel_rfl) (run410 rfl rfl) (.cons s25 (.cons s64 .nil))
theorem s99 : SoundCall Try.prog 99 ⟨[p1 ei, pv i8, pv i8], [rv .bool]⟩ (G 407) := sound (l := []) (h := (zn .e (zn (zn .e (.n (some (.mk 2 0 [(8, ji 3), (9, jb 4)] [])) (.n (some (.mk 1 0 [(8, ji 3)] [])) .e .e) .e)) .e))) noX Try.func99 (by kernel_rfl) (by kernel_rfl) run407 .nil
theorem s100 : SoundCall Try.prog 100 ⟨[p1 ei, .val true [.rd (.b i8), .rd (.b i8)]], [rv i8]⟩ (G 408) := sound (l := []) (h := .e) noX Try.func100 (by kernel_rfl) (by kernel_rfl) run408 .nil
theorem s61 : SoundCall Try.prog 61 q3 (G 406) := sound (l := [(59, 401, q0), (70, 400, q9), (99, 407, ⟨[p1 ei, pv i8, pv i8], [rv .bool]⟩), (100, 408, ⟨[p1 ei, .val true [.rd (.b i8), .rd (.b i8)]], [rv i8]⟩)]) (h := (zn .e (zn .e (zn .e (zn .e (zn .e (zn .e (zn (zn .e (.n (some (.mk 2 0 [(15, ji 19), (16, ji 20)] [])) .e .e)) .e)))))))) noX Try.func61 (by kernel_rfl) (by kernel_rfl) (run406 rfl rfl rfl rfl) (.cons s59 (.cons s70 (.cons s99 (.cons s100 .nil))))
theorem s20 : SoundCall Try.prog 20 q4 (G 419) := sound (l := [(62, 410, q4), (61, 406, q3)]) (h := .e) noX Try.func20 (by kernel_rfl) (by kernel_rfl) (run419 rfl rfl) (.cons s62 (.cons s61 .nil))
theorem s43 : SoundCall Try.prog 43 ⟨[.val true [.rd (.s1 eV), .rd (.s2 ei)]], [(true, [.own (.row (.s1 eV) 66), .own (.rows ei 2 43)])]⟩ (G 151) := sound (l := []) (h := (zn .e (zn .e (zn (zn .e (.n (some (.mk 3 1 [(14, ji 6), (15, jb 7)] [(4, .var [(.s (.own 3)), (.s (.own 5))]), (5, .rows ei 2 43 0 (.v 5))])) (.n (some (.mk 2 1 [(14, ji 6)] [(4, .var [(.s (.own 3)), (.s (.own 5))]), (5, .rows ei 2 43 0 (.v 5))])) .e .e) .e)) .e)))) noX Try.func43 (by kernel_rfl) (by kernel_rfl) run151 .nil
theorem s18 : SoundCall Try.prog 18 ⟨[.val true [.rd (.s1 eV), .rd (.s2 ei)], pv i8, pv i8], [(true, [.own (.row (.s1 eV) 66), .own (.rows ei 2 43)]), rv .bool]⟩ (G 421) := sound (l := [(20, 419, q4), (61, 406, q3), (43, 151, ⟨[.val true [.rd (.s1 eV), .rd (.s2 ei)]], [(true, [.own (.row (.s1 eV) 66), .own (.rows ei 2 43)])]⟩)]) (h := .e) noX Try.func18 (by kernel_rfl) (by kernel_rfl) (run421 rfl rfl rfl rfl rfl) (.cons s20 (.cons s61 (.cons s43 .nil)))
theorem s102 : SoundCall Try.prog 102 q1 (G 13) := sound (l := []) (h := .e) noX Try.func102 (by kernel_rfl) (by kernel_rfl) run13 .nil
theorem s104 : SoundCall Try.prog 104 q5 (G 14) := sound (l := []) (h := .e) noX Try.func104 (by kernel_rfl) (by kernel_rfl) run14 .nil
theorem s121 : SoundCall Try.prog 121 q35 (G 11) := sound (l := [(125, 9, q34)]) (h := .e) noX Try.func121 (by kernel_rfl) (by kernel_rfl) (run11 rfl) (.cons s125 .nil)
theorem s101 : SoundCall Try.prog 101 q13 (G 15) := sound (l := [(104, 14, q5), (121, 11, q35)]) (h := .e) noX Try.func101 (by kernel_rfl) (by kernel_rfl) (run15 rfl rfl) (.cons s104 (.cons s121 .nil))
theorem s63 : SoundCall Try.prog 63 q6 (G 417) := sound (l := [(61, 406, q3), (102, 13, q1), (101, 15, q13)]) (h := .e) noX Try.func63 (by kernel_rfl) (by kernel_rfl) (run417 rfl rfl rfl rfl rfl) (.cons s61 (.cons s102 (.cons s101 .nil)))
theorem s19 : SoundCall Try.prog 19 q6 (G 418) := sound (l := [(62, 410, q4), (63, 417, q6)]) (h := .e) noX Try.func19 (by kernel_rfl) (by kernel_rfl) (run418 rfl rfl) (.cons s62 (.cons s63 .nil))
theorem s122 : SoundCall Try.prog 122 ⟨[p1 ei, pv i8], [rv i8]⟩ (G 442) := sound (l := []) (h := (zn .e (zn (zn .e (.n (some (.mk 2 0 [(8, ji 3), (9, jb 4)] [])) (.n (some (.mk 1 0 [(8, ji 3)] [])) .e .e) .e)) .e))) noX Try.func122 (by kernel_rfl) (by kernel_rfl) run442 .nil
theorem s103 : SoundCall Try.prog 103 ⟨[p1 ei, pv i8], [rv .bool]⟩ (G 441) := sound (l := [(122, 442, ⟨[p1 ei, pv i8], [rv i8]⟩)]) (h := .e) noX Try.func103 (by kernel_rfl) (by kernel_rfl) (run441 rfl) (.cons s122 .nil)
theorem s65 : SoundCall Try.prog 65 ⟨[.val true [.rd (.s1 eV), .rd (.s2 ei)], p1 ei], [r1 ei 2]⟩ (G 411) := sound (l := [(103, 441, ⟨[p1 ei, pv i8], [rv .bool]⟩)]) (h := (zn .e (zn .e (zn (zn .e (.n (some (.mk 3 1 [(5, jo 2), (15, ji 6), (16, jb 7)] [(1, .dead), (2, .row (.s1 ei) 2 (.v 5))])) (.n (some (.mk 2 1 [(5, jo 2), (15, ji 6)] [(1, .dead), (2, .row (.s1 ei) 2 (.v 5))])) (zn .e (zn .e (zn (zn (zn .e (zn .e (zn (zn .e (.n (some (.mk 3 0 [(8, jb 10), (22, ji 11), (23, jb 12)] [])) (.n (some (.mk 2 0 [(8, jb 10), (22, ji 11)] [])) .e .e) .e)) (zn .e (.n (some (.mk 1 1 [(5, jo 3)] [(2, .dead), (3, .row (.s1 ei) 2 (.v 13))])) .e .e))))) .e) .e))) .e) .e)) .e)))) noX Try.func65 (by kernel_rfl) (by kernel_rfl) (run411 rfl) (.cons s103 .nil)
theorem s21 : SoundCall Try.prog 21 ⟨[.val true [.rd (.s1 eV), .rd (.s2 ei)], pv i8, pv i8], [r1 ei 2, rv .bool]⟩ (G 555) := sound (l := [(64, 409, q14), (65, 411, ⟨[.val true [.rd (.s1 eV), .rd (.s2 ei)], p1 ei], [r1 ei 2]⟩)]) (h := .e) noX Try.func21 (by kernel_rfl) (by kernel_rfl) (run555 rfl rfl) (.cons s64 (.cons s65 .nil))
theorem s22 : SoundCall Try.prog 22 ⟨[p1 ei, pv i8, pv i8], [rv i8]⟩ (G 556) := sound (l := []) (h := (zn .e (zn (zn .e (.n (some (.mk 4 0 [(7, ji 3), (8, ji 4), (9, .c (.s (.dat (.s1 ei) (.v 0)))), (10, ji 5), (11, jb 6)] [])) (.n (some (.mk 1 0 [(7, ji 3)] [])) .e .e) .e)) .e))) noX Try.func22 (by kernel_rfl) (by kernel_rfl) run556 .nil
theorem s66 : SoundCall Try.prog 66 ⟨[.val true [.rd (.s1 eV), .rd (.s2 ei)]], [r1 eb 4]⟩ (G 169) := sound (l := []) (h := (zn .e (zn .e (zn (zn .e (.n (some (.mk 3 0 [(15, ji 6), (16, jb 7)] [(1, .row (.s1 (.mk false [.bool])) 4 (.v 5))])) (.n (some (.mk 2 0 [(15, ji 6)] [(1, .row (.s1 (.mk false [.bool])) 4 (.v 5))])) (zn .e (zn .e (zn (zn (zn .e (zn .e (.n (some (.mk 3 0 [(21, ji 11), (22, jb 12)] [(1, .row (.s1 (.mk false [.bool])) 4 (.v 10))])) (.n (some (.mk 2 0 [(21, ji 11)] [(1, .row (.s1 (.mk false [.bool])) 4 (.v 10))])) .e .e) .e))) .e) .e))) .e) .e)) .e)))) noX Try.func66 (by kernel_rfl) (by kernel_rfl) run169 .nil
theorem s23 : SoundCall Try.prog 23 ⟨[.val true [.rd (.s1 eV), .rd (.s2 ei)]], [rv i8, rv .bool]⟩ (G 445) := sound (l := [(58, 150, q2), (66, 169, ⟨[.val true [.rd (.s1 eV), .rd (.s2 ei)]], [r1 eb 4]⟩), (59, 401, q0)]) (h := (zn .e (zn .e (zn .e (zn (zn .e (.n (some (.mk 3 0 [(4, ji 7), (18, ji 8), (19, jb 9)] [])) (.n (some (.mk 2 0 [(4, ji 7), (18, ji 8)] [])) (zn .e (zn .e (zn (zn (zn .e (zn .e (.n (some (.mk 1 0 [(4, ji 12)] [])) .e .e))) .e) .e))) .e) .e)) .e))))) noX Try.func23 (by kernel_rfl) (by kernel_rfl) (run445 rfl rfl rfl) (.cons s58 (.cons s66 (.cons s59 .nil)))
theorem s68 : SoundCall Try.prog 68 ⟨[.val true [.rd (.b i8), .rd (.b i8)], .ptr [.rd (.s1 eV), .rd (.s2 ei)]], [rv f1, rv .bool]⟩ (G 427) := sound (l := [(63, 417, q6)]) (h := .e) noX Try.func68 (by kernel_rfl) (by kernel_rfl) (run427 rfl) (.cons s63 .nil)
theorem s69 : SoundCall Try.prog 69 ⟨[pv f1, pv f1], [rv .bool]⟩ (G 428) := sound (l := []) (h := .e) noX Try.func69 (by kernel_rfl) (by kernel_rfl) run428 .nil
theorem s67 : SoundCall Try.prog 67 ⟨[.val true [.rd (.s1 eV), .rd (.s2 ei)], .fn 68 [[.rd (.s1 eV), .rd (.s2 ei)]], .fn 69 []], [r1 ei 2, rv f1, rv .bool]⟩ (G 432) := sound (l := [(68, 427, ⟨[.val true [.rd (.b i8), .rd (.b i8)], .ptr [.rd (.s1 eV), .rd (.s2 ei)]], [rv f1, rv .bool]⟩), (69, 428, ⟨[pv f1, pv f1], [rv .bool]⟩), (59, 401, q0)]) (h := (zn .e (zn .e (zn .e (zn (zn .e (.n (some (.mk 6 0 [(10, jf 9), (11, jb 10), (26, ji 11), (27, jb 12)] [(1, .var [(.s (.dat (.b (.int .i64)) (.v 7))), (.s (.dat (.b (.int .i64)) (.v 8)))])])) (.n (some (.mk 5 0 [(10, jf 9), (11, jb 10), (26, ji 11)] [(1, .var [(.s (.dat (.b (.int .i64)) (.v 7))), (.s (.dat (.b (.int .i64)) (.v 8)))])])) (zn .e (zn .e (zn (zn (zn .e (zn .e (zn .e (.n (some (.mk 4 0 [(10, jf 33), (11, jb 34), (38, ju), (39, ju), (40, ju), (43, ju), (44, ju), (45, ju), (46, ju), (47, ju), (48, ju), (49, ju), (50, ju)] [(1, .var [(.s (.dat (.b (.int .i64)) (.v 31))), (.s (.dat (.b (.int .i64)) (.v 32)))])])) .e .e)))) .e) .e))) .e) .e)) .e))))) noX Try.func67 (by kernel_rfl) (by kernel_rfl) (run432 rfl rfl rfl) (.cons s68 (.cons s69 (.cons s59 .nil)))
theorem s24 : SoundCall Try.prog 24 ⟨[.val true [.rd (.s1 eV), .rd (.s2 ei)]], [r1 ei 2, rv f1, rv .bool]⟩ (G 436) := sound (l := [(25, 403, q2), (67, 432, ⟨[.val true [.rd (.s1 eV), .rd (.s2 ei)], .fn 68 [[.rd (.s1 eV), .rd (.s2 ei)]], .fn 69 []], [r1 ei 2, rv f1, rv .bool]⟩)]) (h := .e) noX Try.func24 (by kernel_rfl) (by kernel_rfl) (run436 rfl rfl) (.cons s25 (.cons s67 .nil))
theorem s71 : SoundCall Try.prog 71 ⟨[p1 ei, p1 ei], [rv .bool]⟩ (G 558) := sound (l := []) (h := (zn .e (zn .e (zn (zn .e (.n (some (.mk 4 0 [(5, ji 5), (11, ji 6), (12, .c (.s (.dat (.s1 ei) (.v 0)))), (13, ji 7), (14, jb 8)] [])) (.n (some (.mk 1 0 [(5, ji 5)] [])) .e .e) .e)) .e)))) noX Try.func71 (by kernel_rfl) (by kernel_rfl) run558 .nil
theorem s26 : SoundCall Try.prog 26 ⟨[p2 ei, p2 ei], [rv .bool]⟩ (G 557) := sound (l := [(71, 558, ⟨[p1 ei, p1 ei], [rv .bool]⟩)]) (h := (zn .e (zn .e (zn (zn .e (.n (some (.mk 4 0 [(5, ji 5), (11, ji 6), (12, .c (.s (.dat (.s2 ei) (.v 0)))), (13, ji 7), (14, jb 8)] [])) (.n (some (.mk 1 0 [(5, ji 5)] [])) .e .e) .e)) .e)))) noX Try.func26 (by kernel_rfl) (by kernel_rfl) (run557 rfl) (.cons s71 .nil)
theorem s4 : SoundCall Try.prog 4 ⟨[p1 ⟨false, [.int .u8]⟩, p1 ⟨false, [.int .u8]⟩], [rv .bool]⟩ (G 561) := sound (l := [(13, 220, ⟨[p1 ⟨false, [.int .u8]⟩, p1 ⟨false, [.int .u8]⟩], [rv .bool]⟩), (16, 221, ⟨[p1 ⟨false, [.int .u8]⟩, pv i8, pv i8], [rv i8]⟩), (15, 544, ⟨[pv i8], [(true, [.own (.row (.s1 eV) 66), .own (.rows ei 2 43)])]⟩), (14, 543, ⟨[.val false [.rd (.s1 ⟨false, [.int .u8]⟩)], .val true [.rd (.s1 eV), .rd (.s2 ei)]], [(true, [.own (.row (.s1 eV) 66), .own (.rows ei 2 43)])]⟩), (17, 553, ⟨[.val true [.rd (.s1 eV), .rd (.s2 ei)]], [r2 ei 2 43, rv .bool]⟩), (18, 421, ⟨[.val true [.rd (.s1 eV), .rd (.s2 ei)], pv i8, pv i8], [(true, [.own (.row (.s1 eV) 66), .own (.rows ei 2 43)]), rv .bool]⟩), (19, 418, q6), (20, 419, q4), (21, 555, ⟨[.val true [.rd (.s1 eV), .rd (.s2 ei)], pv i8, pv i8], [r1 ei 2, rv .bool]⟩), (22, 556, ⟨[p1 ei, pv i8, pv i8], [rv i8]⟩), (23, 445, ⟨[.val true [.rd (.s1 eV), .rd (.s2 ei)]], [rv i8, rv .bool]⟩), (24, 436, ⟨[.val true [.rd (.s1 eV), .rd (.s2 ei)]], [r1 ei 2, rv f1, rv .bool]⟩), (25, 403, q2), (26, 557, ⟨[p2 ei, p2 ei], [rv .bool]⟩)]) (h := .e) noX Try.func4 (by kernel_rfl) (by kernel_rfl) (run561 rfl rfl rfl rfl rfl rfl rfl rfl rfl rfl rfl rfl rfl rfl) (.cons s13 (.cons s16 (.cons s15 (.cons s14 (.cons s17 (.cons s18 (.cons s19 (.cons s20 (.cons s21 (.cons s22 (.cons s23 (.cons s24 (.cons s25 (.cons s26 .nil))))))))))))))
theorem own : ownKnob Try.prog.godebug = none := by kernel_rfl
theorem laidOut : laidOutB Try.prog = true := by kernel_rfl
theorem mapsRow : mapsRowed Try.prog = true := by kernel_rfl
theorem slicesFull : ((List.range Try.prog.types.size).all fun t => match Try.prog.underlying t with | some (.slice e) => decide (0 < Try.prog.cellsOf e) | _ => true) = true := by kernel_rfl
set_option maxRecDepth 100000 in
theorem flips_lifted (os : Os) (started : os.Started) (H : Type) (enc : TypeId × Value → H) :
  ReturnsInHanded {} Try.checked os 4 .any (Rows.fnFlipsSpec.pre6 enc Try.prog Try.f4 Rows.fnFlipsRow.domain false) (Rows.fnFlipsSpec.post enc Try.prog Try.f4 false true false false) := by
 refine returnsInHanded_of_change (C := Try.checked) own started (by kernel_rfl) Try.func4
  (ChangeSpec.witness6 (enc := enc) (C := Try.checked) false ⟨#[], #[.slice none 0 0, .slice none 0 0], []⟩ 8 (by kernel_rfl) (by kernel_rfl) (by kernel_rfl) (by kernel_rfl)) ?_
 intro W base args ds gs before hval0 hW hcnd _
 have hval : ∀ (j : Nat) t v, Try.f4.params.toList[j]? = some t → args.toList[j]? = some v → Value.okWide Try.prog W .any base t v := fun j t v h1 h2 => hval0 j t v (by simpa using h1) (by simpa using h2)
 obtain ⟨p, q, hA, hV, _⟩ := id hW
 obtain ⟨x0, x1, hX, hb0, hb1, hl0⟩ := args_bytes2 (by kernel_rfl) (by kernel_rfl) (by kernel_rfl) (by kernel_rfl) hA hval
 rw [← Fm_nil] at hX
 obtain ⟨d0, es0, rfl, hl1⟩ := len_cons hl0
 obtain ⟨d1, es1, rfl, hl2⟩ := len_cons hl1
 obtain rfl := len_nil hl2
 exact law_of_sound (bT := true) (tb := 4) laidOut mapsRow slicesFull (by kernel_rfl) (by kernel_rfl) (by kernel_rfl) rfl ⟨rfl, rfl, rfl⟩ s4 rfl hW ⟨_, hX, by show F561 [il x0, il x1] = _; simp only [F561, dI_il, Option.bind_some]; exact if_pos ⟨hb0, hb1⟩⟩
theorem flips_holds : Rows.FnFlipsSaid :=
 OpenClaim.holds_of_wide 4 Try.f4 rfl rfl rfl rfl rfl rfl rfl ⟨rfl, rfl, rfl, rfl, rfl⟩ rfl rfl rfl rfl rfl (by kernel_rfl) Try.func4 (by kernel_rfl)
  (of_decide_eq_true (by kernel_rfl)) (by unfold Func.isWrapper; first | (rw [if_pos (by decide +kernel)]; kernel_rfl) | (rw [if_neg (by decide +kernel)]; exact ⟨rfl, rfl⟩))
  (fun os started H enc _ => flips_lifted os started H enc)
end Go.Proofs.Ytaakjnkllodchaa
