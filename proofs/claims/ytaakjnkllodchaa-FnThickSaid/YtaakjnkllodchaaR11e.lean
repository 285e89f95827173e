/-
  Proved: no triangle is thicker than 1, nearly, thickness does not depend on the size, thin triangles are those that are told, and dropped places leave the form (the law answers true for all inputs). Conditions: none.
-/
import Derived.Test.YtaakjnkllodchaaRows
import Derived.Test.YtaakjnkllodchaaK60
import Derived.Test.YtaakjnkllodchaaNx4
namespace Go.Proofs.Ytaakjnkllodchaa
open Vs Go Go.Shelf Go.RowKit Go.ChangeShapes Go.WideShapes Go.ChangeAt
noncomputable def G : Vs.Told
 | 1 => F1
 | 9 => F9
 | 10 => F10
 | 11 => F11
 | 13 => F13
 | 14 => F14
 | 15 => F15
 | 19 => F19
 | 30 => F30
 | 31 => F31
 | 143 => F143
 | 150 => F150
 | 151 => F151
 | 156 => F156
 | 158 => F158
 | 160 => F160
 | 162 => F162
 | 163 => F163
 | 165 => F165
 | 169 => F169
 | 170 => F170
 | 210 => F210m
 | 220 => F220
 | 221 => F221
 | 331 => F331
 | 413 => F413
 | 440 => F440
 | 453 => F453
 | 474 => F474
 | 475 => F475
 | 480 => F480
 | 481 => F481
 | 482 => F482
 | 483 => F483
 | 484 => F484
 | 531 => F531
 | 540 => F540
 | 541 => F541
 | 542 => F542
 | 543 => F543
 | 544 => F544
 | 545 => F545
 | 546 => F546
 | 549 => F549
 | 550 => F550
 | 551 => F551
 | 552 => F552
 | 563 => F563
 | 564 => F564
 | 565 => F565
 | 566 => F566
 | 567 => F567
 | 570 => F570
 | 571 => F571
 | 572 => F572
 | 573 => F573
 | 574 => F574
 | _ => fun _ => none
def ji (k : Nat) : SV := .c (.s (.dat (.b (.int .i64)) (.v k)))
def jf (k : Nat) : SV := .c (.s (.dat (.b (.flt .f32)) (.v k)))
def jb (k : Nat) : SV := .c (.s (.dat (.b .bool) (.v k)))
def jo (k : Nat) : SV := .c (.s (.own k))
def jm (k : Nat) : SV := .c (.s (.fcel [.d (.s1 eV) (.v 0), .d (.s2 ei) (.v 1)] k))
def ju : SV := .c (.s .undef)
def zn (l r : H) : H := .n none l r
def q0 : Sig := ⟨[.val true [.rd (.b f1), .rd (.b f1), .rd (.b f1)], .val true [.rd (.b f1), .rd (.b f1), .rd (.b f1)]], [(true, [.cell f1, .cell f1, .cell f1])]⟩
def q1 : Sig := ⟨[.val true [.rd (.b f1), .rd (.b f1), .rd (.b f1)], .val true [.rd (.b f1), .rd (.b f1), .rd (.b f1)]], [rv f1]⟩
def q2 : Sig := ⟨[.val true [.rd (.s1 eV), .rd (.s2 ei)]], [rv .bool]⟩
def q3 : Sig := ⟨[.val true [.rd (.b f1), .rd (.b f1), .rd (.b f1)], pv f1], [(true, [.cell f1, .cell f1, .cell f1])]⟩
def q4 : Sig := ⟨[.val true [.rd (.s1 eV), .rd (.s2 ei)]], [(true, [.own (.row (.s1 eV) 66), .own (.rows ei 2 43)])]⟩
def q5 : Sig := ⟨[.ptr [.rd (.s1 eV), .rd (.s2 ei)]], [(true, [.own (.row (.s1 eV) 66), .own (.rows ei 2 43)])]⟩
def q6 : Sig := ⟨[.val true [.rd (.s1 eV), .rd (.s2 ei)], .val true [.rd (.s1 eV), .rd (.s2 ei)]], [rv .bool]⟩
def q10 : Sig := ⟨[.val true [.rd (.b f1), .rd (.b f1), .rd (.b f1)]], [rv f1]⟩
def q11 : Sig := ⟨[.val true [.rd (.s1 eV), .rd (.s2 ei)], pv i8], [rv .bool]⟩
def q14 : Sig := ⟨[.val true [.rd (.s1 eV), .rd (.s2 ei)], p1 ei], [rv f1]⟩
def q19 : Sig := ⟨[pv i8, pv i8], [rv i8]⟩
def q26 : Sig := ⟨[pv i8, pv i8, pv i8], [rv .bool]⟩
def q31 : Sig := ⟨[pv f1, pv f1], [rv .bool]⟩
def q32 : Sig := ⟨[p1 ei, p1 ei], [rv .bool]⟩
def q33 : Sig := ⟨[p2 ei, p2 ei], [rv .bool]⟩
def q34 : Sig := ⟨[pv f8], [rv f8]⟩
def q35 : Sig := ⟨[pv f1], [rv f1]⟩
theorem noX : ∀ x ∈ ([] : List (FuncId × Ext)), ∀ args w, (callFunc x.1 args).run Try.prog w = ((extFn x.2 args).run Try.prog w).andThen fun v w' => .ok (.value v) w' := by intro x hx; cases hx
theorem f64bitsX : ∀ x ∈ ([(106, .f64bits)] : List (FuncId × Ext)), ∀ args w, (callFunc x.1 args).run Try.prog w = ((extFn x.2 args).run Try.prog w).andThen fun v w' => .ok (.value v) w' := by
 intro x hx
 simp only [List.mem_cons, List.not_mem_nil, or_false] at hx
 subst hx
 exact fun args w => run_callFunc_extern Try.func106 (by kernel_rfl) (by kernel_rfl) (by kernel_rfl) (by kernel_rfl) args w
theorem f64frombitsX : ∀ x ∈ ([(137, .f64frombits)] : List (FuncId × Ext)), ∀ args w, (callFunc x.1 args).run Try.prog w = ((extFn x.2 args).run Try.prog w).andThen fun v w' => .ok (.value v) w' := by
 intro x hx
 simp only [List.mem_cons, List.not_mem_nil, or_false] at hx
 subst hx
 exact fun args w => run_callFunc_extern Try.func137 (by kernel_rfl) (by kernel_rfl) (by kernel_rfl) (by kernel_rfl) args w
theorem sqrtX : ∀ x ∈ ([(138, .sqrt)] : List (FuncId × Ext)), ∀ args w, (callFunc x.1 args).run Try.prog w = ((extFn x.2 args).run Try.prog w).andThen fun v w' => .ok (.value v) w' := by
 intro x hx
 simp only [List.mem_cons, List.not_mem_nil, or_false] at hx
 subst hx
 exact fun args w => run_callFunc_extern Try.func138 (by kernel_rfl) (by kernel_rfl) (by kernel_rfl) (by kernel_rfl) args w
theorem s13 : SoundCall Try.prog 13 ⟨[p1 ⟨false, [.int .u8]⟩, p1 ⟨false, [.int .u8]⟩], [rv .bool]⟩ (G 220) := sound (l := []) (h := .e) noX Try.func13 (by kernel_rfl) (by kernel_rfl) run220 .nil
theorem s16 : SoundCall Try.prog 16 ⟨[p1 ⟨false, [.int .u8]⟩, pv i8, pv i8], [rv i8]⟩ (G 221) := sound (l := []) (h := .e) noX Try.func16 (by kernel_rfl) (by kernel_rfl) run221 .nil
theorem s54 : SoundCall Try.prog 54 ⟨[pv i8, pv i8, pv f1], [(true, [.own (.row (.s1 eV) 66), .own (.rows ei 2 43)])]⟩ (G 545) := sound (l := []) (h := (zn .e (zn .e (zn (zn .e (.n (some (.mk 4 1 [(8, ji 6), (17, ji 7), (18, ji 1), (19, jb 8)] [(1, .dead), (3, .var [(.s (.own 4)), (.s (.own 2))]), (4, .row (.s1 eV) 66 (.v 5))])) (.n (some (.mk 2 1 [(8, ji 6)] [(3, .var [(.s (.own 4)), (.s (.own 2))]), (1, .dead), (4, .row (.s1 eV) 66 (.v 5))])) (zn .e (zn (zn (zn .e (.n (some (.mk 4 1 [(9, ji 9), (22, ji 10), (23, ji 0), (24, jb 11)] [(3, .var [(.s (.own 5)), (.s (.own 2))]), (4, .dead), (5, .row (.s1 eV) 66 (.v 8))])) (.n (some (.mk 2 1 [(9, ji 9)] [(3, .var [(.s (.own 5)), (.s (.own 2))]), (4, .dead), (5, .row (.s1 eV) 66 (.v 8))])) .e .e) .e)) .e) .e)) .e) .e)) (zn (zn .e (.n (some (.mk 4 1 [(10, ji 10), (41, ji 11), (42, ji 1), (43, jb 12)] [(2, .dead), (3, .var [(.s (.own 4)), (.s (.own 5))]), (5, .rows ei 2 43 0 (.v 9))])) (.n (some (.mk 2 1 [(10, ji 10)] [(3, .var [(.s (.own 4)), (.s (.own 5))]), (2, .dead), (5, .rows ei 2 43 0 (.v 9))])) (zn .e (zn (zn (zn .e (.n (some (.mk 4 1 [(11, ji 13), (46, ji 14), (47, ji 0), (48, jb 15)] [(3, .var [(.s (.own 4)), (.s (.own 6))]), (5, .dead), (6, .rows ei 2 43 0 (.v 12))])) (.n (some (.mk 2 1 [(11, ji 13)] [(3, .var [(.s (.own 4)), (.s (.own 6))]), (5, .dead), (6, .rows ei 2 43 0 (.v 12))])) .e .e) .e)) .e) .e)) .e) .e)) .e))))) noX Try.func54 (by kernel_rfl) (by kernel_rfl) run545 .nil
theorem s124 : SoundCall Try.prog 124 ⟨[], [rv f8]⟩ (G 331) := sound (X := [(137, .f64frombits)]) (l := []) (h := .e) f64frombitsX Try.func124 (by kernel_rfl) (by kernel_rfl) run331 .nil
theorem s112 : SoundCall Try.prog 112 q34 (G 475) := sound (l := [(124, 331, ⟨[], [rv f8]⟩)]) (h := (zn .e (zn .e (zn .e (zn .e (zn (zn .e (.n (some (.mk 1 0 [(3, .c (.s (.dat (.b (.flt .f64)) (.v 11)))), (17, ju), (18, ju)] [])) .e .e)) (zn .e (zn (zn .e (.n (some (.mk 1 0 [(3, .c (.s (.dat (.b (.flt .f64)) (.v 13))))] [])) .e .e)) (zn (zn .e (.n (some (.mk 1 0 [(3, .c (.s (.dat (.b (.flt .f64)) (.v 15))))] [])) .e .e)) (zn .e (zn .e (zn .e (zn (zn .e (.n (some (.mk 4 0 [(7, .c (.s (.dat (.b (.flt .f64)) (.v 18)))), (8, ji 19), (43, ji 20), (44, jb 21)] [])) (.n (some (.mk 2 0 [(7, .c (.s (.dat (.b (.flt .f64)) (.v 18)))), (8, ji 19)] [])) .e .e) .e)) .e))))))))))))) noX Try.func112 (by kernel_rfl) (by kernel_rfl) run475 (.cons s124 .nil)
theorem s111 : SoundCall Try.prog 111 ⟨[pv f8], [rv f1]⟩ (G 10) := sound (l := []) (h := .e) noX Try.func111 (by kernel_rfl) (by kernel_rfl) run10 .nil
theorem s91 : SoundCall Try.prog 91 q35 (G 474) := sound (l := [(112, 475, q34), (111, 10, ⟨[pv f8], [rv f1]⟩)]) (h := .e) noX Try.func91 (by kernel_rfl) (by kernel_rfl) (run474s rfl rfl) (.cons s112 (.cons s111 .nil))
theorem s55 : SoundCall Try.prog 55 ⟨[pv i8, pv i8, pv f1, pv f1], [(true, [.own (.row (.s1 eV) 66), .own (.rows ei 2 43)])]⟩ (G 546) := sound (l := [(91, 474, q35)]) (h := (zn .e (zn .e (zn (zn .e (.n (some (.mk 4 1 [(10, ji 7), (21, ji 8), (22, ji 1), (23, jb 9)] [(1, .dead), (3, .var [(.s (.own 4)), (.s (.own 2))]), (4, .row (.s1 eV) 66 (.v 6))])) (.n (some (.mk 2 1 [(10, ji 7)] [(3, .var [(.s (.own 4)), (.s (.own 2))]), (1, .dead), (4, .row (.s1 eV) 66 (.v 6))])) (zn .e (zn (zn (zn .e (.n (some (.mk 4 1 [(11, ji 10), (26, ji 11), (27, ji 0), (28, jb 12)] [(3, .var [(.s (.own 5)), (.s (.own 2))]), (4, .dead), (5, .row (.s1 eV) 66 (.v 9))])) (.n (some (.mk 2 1 [(11, ji 10)] [(3, .var [(.s (.own 5)), (.s (.own 2))]), (4, .dead), (5, .row (.s1 eV) 66 (.v 9))])) .e .e) .e)) .e) .e)) .e) .e)) (zn (zn .e (.n (some (.mk 4 1 [(14, ji 11), (57, ji 12), (58, ji 1), (59, jb 13)] [(2, .dead), (3, .var [(.s (.own 4)), (.s (.own 5))]), (5, .rows ei 2 43 0 (.v 10))])) (.n (some (.mk 2 1 [(14, ji 11)] [(3, .var [(.s (.own 4)), (.s (.own 5))]), (2, .dead), (5, .rows ei 2 43 0 (.v 10))])) (zn .e (zn (zn (zn .e (.n (some (.mk 4 1 [(15, ji 14), (62, ji 15), (63, ji 0), (64, jb 16)] [(3, .var [(.s (.own 4)), (.s (.own 6))]), (5, .dead), (6, .rows ei 2 43 0 (.v 13))])) (.n (some (.mk 2 1 [(15, ji 14)] [(3, .var [(.s (.own 4)), (.s (.own 6))]), (5, .dead), (6, .rows ei 2 43 0 (.v 13))])) .e .e) .e)) .e) .e)) .e) .e)) .e))))) noX Try.func55 (by kernel_rfl) (by kernel_rfl) (run546 rfl) (.cons s91 .nil)
theorem s113 : SoundCall Try.prog 113 ⟨[pv f1], [rv .bool]⟩ (G 1) := sound (l := []) (h := .e) noX Try.func113 (by kernel_rfl) (by kernel_rfl) run1 .nil
theorem s92 : SoundCall Try.prog 92 ⟨[pv f1], [rv .bool]⟩ (G 550) := sound (l := [(113, 1, ⟨[pv f1], [rv .bool]⟩)]) (h := .e) noX Try.func92 (by kernel_rfl) (by kernel_rfl) (run550 rfl) (.cons s113 .nil)
theorem s56 : SoundCall Try.prog 56 ⟨[pv f1], [(true, [.own (.row (.s1 eV) 66), .own (.rows ei 2 43)]), rv .bool]⟩ (G 549) := sound (l := [(92, 550, ⟨[pv f1], [rv .bool]⟩)]) (h := (zn .e (zn .e (zn .e (zn (zn .e (.n (some (.mk 4 1 [(5, ji 4), (12, ji 5), (13, jb 6)] [(1, .var [(.s (.own 2)), (.s .nils)]), (2, .row (.s1 eV) 66 (.v 3))])) (.n (some (.mk 2 1 [(5, ji 4)] [(1, .var [(.s (.own 2)), (.s .nils)]), (2, .row (.s1 eV) 66 (.v 3))])) (zn .e (zn (zn (zn .e (zn (zn .e (.n (some (.mk 1 0 [] [(3, .var [(.s (.dat (.b (.flt .f32)) (.v 8))), (.s (.dat (.b (.flt .f32)) (.c (.flt 0)))), (.s (.dat (.b (.flt .f32)) (.c (.flt 0))))])])) .e .e)) (zn (zn .e (.n (some (.mk 1 0 [] [(3, .var [(.s (.dat (.b (.flt .f32)) (.v 8))), (.s (.dat (.b (.flt .f32)) (.v 11))), (.s (.dat (.b (.flt .f32)) (.c (.flt 0))))])])) .e .e)) (zn (zn .e (.n (some (.mk 1 0 [] [(3, .var [(.s (.dat (.b (.flt .f32)) (.v 8))), (.s (.dat (.b (.flt .f32)) (.v 11))), (.s (.dat (.b (.flt .f32)) (.v 14)))])])) .e .e)) .e)))) .e) .e)) .e) .e)) .e))))) noX Try.func56 (by kernel_rfl) (by kernel_rfl) (run549 rfl) (.cons s92 .nil)
theorem s114 : SoundCall Try.prog 114 q19 (G 453) := sound (l := []) (h := .e) noX Try.func114 (by kernel_rfl) (by kernel_rfl) run453 .nil
theorem s115 : SoundCall Try.prog 115 q19 (G 210) := sound (l := []) (h := .e) noX Try.func115 (by kernel_rfl) (by kernel_rfl) run210m .nil
theorem s93 : SoundCall Try.prog 93 ⟨[.ptr [.rd (.s1 eV), .rd (.s2 ei)]], [r2 ei 2 43]⟩ (G 413) := sound (l := [(114, 453, q19), (115, 210, q19)]) (h := (zn .e (zn .e (zn .e (zn (zn .e (.n (some (.mk 5 0 [(5, ji 6), (22, ji 7), (23, jm 0), (24, jm 0), (25, jm 1), (26, .c (.s (.dat (.s2 ei) (.v 1)))), (27, ji 8), (28, jb 9)] [(0, .row (.s1 (.mk false [.bool])) 4 (.v 5))])) (.n (some (.mk 2 0 [(5, ji 6)] [(0, .row (.s1 (.mk false [.bool])) 4 (.v 5))])) (zn .e (zn (zn (zn .e (zn .e (.n (some (.mk 4 0 [(7, ji 11), (38, ji 12), (39, jb 13)] [(0, .row (.s1 (.mk false [.bool])) 4 (.v 10))])) (.n (some (.mk 2 0 [(7, ji 11)] [(0, .row (.s1 (.mk false [.bool])) 4 (.v 10))])) .e .e) .e))) .e) .e)) .e) .e)) (zn .e (zn (zn .e (.n (some (.mk 4 1 [(10, jo 2), (11, ji 12), (64, ji 13), (65, ji 2), (66, jb 14)] [(1, .dead), (2, .rows ei 2 43 0 (.v 11))])) (.n (some (.mk 2 1 [(10, jo 2), (11, ji 12)] [(1, .dead), (2, .rows ei 2 43 0 (.v 11))])) (zn .e (zn (zn (zn .e (.n (some (.mk 4 1 [(10, jo 3), (12, ji 16), (71, ji 17), (72, ji 2), (73, jb 18)] [(2, .dead), (3, .rows ei 2 43 0 (.v 15))])) (.n (some (.mk 2 1 [(10, jo 3), (12, ji 16)] [(2, .dead), (3, .rows ei 2 43 0 (.v 15))])) (zn .e (zn (zn (zn .e (.n (some (.mk 1 1 [(10, jo 4)] [(3, .dead), (4, .rows ei 2 43 0 (.v 22))])) .e .e)) .e) .e)) .e) .e)) .e) .e)) .e) .e)) .e))))))) noX Try.func93 (by kernel_rfl) (by kernel_rfl) (run413 rfl rfl) (.cons s114 (.cons s115 .nil))
theorem s82 : SoundCall Try.prog 82 ⟨[p1 ei], [r1 ei 2]⟩ (G 143) := sound (l := []) (h := .e) noX Try.func82 (by kernel_rfl) (by kernel_rfl) run143s .nil
theorem s39 : SoundCall Try.prog 39 q5 (G 151) := sound (l := [(82, 143, ⟨[p1 ei], [r1 ei 2]⟩)]) (h := (zn .e (zn .e (zn (zn .e (.n (some (.mk 5 1 [(4, ji 6), (13, ji 7), (14, jm 0), (15, jm 0), (16, jm 1), (17, .c (.s (.dat (.s2 ei) (.v 1)))), (18, ji 8), (19, jb 9)] [(3, .dead), (4, .var [(.s (.own 2)), (.s (.own 5))]), (5, .rows ei 2 43 0 (.v 5))])) (.n (some (.mk 2 1 [(4, ji 6)] [(4, .var [(.s (.own 2)), (.s (.own 5))]), (3, .dead), (5, .rows ei 2 43 0 (.v 5))])) .e .e) .e)) .e)))) noX Try.func39 (by kernel_rfl) (by kernel_rfl) (run151s rfl) (.cons s82 .nil)
theorem s53 : SoundCall Try.prog 53 q0 (G 30) := sound (l := []) (h := .e) noX Try.func53 (by kernel_rfl) (by kernel_rfl) run30 .nil
theorem s94 : SoundCall Try.prog 94 q3 (G 31) := sound (l := []) (h := .e) noX Try.func94 (by kernel_rfl) (by kernel_rfl) run31 .nil
theorem s117 : SoundCall Try.prog 117 q1 (G 14) := sound (l := []) (h := .e) noX Try.func117 (by kernel_rfl) (by kernel_rfl) run14 .nil
theorem s125 : SoundCall Try.prog 125 q34 (G 9) := sound (X := [(138, .sqrt)]) (l := []) (h := .e) sqrtX Try.func125 (by kernel_rfl) (by kernel_rfl) run9 .nil
theorem s116 : SoundCall Try.prog 116 q35 (G 11) := sound (l := [(125, 9, q34), (111, 10, ⟨[pv f8], [rv f1]⟩)]) (h := .e) noX Try.func116 (by kernel_rfl) (by kernel_rfl) (run11' rfl rfl) (.cons s125 (.cons s111 .nil))
theorem s95 : SoundCall Try.prog 95 q10 (G 15) := sound (l := [(117, 14, q1), (116, 11, q35)]) (h := .e) noX Try.func95 (by kernel_rfl) (by kernel_rfl) (run15 rfl rfl) (.cons s117 (.cons s116 .nil))
theorem s96 : SoundCall Try.prog 96 ⟨[p2 ei, pv i8, pv i8], [rv i8]⟩ (G 552) := sound (l := [(114, 453, q19), (115, 210, q19)]) (h := (zn .e (zn (zn .e (.n (some (.mk 4 0 [(7, ji 3), (8, ji 4), (9, .c (.s (.dat (.s2 ei) (.v 0)))), (10, ji 5), (11, jb 6)] [])) (.n (some (.mk 1 0 [(7, ji 3)] [])) .e .e) .e)) .e))) noX Try.func96 (by kernel_rfl) (by kernel_rfl) (run552 rfl rfl) (.cons s114 (.cons s115 .nil))
theorem s57 : SoundCall Try.prog 57 ⟨[pv i8, pv f1], [(true, [.own (.row (.s1 eV) 66), .own (.rows ei 2 43)])]⟩ (G 551) := sound (l := [(93, 413, ⟨[.ptr [.rd (.s1 eV), .rd (.s2 ei)]], [r2 ei 2 43]⟩), (39, 151, q5), (53, 30, q0), (94, 31, q3), (95, 15, q10), (96, 552, ⟨[p2 ei, pv i8, pv i8], [rv i8]⟩)]) (h := (zn .e (zn .e (zn .e (zn .e (zn .e (zn .e (zn .e (zn (zn .e (.n (some (.mk 5 1 [(9, ji 27), (51, ji 28), (52, jo 12), (53, ji 29), (54, jb 30)] [(13, .dead), (15, .var [(.s (.own 16)), (.s (.own 14))]), (16, .row (.s1 eV) 66 (.v 26))])) (.n (some (.mk 2 1 [(9, ji 27)] [(15, .var [(.s (.own 16)), (.s (.own 14))]), (13, .dead), (16, .row (.s1 eV) 66 (.v 26))])) .e .e) .e)) (zn .e (zn (zn .e (.n (some (.mk 5 1 [(11, ji 33), (92, ji 34), (93, .c (.s (.vptr 2 1))), (94, jo 11), (95, ji 35), (96, jb 36)] [(15, .var [(.s (.own 16)), (.s (.own 18))]), (17, .dead), (18, .rows ei 2 43 0 (.v 32))])) (.n (some (.mk 2 1 [(11, ji 33)] [(15, .var [(.s (.own 16)), (.s (.own 18))]), (17, .dead), (18, .rows ei 2 43 0 (.v 32))])) .e .e) .e)) .e))))))))))) noX Try.func57 (by kernel_rfl) (by kernel_rfl) (run551 rfl rfl rfl rfl rfl rfl) (.cons s93 (.cons s39 (.cons s53 (.cons s94 (.cons s95 (.cons s96 .nil))))))
theorem s15 : SoundCall Try.prog 15 ⟨[pv i8], [(true, [.own (.row (.s1 eV) 66), .own (.rows ei 2 43)])]⟩ (G 544) := sound (l := [(54, 545, ⟨[pv i8, pv i8, pv f1], [(true, [.own (.row (.s1 eV) 66), .own (.rows ei 2 43)])]⟩), (55, 546, ⟨[pv i8, pv i8, pv f1, pv f1], [(true, [.own (.row (.s1 eV) 66), .own (.rows ei 2 43)])]⟩), (56, 549, ⟨[pv f1], [(true, [.own (.row (.s1 eV) 66), .own (.rows ei 2 43)]), rv .bool]⟩), (57, 551, ⟨[pv i8, pv f1], [(true, [.own (.row (.s1 eV) 66), .own (.rows ei 2 43)])]⟩)]) (h := (zn .e (zn .e (zn (zn .e (zn (zn .e (.n (some (.mk 2 2 [] [(1, .var [(.s (.own 2)), (.s (.own 3))]), (2, .row (.s1 eV) 66 (.v 2)), (3, .rows ei 2 43 0 (.v 3))])) .e (zn .e (.n (some (.mk 2 2 [] [(1, .var [(.s (.own 2)), (.s (.own 3))]), (2, .row (.s1 eV) 66 (.v 3)), (3, .rows ei 2 43 0 (.v 4))])) .e (zn .e (.n (some (.mk 2 2 [] [(1, .var [(.s (.own 2)), (.s (.own 3))]), (2, .row (.s1 eV) 66 (.v 4)), (3, .rows ei 2 43 0 (.v 5))])) .e (zn .e (.n (some (.mk 2 2 [] [(1, .var [(.s (.own 2)), (.s (.own 3))]), (2, .row (.s1 eV) 66 (.v 5)), (3, .rows ei 2 43 0 (.v 6))])) .e .e)))))))) .e)) .e)))) noX Try.func15 (by kernel_rfl) (by kernel_rfl) (run544 rfl rfl rfl rfl) (.cons s54 (.cons s55 (.cons s56 (.cons s57 .nil))))
theorem s51 : SoundCall Try.prog 51 ⟨[.val false [.rd (.s1 ⟨false, [.int .u8]⟩)]], [(false, [.own (.box [.s1 ⟨false, [.int .u8]⟩, .b (.int .i64), .b (.int .u64)])])]⟩ (G 540) := sound (l := []) (h := .e) noX Try.func51 (by kernel_rfl) (by kernel_rfl) run540 .nil
theorem s90 : SoundCall Try.prog 90 ⟨[.val false [.mt (.box [.s1 ⟨false, [.int .u8]⟩, .b (.int .i64), .b (.int .u64)]) true]], [rv i8]⟩ (G 541) := sound (l := []) (h := (zn .e (zn .e (zn (zn .e (.n (some (.mk 1 0 [(3, ji 5)] [])) .e .e)) .e)))) noX Try.func90 (by kernel_rfl) (by kernel_rfl) run541 .nil
theorem s52 : SoundCall Try.prog 52 ⟨[.val false [.mt (.box [.s1 ⟨false, [.int .u8]⟩, .b (.int .i64), .b (.int .u64)]) true], pv i8], [rv i8]⟩ (G 542) := sound (l := [(90, 541, ⟨[.val false [.mt (.box [.s1 ⟨false, [.int .u8]⟩, .b (.int .i64), .b (.int .u64)]) true]], [rv i8]⟩)]) (h := (zn .e (zn .e (zn .e (zn (zn .e (.n (some (.mk 2 0 [(5, ji 7)] [(0, .bx [(.s1 (.mk false [(.int .u8)])), (.b (.int .i64)), (.b (.int .u64))] (.v 6))])) .e .e)) .e))))) noX Try.func52 (by kernel_rfl) (by kernel_rfl) (run542 rfl) (.cons s90 .nil)
theorem s14 : SoundCall Try.prog 14 ⟨[.val false [.rd (.s1 ⟨false, [.int .u8]⟩)], .val true [.rd (.s1 eV), .rd (.s2 ei)]], [(true, [.own (.row (.s1 eV) 66), .own (.rows ei 2 43)])]⟩ (G 543) := sound (l := [(51, 540, ⟨[.val false [.rd (.s1 ⟨false, [.int .u8]⟩)]], [(false, [.own (.box [.s1 ⟨false, [.int .u8]⟩, .b (.int .i64), .b (.int .u64)])])]⟩), (39, 151, q5), (52, 542, ⟨[.val false [.mt (.box [.s1 ⟨false, [.int .u8]⟩, .b (.int .i64), .b (.int .u64)]) true], pv i8], [rv i8]⟩), (53, 30, q0)]) (h := (zn .e (zn .e (zn .e (zn (zn .e (.n (some (.mk 6 0 [(7, ji 8), (12, ji 9), (13, .c (.s (.vptr 5 0))), (14, jo 3), (15, ji 10), (16, jb 11)] [(2, .bx [(.s1 (.mk false [(.int .u8)])), (.b (.int .i64)), (.b (.int .u64))] (.v 6)), (3, .row (.s1 eV) 66 (.v 7))])) (.n (some (.mk 3 0 [(7, ji 8)] [(2, .bx [(.s1 (.mk false [(.int .u8)])), (.b (.int .i64)), (.b (.int .u64))] (.v 6)), (3, .row (.s1 eV) 66 (.v 7))])) .e .e) .e)) .e))))) noX Try.func14 (by kernel_rfl) (by kernel_rfl) (run543 rfl rfl rfl rfl) (.cons s51 (.cons s39 (.cons s52 (.cons s53 .nil))))
theorem s74 : SoundCall Try.prog 74 q3 (G 31) := sound (l := []) (h := .e) noX Try.func74 (by kernel_rfl) (by kernel_rfl) run31 .nil
theorem s73 : SoundCall Try.prog 73 ⟨[.val true [.rd (.b f1), .rd (.b f1), .rd (.b f1)], .ptr [.rd (.b f1)]], [(true, [.cell f1, .cell f1, .cell f1])]⟩ (G 570) := sound (l := [(74, 31, q3)]) (h := .e) noX Try.func73 (by kernel_rfl) (by kernel_rfl) (run570 rfl) (.cons s74 .nil)
theorem s85 : SoundCall Try.prog 85 q26 (G 19) := sound (l := []) (h := .e) noX Try.func85 (by kernel_rfl) (by kernel_rfl) run19 .nil
theorem s58 : SoundCall Try.prog 58 q2 (G 150) := sound (l := [(85, 19, q26)]) (h := (zn .e (zn .e (zn .e (zn (zn .e (.n (some (.mk 2 0 [(14, ju), (15, ju), (16, ju), (17, ju), (22, ji 9), (23, jb 10)] [])) (.n (some (.mk 1 0 [(14, ju), (15, ju), (16, ju), (17, ju), (22, ji 9)] [])) (zn .e (zn .e (zn (zn (zn .e (zn .e (zn .e (.n (some (.mk 2 0 [(30, ju), (31, ju), (32, ju), (33, ju), (34, ju), (35, ju), (36, ju), (39, ju), (40, ju), (41, ju), (42, ju), (43, ju), (44, ju), (45, ju), (48, ju), (49, ju), (50, ju), (51, ju), (52, ju), (53, ju), (54, ju), (58, ji 39), (59, jb 40)] [])) (.n (some (.mk 1 0 [(30, ju), (31, ju), (32, ju), (33, ju), (34, ju), (35, ju), (36, ju), (39, ju), (40, ju), (41, ju), (42, ju), (43, ju), (44, ju), (45, ju), (48, ju), (49, ju), (50, ju), (51, ju), (52, ju), (53, ju), (54, ju), (58, ji 39)] [])) .e .e) .e)))) .e) .e))) .e) .e)) .e))))) noX Try.func58 (by kernel_rfl) (by kernel_rfl) (run150 rfl) (.cons s85 .nil)
theorem s43 : SoundCall Try.prog 43 q4 (G 151) := sound (l := []) (h := (zn .e (zn .e (zn (zn .e (.n (some (.mk 3 1 [(14, ji 6), (15, jb 7)] [(4, .var [(.s (.own 3)), (.s (.own 5))]), (5, .rows ei 2 43 0 (.v 5))])) (.n (some (.mk 2 1 [(14, ji 6)] [(4, .var [(.s (.own 3)), (.s (.own 5))]), (5, .rows ei 2 43 0 (.v 5))])) .e .e) .e)) .e)))) noX Try.func43 (by kernel_rfl) (by kernel_rfl) run151 .nil
theorem s72 : SoundCall Try.prog 72 ⟨[.val true [.rd (.s1 eV), .rd (.s2 ei)], .fn 73 [[.rd (.b f1)]]], [(true, [.own (.row (.s1 eV) 66), .own (.rows ei 2 43)]), rv .bool]⟩ (G 572) := sound (l := [(73, 570, ⟨[.val true [.rd (.b f1), .rd (.b f1), .rd (.b f1)], .ptr [.rd (.b f1)]], [(true, [.cell f1, .cell f1, .cell f1])]⟩), (58, 150, q2), (43, 151, q4)]) (h := (zn .e (zn .e (zn .e (zn (zn .e (.n (some (.mk 3 0 [(18, ji 9), (19, jb 10)] [(2, .row (.s1 eV) 66 (.v 8))])) (.n (some (.mk 2 0 [(18, ji 9)] [(2, .row (.s1 eV) 66 (.v 8))])) .e .e) .e)) .e))))) noX Try.func72 (by kernel_rfl) (by kernel_rfl) (run572 rfl rfl rfl) (.cons s73 (.cons s58 (.cons s43 .nil)))
theorem s27 : SoundCall Try.prog 27 ⟨[.val true [.rd (.s1 eV), .rd (.s2 ei)], pv f1], [(true, [.own (.row (.s1 eV) 66), .own (.rows ei 2 43)]), rv .bool]⟩ (G 571) := sound (l := [(72, 572, ⟨[.val true [.rd (.s1 eV), .rd (.s2 ei)], .fn 73 [[.rd (.b f1)]]], [(true, [.own (.row (.s1 eV) 66), .own (.rows ei 2 43)]), rv .bool]⟩)]) (h := .e) noX Try.func27 (by kernel_rfl) (by kernel_rfl) (run571 rfl) (.cons s72 .nil)
theorem s102 : SoundCall Try.prog 102 q0 (G 13) := sound (l := []) (h := .e) noX Try.func102 (by kernel_rfl) (by kernel_rfl) run13 .nil
theorem s104 : SoundCall Try.prog 104 q1 (G 14) := sound (l := []) (h := .e) noX Try.func104 (by kernel_rfl) (by kernel_rfl) run14 .nil
theorem s123 : SoundCall Try.prog 123 q0 (G 158) := sound (l := []) (h := .e) noX Try.func123 (by kernel_rfl) (by kernel_rfl) run158 .nil
theorem s105 : SoundCall Try.prog 105 ⟨[.val true [.rd (.s1 eV), .rd (.s2 ei)], p1 ei], [(true, [.cell f1, .cell f1, .cell f1])]⟩ (G 160) := sound (l := [(102, 13, q0), (123, 158, q0)]) (h := .e) noX Try.func105 (by kernel_rfl) (by kernel_rfl) (run160 rfl rfl) (.cons s102 (.cons s123 .nil))
theorem s121 : SoundCall Try.prog 121 q35 (G 11) := sound (l := [(125, 9, q34)]) (h := .e) noX Try.func121 (by kernel_rfl) (by kernel_rfl) (run11 rfl) (.cons s125 .nil)
theorem s101 : SoundCall Try.prog 101 q10 (G 15) := sound (l := [(104, 14, q1), (121, 11, q35)]) (h := .e) noX Try.func101 (by kernel_rfl) (by kernel_rfl) (run15 rfl rfl) (.cons s104 (.cons s121 .nil))
theorem s75 : SoundCall Try.prog 75 q14 (G 162) := sound (l := [(102, 13, q0), (104, 14, q1), (105, 160, ⟨[.val true [.rd (.s1 eV), .rd (.s2 ei)], p1 ei], [(true, [.cell f1, .cell f1, .cell f1])]⟩), (101, 15, q10)]) (h := (zn .e (zn .e (zn .e (zn (zn .e (.n (some (.mk 3 0 [(8, jf 32), (43, ji 33), (44, jb 34)] [])) (.n (some (.mk 2 0 [(8, jf 32), (43, ji 33)] [])) (zn .e (zn .e (zn (zn (zn .e (zn .e (.n (some (.mk 1 0 [(8, jf 41)] [])) .e .e))) .e) .e))) .e) .e)) .e))))) noX Try.func75 (by kernel_rfl) (by kernel_rfl) (run162 rfl rfl rfl rfl) (.cons s102 (.cons s104 (.cons s105 (.cons s101 .nil))))
theorem s28 : SoundCall Try.prog 28 ⟨[.val true [.rd (.s1 eV), .rd (.s2 ei)], pv f1], [r1 ei 2, rv .bool]⟩ (G 165) := sound (l := [(58, 150, q2), (75, 162, q14)]) (h := (zn .e (zn .e (zn .e (zn (zn .e (.n (some (.mk 3 1 [(6, jo 2), (16, ji 8), (17, jb 9)] [(1, .dead), (2, .row (.s1 ei) 2 (.v 7))])) (.n (some (.mk 2 1 [(6, jo 2), (16, ji 8)] [(1, .dead), (2, .row (.s1 ei) 2 (.v 7))])) (zn .e (zn .e (zn (zn (zn .e (zn .e (.n (some (.mk 1 1 [(6, jo 3)] [(2, .dead), (3, .row (.s1 ei) 2 (.v 13))])) .e .e))) .e) .e))) .e) .e)) .e))))) noX Try.func28 (by kernel_rfl) (by kernel_rfl) (run165 rfl rfl) (.cons s58 (.cons s75 .nil))
theorem s42 : SoundCall Try.prog 42 q11 (G 156) := sound (l := [(58, 150, q2), (85, 19, q26)]) (h := .e) noX Try.func42 (by kernel_rfl) (by kernel_rfl) (run156 rfl rfl) (.cons s58 (.cons s85 .nil))
theorem s29 : SoundCall Try.prog 29 ⟨[.val true [.rd (.s1 eV), .rd (.s2 ei)], pv i8], [rv f1, rv .bool]⟩ (G 163) := sound (l := [(42, 156, q11), (75, 162, q14)]) (h := .e) noX Try.func29 (by kernel_rfl) (by kernel_rfl) (run163 rfl rfl) (.cons s42 (.cons s75 .nil))
theorem s76 : SoundCall Try.prog 76 ⟨[pv f8], [rv .bool]⟩ (G 567) := sound (X := [(106, .f64bits)]) (l := []) (h := .e) f64bitsX Try.func76 (by kernel_rfl) (by kernel_rfl) run567 .nil
theorem s30 : SoundCall Try.prog 30 q31 (G 566) := sound (l := [(76, 567, ⟨[pv f8], [rv .bool]⟩)]) (h := .e) noX Try.func30 (by kernel_rfl) (by kernel_rfl) (run566 rfl) (.cons s76 .nil)
theorem s31 : SoundCall Try.prog 31 ⟨[p1 ei, pv i8], [rv .bool]⟩ (G 573) := sound (l := []) (h := (zn .e (zn (zn .e (.n (some (.mk 4 0 [(5, ji 2), (6, ji 3), (7, .c (.s (.dat (.s1 ei) (.v 0)))), (8, ji 4), (9, jb 5)] [])) (.n (some (.mk 1 0 [(5, ji 2)] [])) .e .e) .e)) .e))) noX Try.func31 (by kernel_rfl) (by kernel_rfl) run573 .nil
def srd_ren : Go.Shelf.Ren := ⟨fun | 45 => 44 | n => n, fun | 22 => 23 | 23 => 43 | 3 => 3 | 4 => 4 | 0 => 0 | n => n, fun n => n⟩
theorem srd : SlLaysE.n45 Try.prog srd_ren where
 mixed := by kernel_rfl
 f45 := ⟨Try.f44.name, by kernel_rfl, Try.func44.trans (congrArg some (by kernel_rfl))⟩
 t0 := Try.underlying0
 a0 := Try.isAgg0
 z0 := Try.sizeOf0
 v0 := Try.zeroValue0
 t3 := Try.underlying3
 a3 := Try.isAgg3
 z3 := Try.sizeOf3
 v3 := Try.zeroValue3
 t4 := Try.underlying4
 a4 := Try.isAgg4
 z4 := Try.sizeOf4
 v4 := Try.zeroValue4
 t22 := Try.underlying23
 a22 := Try.isAgg23
 z22 := Try.sizeOf23
 v22 := Try.zeroValue23
 a23 := Try.isAgg43
 z23 := Try.sizeOf43
set_option maxRecDepth 100000 in
theorem s44 : SoundCall Try.prog 44 ⟨[m2 ei 2 43 false, pv i8, pv i8], [r2 ei 2 43]⟩ (G 440) := delete_rows srd Try.zeroValue43 _ rfl rfl
theorem s9 : SoundCall Try.prog 9 ⟨[.val true [.rd (.s1 eV), .rd (.s2 ei)], pv i8], [(true, [.own (.row (.s1 eV) 66), .own (.rows ei 2 43)]), rv .bool]⟩ (G 531) := sound (l := [(42, 156, q11), (43, 151, q4), (44, 440, ⟨[m2 ei 2 43 false, pv i8, pv i8], [r2 ei 2 43]⟩)]) (h := .e) noX Try.func9 (by kernel_rfl) (by kernel_rfl) (run531 rfl rfl rfl) (.cons s42 (.cons s43 (.cons s44 .nil)))
theorem s66 : SoundCall Try.prog 66 ⟨[.val true [.rd (.s1 eV), .rd (.s2 ei)]], [r1 eb 4]⟩ (G 169) := sound (l := []) (h := (zn .e (zn .e (zn (zn .e (.n (some (.mk 3 0 [(15, ji 6), (16, jb 7)] [(1, .row (.s1 (.mk false [.bool])) 4 (.v 5))])) (.n (some (.mk 2 0 [(15, ji 6)] [(1, .row (.s1 (.mk false [.bool])) 4 (.v 5))])) (zn .e (zn .e (zn (zn (zn .e (zn .e (.n (some (.mk 3 0 [(21, ji 11), (22, jb 12)] [(1, .row (.s1 (.mk false [.bool])) 4 (.v 10))])) (.n (some (.mk 2 0 [(21, ji 11)] [(1, .row (.s1 (.mk false [.bool])) 4 (.v 10))])) .e .e) .e))) .e) .e))) .e) .e)) .e)))) noX Try.func66 (by kernel_rfl) (by kernel_rfl) run169 .nil
theorem s32 : SoundCall Try.prog 32 ⟨[.val true [.rd (.s1 eV), .rd (.s2 ei)]], [(true, [.own (.row (.s1 eV) 66), .own (.rows ei 2 43)]), rv .bool]⟩ (G 170) := sound (l := [(58, 150, q2), (66, 169, ⟨[.val true [.rd (.s1 eV), .rd (.s2 ei)]], [r1 eb 4]⟩)]) (h := (zn .e (zn .e (zn .e (zn (zn .e (.n (some (.mk 4 1 [(22, ji 10), (23, jb 11)] [(2, .row (.s1 ei) 2 (.v 8)), (3, .var [(.s (.own 5)), (.s .nils)]), (5, .row (.s1 eV) 66 (.v 9))])) (.n (some (.mk 3 1 [(22, ji 10)] [(2, .row (.s1 ei) 2 (.v 8)), (3, .var [(.s (.own 5)), (.s .nils)]), (5, .row (.s1 eV) 66 (.v 9))])) (zn .e (zn .e (zn (zn (zn .e (zn .e (.n (some (.mk 2 1 [] [(2, .row (.s1 ei) 2 (.v 14)), (3, .var [(.s (.own 6)), (.s .nils)]), (5, .dead), (6, .row (.s1 eV) 66 (.v 15))])) .e .e))) .e) .e))) .e) .e)) (zn (zn .e (.n (some (.mk 3 1 [(48, ji 14), (49, jb 15)] [(3, .var [(.s (.own 5)), (.s (.own 6))]), (6, .rows ei 2 43 0 (.v 13))])) (.n (some (.mk 2 1 [(48, ji 14)] [(3, .var [(.s (.own 5)), (.s (.own 6))]), (6, .rows ei 2 43 0 (.v 13))])) .e .e) .e)) .e)))))) noX Try.func32 (by kernel_rfl) (by kernel_rfl) (run170 rfl rfl) (.cons s58 (.cons s66 .nil))
theorem s78 : SoundCall Try.prog 78 ⟨[.val true [.rd (.b f1), .rd (.b f1), .rd (.b f1)], .val true [.rd (.b f1), .rd (.b f1), .rd (.b f1)]], [rv .bool]⟩ (G 565) := sound (l := [(30, 566, q31)]) (h := .e) noX Try.func78 (by kernel_rfl) (by kernel_rfl) (run565 rfl) (.cons s30 .nil)
theorem s77 : SoundCall Try.prog 77 ⟨[p1 eV, p1 eV, .fn 78 []], [rv .bool]⟩ (G 564) := sound (l := [(78, 565, ⟨[.val true [.rd (.b f1), .rd (.b f1), .rd (.b f1)], .val true [.rd (.b f1), .rd (.b f1), .rd (.b f1)]], [rv .bool]⟩)]) (h := (zn .e (zn .e (zn (zn .e (.n (some (.mk 2 0 [(17, ji 6), (18, jb 7)] [])) (.n (some (.mk 1 0 [(17, ji 6)] [])) .e .e) .e)) .e)))) noX Try.func77 (by kernel_rfl) (by kernel_rfl) (run564 rfl) (.cons s78 .nil)
theorem s109 : SoundCall Try.prog 109 q32 (G 484) := sound (l := []) (h := (zn .e (zn .e (zn (zn .e (.n (some (.mk 2 0 [(13, ji 6), (14, jb 7)] [])) (.n (some (.mk 1 0 [(13, ji 6)] [])) .e .e) .e)) .e)))) noX Try.func109 (by kernel_rfl) (by kernel_rfl) run484 .nil
theorem s108 : SoundCall Try.prog 108 q32 (G 483) := sound (l := [(109, 484, q32)]) (h := .e) noX Try.func108 (by kernel_rfl) (by kernel_rfl) (run483 rfl) (.cons s109 .nil)
theorem s107 : SoundCall Try.prog 107 ⟨[p2 ei, p2 ei, .fn 108 []], [rv .bool]⟩ (G 482) := sound (l := [(108, 483, q32)]) (h := (zn .e (zn .e (zn (zn .e (.n (some (.mk 2 0 [(17, ji 6), (18, jb 7)] [])) (.n (some (.mk 1 0 [(17, ji 6)] [])) .e .e) .e)) .e)))) noX Try.func107 (by kernel_rfl) (by kernel_rfl) (run482 rfl) (.cons s108 .nil)
theorem s79 : SoundCall Try.prog 79 q33 (G 481) := sound (l := [(107, 482, ⟨[p2 ei, p2 ei, .fn 108 []], [rv .bool]⟩)]) (h := .e) noX Try.func79 (by kernel_rfl) (by kernel_rfl) (run481 rfl) (.cons s107 .nil)
theorem s33 : SoundCall Try.prog 33 q6 (G 563) := sound (l := [(77, 564, ⟨[p1 eV, p1 eV, .fn 78 []], [rv .bool]⟩), (79, 481, q33)]) (h := .e) noX Try.func33 (by kernel_rfl) (by kernel_rfl) (run563 rfl rfl) (.cons s77 (.cons s79 .nil))
theorem s34 : SoundCall Try.prog 34 q6 (G 480) := sound (l := [(58, 150, q2), (79, 481, q33)]) (h := .e) noX Try.func34 (by kernel_rfl) (by kernel_rfl) (run480 rfl rfl) (.cons s58 (.cons s79 .nil))
theorem s5 : SoundCall Try.prog 5 ⟨[p1 ⟨false, [.int .u8]⟩, p1 ⟨false, [.int .u8]⟩], [rv .bool]⟩ (G 574) := sound (l := [(13, 220, ⟨[p1 ⟨false, [.int .u8]⟩, p1 ⟨false, [.int .u8]⟩], [rv .bool]⟩), (16, 221, ⟨[p1 ⟨false, [.int .u8]⟩, pv i8, pv i8], [rv i8]⟩), (15, 544, ⟨[pv i8], [(true, [.own (.row (.s1 eV) 66), .own (.rows ei 2 43)])]⟩), (14, 543, ⟨[.val false [.rd (.s1 ⟨false, [.int .u8]⟩)], .val true [.rd (.s1 eV), .rd (.s2 ei)]], [(true, [.own (.row (.s1 eV) 66), .own (.rows ei 2 43)])]⟩), (27, 571, ⟨[.val true [.rd (.s1 eV), .rd (.s2 ei)], pv f1], [(true, [.own (.row (.s1 eV) 66), .own (.rows ei 2 43)]), rv .bool]⟩), (28, 165, ⟨[.val true [.rd (.s1 eV), .rd (.s2 ei)], pv f1], [r1 ei 2, rv .bool]⟩), (29, 163, ⟨[.val true [.rd (.s1 eV), .rd (.s2 ei)], pv i8], [rv f1, rv .bool]⟩), (30, 566, q31), (31, 573, ⟨[p1 ei, pv i8], [rv .bool]⟩), (9, 531, ⟨[.val true [.rd (.s1 eV), .rd (.s2 ei)], pv i8], [(true, [.own (.row (.s1 eV) 66), .own (.rows ei 2 43)]), rv .bool]⟩), (32, 170, ⟨[.val true [.rd (.s1 eV), .rd (.s2 ei)]], [(true, [.own (.row (.s1 eV) 66), .own (.rows ei 2 43)]), rv .bool]⟩), (33, 563, q6), (34, 480, q6)]) (h := (zn .e (zn .e (zn .e (zn .e (zn .e (zn .e (zn .e (zn .e (zn (zn .e (.n (some (.mk 5 0 [(11, ji 20), (12, ji 21), (50, ju), (51, ju), (53, ji 22), (54, .c (.s (.vptr 4 1))), (55, jo 3), (56, ji 23), (57, jb 24)] [])) (.n (some (.mk 2 0 [(11, ji 20), (12, ji 21), (50, ju), (51, ju)] [])) (zn .e (zn (zn (zn .e (zn .e (zn .e (zn .e (.n (some (.mk 1 0 [(11, ji 42), (75, ju), (76, ju), (79, ju), (80, ju), (81, ju), (82, ju), (85, ju), (86, ju), (87, ju)] [])) .e .e))))) .e) .e)) .e) .e)) .e)))))))))) noX Try.func5 (by kernel_rfl) (by kernel_rfl) (run574 rfl rfl rfl rfl rfl rfl rfl rfl rfl rfl rfl rfl rfl) (.cons s13 (.cons s16 (.cons s15 (.cons s14 (.cons s27 (.cons s28 (.cons s29 (.cons s30 (.cons s31 (.cons s9 (.cons s32 (.cons s33 (.cons s34 .nil)))))))))))))
theorem own : ownKnob Try.prog.godebug = none := by kernel_rfl
theorem laidOut : laidOutB Try.prog = true := by kernel_rfl
theorem mapsRow : mapsRowed Try.prog = true := by kernel_rfl
theorem slicesFull : ((List.range Try.prog.types.size).all fun t => match Try.prog.underlying t with | some (.slice e) => decide (0 < Try.prog.cellsOf e) | _ => true) = true := by kernel_rfl
set_option maxRecDepth 100000 in
theorem thick_lifted (os : Os) (started : os.Started) (H : Type) (enc : TypeId × Value → H) :
  ReturnsInHanded {} Try.checked os 5 .any (Rows.fnThickSpec.pre6 enc Try.prog Try.f5 Rows.fnThickRow.domain false) (Rows.fnThickSpec.post enc Try.prog Try.f5 false true false false) := by
 refine returnsInHanded_of_change (C := Try.checked) own started (by kernel_rfl) Try.func5
  (ChangeSpec.witness6 (enc := enc) (C := Try.checked) false ⟨#[], #[.slice none 0 0, .slice none 0 0], []⟩ 8 (by kernel_rfl) (by kernel_rfl) (by kernel_rfl) (by kernel_rfl)) ?_
 intro W base args ds gs before hval0 hW hcnd _
 have hval : ∀ (j : Nat) t v, Try.f5.params.toList[j]? = some t → args.toList[j]? = some v → Value.okWide Try.prog W .any base t v := fun j t v h1 h2 => hval0 j t v (by simpa using h1) (by simpa using h2)
 obtain ⟨p, q, hA, hV, _⟩ := id hW
 obtain ⟨x0, x1, hX, hb0, hb1, hl0⟩ := args_bytes2 (by kernel_rfl) (by kernel_rfl) (by kernel_rfl) (by kernel_rfl) hA hval
 rw [← Fm_nil] at hX
 obtain ⟨d0, es0, rfl, hl1⟩ := len_cons hl0
 obtain ⟨d1, es1, rfl, hl2⟩ := len_cons hl1
 obtain rfl := len_nil hl2
 exact law_of_sound (bT := true) (tb := 4) laidOut mapsRow slicesFull (by kernel_rfl) (by kernel_rfl) (by kernel_rfl) rfl ⟨rfl, rfl, rfl⟩ s5 rfl hW ⟨_, hX, by show F574 [il x0, il x1] = _; simp only [F574, dI_il, Option.bind_some]; exact if_pos ⟨hb0, hb1⟩⟩
theorem thick_holds : Rows.FnThickSaid :=
 OpenClaim.holds_of_wide 5 Try.f5 rfl rfl rfl rfl rfl rfl rfl ⟨rfl, rfl, rfl, rfl, rfl⟩ rfl rfl rfl rfl rfl (by kernel_rfl) Try.func5 (by kernel_rfl)
  (of_decide_eq_true (by kernel_rfl)) (by unfold Func.isWrapper; first | (rw [if_pos (by decide +kernel)]; kernel_rfl) | (rw [if_neg (by decide +kernel)]; exact ⟨rfl, rfl⟩))
  (fun os started H enc _ => thick_lifted os started H enc)
end Go.Proofs.Ytaakjnkllodchaa
