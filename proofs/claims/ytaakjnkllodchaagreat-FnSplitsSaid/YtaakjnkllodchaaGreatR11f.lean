/-
  Proved: a split edge has one place and as many triangles more as it had, the same number of Euler and nearly the same area; joined again, the edges are what they were (the law answers true for all inputs). Conditions: none.
-/
import Derived.Test.YtaakjnkllodchaaGreatRows
import Derived.Test.YtaakjnkllodchaaGreatK67
namespace Go.Proofs.YtaakjnkllodchaaGreat
open Vs Go Go.Shelf Go.RowKit Go.ChangeShapes Go.WideShapes Go.ChangeAt
noncomputable def G : Vs.Told
 | 1 => F1
 | 9 => F9
 | 10 => F10
 | 11 => F11
 | 13 => F13
 | 14 => F14
 | 15 => F15
 | 19 => F19
 | 30 => F30
 | 31 => F31
 | 143 => F143
 | 150 => F150
 | 151 => F151
 | 158 => F158
 | 160 => F160
 | 169 => F169
 | 210 => F210m
 | 220 => F220
 | 221 => F221
 | 231 => F231
 | 331 => F331
 | 400 => F400
 | 401 => F401
 | 402 => F402
 | 403 => F403
 | 404 => F404
 | 405 => F405
 | 407 => F407
 | 408 => F408
 | 409 => F409
 | 410 => F410
 | 411 => F411
 | 413 => F413
 | 422 => F422
 | 424 => F424
 | 439 => F439
 | 440 => F440
 | 441 => F441
 | 442 => F442
 | 443 => F443
 | 444 => F444
 | 445 => F445
 | 449 => F449
 | 450 => F450
 | 451 => F451
 | 452 => F452
 | 453 => F453
 | 474 => F474
 | 475 => F475
 | 540 => F540
 | 541 => F541
 | 542 => F542
 | 543 => F543
 | 544 => F544
 | 545 => F545
 | 546 => F546
 | 549 => F549
 | 550 => F550
 | 551 => F551
 | 552 => F552
 | 553 => F553
 | 554 => F554
 | 555 => F555
 | 557 => F557
 | 558 => F558
 | 565 => F565
 | 566 => F566
 | 567 => F567
 | 575 => F575
 | 576 => F576
 | 430 => F430
 | 431 => F431
 | 432 => F432
 | _ => fun _ => none
def ji (k : Nat) : SV := .c (.s (.dat (.b (.int .i64)) (.v k)))
def jf (k : Nat) : SV := .c (.s (.dat (.b (.flt .f32)) (.v k)))
def jb (k : Nat) : SV := .c (.s (.dat (.b .bool) (.v k)))
def jo (k : Nat) : SV := .c (.s (.own k))
def jm (k : Nat) : SV := .c (.s (.fcel [.d (.s1 eV) (.v 0), .d (.s2 ei) (.v 1)] k))
def ju : SV := .c (.s .undef)
def zn (l r : H) : H := .n none l r
def q0 : Sig := ⟨[.val true [.rd (.b f1), .rd (.b f1), .rd (.b f1)], .val true [.rd (.b f1), .rd (.b f1), .rd (.b f1)]], [(true, [.cell f1, .cell f1, .cell f1])]⟩
def q1 : Sig := ⟨[.val true [.rd (.s1 eV), .rd (.s2 ei)]], [rv .bool]⟩
def q2 : Sig := ⟨[.val true [.rd (.s1 eV), .rd (.s2 ei)], pv i8, pv i8], [rv .bool]⟩
def q3 : Sig := ⟨[.val true [.rd (.s1 eV), .rd (.s2 ei)]], [(false, [.own (.map ⟨112, 119, 2, .s ei 2⟩)]), r1 ⟨true, [i8, i8]⟩ 119]⟩
def q4 : Sig := ⟨[.val true [.rd (.s1 eV), .rd (.s2 ei)], pv i8, pv i8], [(true, [.own (.row (.s1 eV) 40), .own (.rows ei 2 54)])]⟩
def q5 : Sig := ⟨[.val true [.rd (.b f1), .rd (.b f1), .rd (.b f1)], .val true [.rd (.b f1), .rd (.b f1), .rd (.b f1)]], [rv f1]⟩
def q6 : Sig := ⟨[.val true [.rd (.b f1), .rd (.b f1), .rd (.b f1)], pv f1], [(true, [.cell f1, .cell f1, .cell f1])]⟩
def q7 : Sig := ⟨[.ptr [.rd (.s1 eV), .rd (.s2 ei)]], [(true, [.own (.row (.s1 eV) 40), .own (.rows ei 2 54)])]⟩
def q8 : Sig := ⟨[.val true [.rd (.s1 eV), .rd (.s2 ei)], p1 ei], [r1 ei 2]⟩
def q11 : Sig := ⟨[pv i8, pv i8], [(true, [.cell i8, .cell i8])]⟩
def q14 : Sig := ⟨[pv i8, pv i8], [rv i8]⟩
def q16 : Sig := ⟨[.val true [.rd (.b f1), .rd (.b f1), .rd (.b f1)]], [rv f1]⟩
def q17 : Sig := ⟨[.val true [.rd (.s1 eV), .rd (.s2 ei)], pv i8], [rv .bool]⟩
def q18 : Sig := ⟨[.val true [.rd (.s1 eV), .rd (.s2 ei)]], [rv i8, rv .bool]⟩
def q29 : Sig := ⟨[pv i8, pv i8, pv i8], [rv .bool]⟩
def q34 : Sig := ⟨[p1 ei, pv i8], [rv .bool]⟩
def q36 : Sig := ⟨[pv f8], [rv f8]⟩
def q37 : Sig := ⟨[pv f1], [rv f1]⟩
theorem noX : ∀ x ∈ ([] : List (FuncId × Ext)), ∀ args w, (callFunc x.1 args).run Tryz.prog w = ((extFn x.2 args).run Tryz.prog w).andThen fun v w' => .ok (.value v) w' := by intro x hx; cases hx
theorem f64bitsX : ∀ x ∈ ([(160, .f64bits)] : List (FuncId × Ext)), ∀ args w, (callFunc x.1 args).run Tryz.prog w = ((extFn x.2 args).run Tryz.prog w).andThen fun v w' => .ok (.value v) w' := by
 intro x hx
 simp only [List.mem_cons, List.not_mem_nil, or_false] at hx
 subst hx
 exact fun args w => run_callFunc_extern Tryz.func160 (by kernel_rfl) (by kernel_rfl) (by kernel_rfl) (by kernel_rfl) args w
theorem f64frombitsX : ∀ x ∈ ([(185, .f64frombits)] : List (FuncId × Ext)), ∀ args w, (callFunc x.1 args).run Tryz.prog w = ((extFn x.2 args).run Tryz.prog w).andThen fun v w' => .ok (.value v) w' := by
 intro x hx
 simp only [List.mem_cons, List.not_mem_nil, or_false] at hx
 subst hx
 exact fun args w => run_callFunc_extern Tryz.func185 (by kernel_rfl) (by kernel_rfl) (by kernel_rfl) (by kernel_rfl) args w
theorem sqrtX : ∀ x ∈ ([(175, .sqrt)] : List (FuncId × Ext)), ∀ args w, (callFunc x.1 args).run Tryz.prog w = ((extFn x.2 args).run Tryz.prog w).andThen fun v w' => .ok (.value v) w' := by
 intro x hx
 simp only [List.mem_cons, List.not_mem_nil, or_false] at hx
 subst hx
 exact fun args w => run_callFunc_extern Tryz.func175 (by kernel_rfl) (by kernel_rfl) (by kernel_rfl) (by kernel_rfl) args w
theorem s15 : SoundCall Tryz.prog 15 ⟨[p1 ⟨false, [.int .u8]⟩, p1 ⟨false, [.int .u8]⟩], [rv .bool]⟩ (G 220) := sound (l := []) (h := .e) noX Tryz.func15 (by kernel_rfl) (by kernel_rfl) run220 .nil
theorem s18 : SoundCall Tryz.prog 18 ⟨[p1 ⟨false, [.int .u8]⟩, pv i8, pv i8], [rv i8]⟩ (G 221) := sound (l := []) (h := .e) noX Tryz.func18 (by kernel_rfl) (by kernel_rfl) run221 .nil
theorem s61 : SoundCall Tryz.prog 61 ⟨[pv i8, pv i8, pv f1], [(true, [.own (.row (.s1 eV) 40), .own (.rows ei 2 54)])]⟩ (G 545) := sound (l := []) (h := (zn .e (zn .e (zn (zn .e (.n (some (.mk 4 1 [(8, ji 6), (17, ji 7), (18, ji 1), (19, jb 8)] [(1, .dead), (3, .var [(.s (.own 4)), (.s (.own 2))]), (4, .row (.s1 eV) 40 (.v 5))])) (.n (some (.mk 2 1 [(8, ji 6)] [(3, .var [(.s (.own 4)), (.s (.own 2))]), (1, .dead), (4, .row (.s1 eV) 40 (.v 5))])) (zn .e (zn (zn (zn .e (.n (some (.mk 4 1 [(9, ji 9), (22, ji 10), (23, ji 0), (24, jb 11)] [(3, .var [(.s (.own 5)), (.s (.own 2))]), (4, .dead), (5, .row (.s1 eV) 40 (.v 8))])) (.n (some (.mk 2 1 [(9, ji 9)] [(3, .var [(.s (.own 5)), (.s (.own 2))]), (4, .dead), (5, .row (.s1 eV) 40 (.v 8))])) .e .e) .e)) .e) .e)) .e) .e)) (zn (zn .e (.n (some (.mk 4 1 [(10, ji 10), (41, ji 11), (42, ji 1), (43, jb 12)] [(2, .dead), (3, .var [(.s (.own 4)), (.s (.own 5))]), (5, .rows ei 2 54 0 (.v 9))])) (.n (some (.mk 2 1 [(10, ji 10)] [(3, .var [(.s (.own 4)), (.s (.own 5))]), (2, .dead), (5, .rows ei 2 54 0 (.v 9))])) (zn .e (zn (zn (zn .e (.n (some (.mk 4 1 [(11, ji 13), (46, ji 14), (47, ji 0), (48, jb 15)] [(3, .var [(.s (.own 4)), (.s (.own 6))]), (5, .dead), (6, .rows ei 2 54 0 (.v 12))])) (.n (some (.mk 2 1 [(11, ji 13)] [(3, .var [(.s (.own 4)), (.s (.own 6))]), (5, .dead), (6, .rows ei 2 54 0 (.v 12))])) .e .e) .e)) .e) .e)) .e) .e)) .e))))) noX Tryz.func61 (by kernel_rfl) (by kernel_rfl) run545 .nil
theorem s163 : SoundCall Tryz.prog 163 ⟨[], [rv f8]⟩ (G 331) := sound (X := [(185, .f64frombits)]) (l := []) (h := .e) f64frombitsX Tryz.func163 (by kernel_rfl) (by kernel_rfl) run331 .nil
theorem s152 : SoundCall Tryz.prog 152 q36 (G 475) := sound (l := [(163, 331, ⟨[], [rv f8]⟩)]) (h := (zn .e (zn .e (zn .e (zn .e (zn (zn .e (.n (some (.mk 1 0 [(3, .c (.s (.dat (.b (.flt .f64)) (.v 11)))), (17, ju), (18, ju)] [])) .e .e)) (zn .e (zn (zn .e (.n (some (.mk 1 0 [(3, .c (.s (.dat (.b (.flt .f64)) (.v 13))))] [])) .e .e)) (zn (zn .e (.n (some (.mk 1 0 [(3, .c (.s (.dat (.b (.flt .f64)) (.v 15))))] [])) .e .e)) (zn .e (zn .e (zn .e (zn (zn .e (.n (some (.mk 4 0 [(7, .c (.s (.dat (.b (.flt .f64)) (.v 18)))), (8, ji 19), (43, ji 20), (44, jb 21)] [])) (.n (some (.mk 2 0 [(7, .c (.s (.dat (.b (.flt .f64)) (.v 18)))), (8, ji 19)] [])) .e .e) .e)) .e))))))))))))) noX Tryz.func152 (by kernel_rfl) (by kernel_rfl) run475 (.cons s163 .nil)
theorem s151 : SoundCall Tryz.prog 151 ⟨[pv f8], [rv f1]⟩ (G 10) := sound (l := []) (h := .e) noX Tryz.func151 (by kernel_rfl) (by kernel_rfl) run10 .nil
theorem s124 : SoundCall Tryz.prog 124 q37 (G 474) := sound (l := [(152, 475, q36), (151, 10, ⟨[pv f8], [rv f1]⟩)]) (h := .e) noX Tryz.func124 (by kernel_rfl) (by kernel_rfl) (run474s rfl rfl) (.cons s152 (.cons s151 .nil))
theorem s62 : SoundCall Tryz.prog 62 ⟨[pv i8, pv i8, pv f1, pv f1], [(true, [.own (.row (.s1 eV) 40), .own (.rows ei 2 54)])]⟩ (G 546) := sound (l := [(124, 474, q37)]) (h := (zn .e (zn .e (zn (zn .e (.n (some (.mk 4 1 [(10, ji 7), (21, ji 8), (22, ji 1), (23, jb 9)] [(1, .dead), (3, .var [(.s (.own 4)), (.s (.own 2))]), (4, .row (.s1 eV) 40 (.v 6))])) (.n (some (.mk 2 1 [(10, ji 7)] [(3, .var [(.s (.own 4)), (.s (.own 2))]), (1, .dead), (4, .row (.s1 eV) 40 (.v 6))])) (zn .e (zn (zn (zn .e (.n (some (.mk 4 1 [(11, ji 10), (26, ji 11), (27, ji 0), (28, jb 12)] [(3, .var [(.s (.own 5)), (.s (.own 2))]), (4, .dead), (5, .row (.s1 eV) 40 (.v 9))])) (.n (some (.mk 2 1 [(11, ji 10)] [(3, .var [(.s (.own 5)), (.s (.own 2))]), (4, .dead), (5, .row (.s1 eV) 40 (.v 9))])) .e .e) .e)) .e) .e)) .e) .e)) (zn (zn .e (.n (some (.mk 4 1 [(14, ji 11), (57, ji 12), (58, ji 1), (59, jb 13)] [(2, .dead), (3, .var [(.s (.own 4)), (.s (.own 5))]), (5, .rows ei 2 54 0 (.v 10))])) (.n (some (.mk 2 1 [(14, ji 11)] [(3, .var [(.s (.own 4)), (.s (.own 5))]), (2, .dead), (5, .rows ei 2 54 0 (.v 10))])) (zn .e (zn (zn (zn .e (.n (some (.mk 4 1 [(15, ji 14), (62, ji 15), (63, ji 0), (64, jb 16)] [(3, .var [(.s (.own 4)), (.s (.own 6))]), (5, .dead), (6, .rows ei 2 54 0 (.v 13))])) (.n (some (.mk 2 1 [(15, ji 14)] [(3, .var [(.s (.own 4)), (.s (.own 6))]), (5, .dead), (6, .rows ei 2 54 0 (.v 13))])) .e .e) .e)) .e) .e)) .e) .e)) .e))))) noX Tryz.func62 (by kernel_rfl) (by kernel_rfl) (run546 rfl) (.cons s124 .nil)
theorem s153 : SoundCall Tryz.prog 153 ⟨[pv f1], [rv .bool]⟩ (G 1) := sound (l := []) (h := .e) noX Tryz.func153 (by kernel_rfl) (by kernel_rfl) run1 .nil
theorem s125 : SoundCall Tryz.prog 125 ⟨[pv f1], [rv .bool]⟩ (G 550) := sound (l := [(153, 1, ⟨[pv f1], [rv .bool]⟩)]) (h := .e) noX Tryz.func125 (by kernel_rfl) (by kernel_rfl) (run550 rfl) (.cons s153 .nil)
theorem s63 : SoundCall Tryz.prog 63 ⟨[pv f1], [(true, [.own (.row (.s1 eV) 40), .own (.rows ei 2 54)]), rv .bool]⟩ (G 549) := sound (l := [(125, 550, ⟨[pv f1], [rv .bool]⟩)]) (h := (zn .e (zn .e (zn .e (zn (zn .e (.n (some (.mk 4 1 [(5, ji 4), (12, ji 5), (13, jb 6)] [(1, .var [(.s (.own 2)), (.s .nils)]), (2, .row (.s1 eV) 40 (.v 3))])) (.n (some (.mk 2 1 [(5, ji 4)] [(1, .var [(.s (.own 2)), (.s .nils)]), (2, .row (.s1 eV) 40 (.v 3))])) (zn .e (zn (zn (zn .e (zn (zn .e (.n (some (.mk 1 0 [] [(3, .var [(.s (.dat (.b (.flt .f32)) (.v 8))), (.s (.dat (.b (.flt .f32)) (.c (.flt 0)))), (.s (.dat (.b (.flt .f32)) (.c (.flt 0))))])])) .e .e)) (zn (zn .e (.n (some (.mk 1 0 [] [(3, .var [(.s (.dat (.b (.flt .f32)) (.v 8))), (.s (.dat (.b (.flt .f32)) (.v 11))), (.s (.dat (.b (.flt .f32)) (.c (.flt 0))))])])) .e .e)) (zn (zn .e (.n (some (.mk 1 0 [] [(3, .var [(.s (.dat (.b (.flt .f32)) (.v 8))), (.s (.dat (.b (.flt .f32)) (.v 11))), (.s (.dat (.b (.flt .f32)) (.v 14)))])])) .e .e)) .e)))) .e) .e)) .e) .e)) .e))))) noX Tryz.func63 (by kernel_rfl) (by kernel_rfl) (run549 rfl) (.cons s125 .nil)
theorem s41 : SoundCall Tryz.prog 41 q14 (G 453) := sound (l := []) (h := .e) noX Tryz.func41 (by kernel_rfl) (by kernel_rfl) run453 .nil
theorem s154 : SoundCall Tryz.prog 154 q14 (G 210) := sound (l := []) (h := .e) noX Tryz.func154 (by kernel_rfl) (by kernel_rfl) run210m .nil
theorem s126 : SoundCall Tryz.prog 126 ⟨[.ptr [.rd (.s1 eV), .rd (.s2 ei)]], [r2 ei 2 54]⟩ (G 413) := sound (l := [(41, 453, q14), (154, 210, q14)]) (h := (zn .e (zn .e (zn .e (zn (zn .e (.n (some (.mk 5 0 [(5, ji 6), (22, ji 7), (23, jm 0), (24, jm 0), (25, jm 1), (26, .c (.s (.dat (.s2 ei) (.v 1)))), (27, ji 8), (28, jb 9)] [(0, .row (.s1 (.mk false [.bool])) 4 (.v 5))])) (.n (some (.mk 2 0 [(5, ji 6)] [(0, .row (.s1 (.mk false [.bool])) 4 (.v 5))])) (zn .e (zn (zn (zn .e (zn .e (.n (some (.mk 4 0 [(7, ji 11), (38, ji 12), (39, jb 13)] [(0, .row (.s1 (.mk false [.bool])) 4 (.v 10))])) (.n (some (.mk 2 0 [(7, ji 11)] [(0, .row (.s1 (.mk false [.bool])) 4 (.v 10))])) .e .e) .e))) .e) .e)) .e) .e)) (zn .e (zn (zn .e (.n (some (.mk 4 1 [(10, jo 2), (11, ji 12), (64, ji 13), (65, ji 2), (66, jb 14)] [(1, .dead), (2, .rows ei 2 54 0 (.v 11))])) (.n (some (.mk 2 1 [(10, jo 2), (11, ji 12)] [(1, .dead), (2, .rows ei 2 54 0 (.v 11))])) (zn .e (zn (zn (zn .e (.n (some (.mk 4 1 [(10, jo 3), (12, ji 16), (71, ji 17), (72, ji 2), (73, jb 18)] [(2, .dead), (3, .rows ei 2 54 0 (.v 15))])) (.n (some (.mk 2 1 [(10, jo 3), (12, ji 16)] [(2, .dead), (3, .rows ei 2 54 0 (.v 15))])) (zn .e (zn (zn (zn .e (.n (some (.mk 1 1 [(10, jo 4)] [(3, .dead), (4, .rows ei 2 54 0 (.v 22))])) .e .e)) .e) .e)) .e) .e)) .e) .e)) .e) .e)) .e))))))) noX Tryz.func126 (by kernel_rfl) (by kernel_rfl) (run413 rfl rfl) (.cons s41 (.cons s154 .nil))
theorem s122 : SoundCall Tryz.prog 122 ⟨[p1 ei], [r1 ei 2]⟩ (G 143) := sound (l := []) (h := .e) noX Tryz.func122 (by kernel_rfl) (by kernel_rfl) run143s .nil
theorem s58 : SoundCall Tryz.prog 58 q7 (G 151) := sound (l := [(122, 143, ⟨[p1 ei], [r1 ei 2]⟩)]) (h := (zn .e (zn .e (zn (zn .e (.n (some (.mk 5 1 [(4, ji 6), (13, ji 7), (14, jm 0), (15, jm 0), (16, jm 1), (17, .c (.s (.dat (.s2 ei) (.v 1)))), (18, ji 8), (19, jb 9)] [(3, .dead), (4, .var [(.s (.own 2)), (.s (.own 5))]), (5, .rows ei 2 54 0 (.v 5))])) (.n (some (.mk 2 1 [(4, ji 6)] [(4, .var [(.s (.own 2)), (.s (.own 5))]), (3, .dead), (5, .rows ei 2 54 0 (.v 5))])) .e .e) .e)) .e)))) noX Tryz.func58 (by kernel_rfl) (by kernel_rfl) (run151s rfl) (.cons s122 .nil)
theorem s60 : SoundCall Tryz.prog 60 q0 (G 30) := sound (l := []) (h := .e) noX Tryz.func60 (by kernel_rfl) (by kernel_rfl) run30 .nil
theorem s99 : SoundCall Tryz.prog 99 q6 (G 31) := sound (l := []) (h := .e) noX Tryz.func99 (by kernel_rfl) (by kernel_rfl) run31 .nil
theorem s146 : SoundCall Tryz.prog 146 q5 (G 14) := sound (l := []) (h := .e) noX Tryz.func146 (by kernel_rfl) (by kernel_rfl) run14 .nil
theorem s159 : SoundCall Tryz.prog 159 q36 (G 9) := sound (X := [(175, .sqrt)]) (l := []) (h := .e) sqrtX Tryz.func159 (by kernel_rfl) (by kernel_rfl) run9 .nil
theorem s145 : SoundCall Tryz.prog 145 q37 (G 11) := sound (l := [(159, 9, q36), (151, 10, ⟨[pv f8], [rv f1]⟩)]) (h := .e) noX Tryz.func145 (by kernel_rfl) (by kernel_rfl) (run11' rfl rfl) (.cons s159 (.cons s151 .nil))
theorem s102 : SoundCall Tryz.prog 102 q16 (G 15) := sound (l := [(146, 14, q5), (145, 11, q37)]) (h := .e) noX Tryz.func102 (by kernel_rfl) (by kernel_rfl) (run15 rfl rfl) (.cons s146 (.cons s145 .nil))
theorem s127 : SoundCall Tryz.prog 127 ⟨[p2 ei, pv i8, pv i8], [rv i8]⟩ (G 552) := sound (l := [(41, 453, q14), (154, 210, q14)]) (h := (zn .e (zn (zn .e (.n (some (.mk 4 0 [(7, ji 3), (8, ji 4), (9, .c (.s (.dat (.s2 ei) (.v 0)))), (10, ji 5), (11, jb 6)] [])) (.n (some (.mk 1 0 [(7, ji 3)] [])) .e .e) .e)) .e))) noX Tryz.func127 (by kernel_rfl) (by kernel_rfl) (run552 rfl rfl) (.cons s41 (.cons s154 .nil))
theorem s64 : SoundCall Tryz.prog 64 ⟨[pv i8, pv f1], [(true, [.own (.row (.s1 eV) 40), .own (.rows ei 2 54)])]⟩ (G 551) := sound (l := [(126, 413, ⟨[.ptr [.rd (.s1 eV), .rd (.s2 ei)]], [r2 ei 2 54]⟩), (58, 151, q7), (60, 30, q0), (99, 31, q6), (102, 15, q16), (127, 552, ⟨[p2 ei, pv i8, pv i8], [rv i8]⟩)]) (h := (zn .e (zn .e (zn .e (zn .e (zn .e (zn .e (zn .e (zn (zn .e (.n (some (.mk 5 1 [(9, ji 27), (51, ji 28), (52, jo 12), (53, ji 29), (54, jb 30)] [(13, .dead), (15, .var [(.s (.own 16)), (.s (.own 14))]), (16, .row (.s1 eV) 40 (.v 26))])) (.n (some (.mk 2 1 [(9, ji 27)] [(15, .var [(.s (.own 16)), (.s (.own 14))]), (13, .dead), (16, .row (.s1 eV) 40 (.v 26))])) .e .e) .e)) (zn .e (zn (zn .e (.n (some (.mk 5 1 [(11, ji 33), (92, ji 34), (93, .c (.s (.vptr 2 1))), (94, jo 11), (95, ji 35), (96, jb 36)] [(15, .var [(.s (.own 16)), (.s (.own 18))]), (17, .dead), (18, .rows ei 2 54 0 (.v 32))])) (.n (some (.mk 2 1 [(11, ji 33)] [(15, .var [(.s (.own 16)), (.s (.own 18))]), (17, .dead), (18, .rows ei 2 54 0 (.v 32))])) .e .e) .e)) .e))))))))))) noX Tryz.func64 (by kernel_rfl) (by kernel_rfl) (run551 rfl rfl rfl rfl rfl rfl) (.cons s126 (.cons s58 (.cons s60 (.cons s99 (.cons s102 (.cons s127 .nil))))))
theorem s17 : SoundCall Tryz.prog 17 ⟨[pv i8], [(true, [.own (.row (.s1 eV) 40), .own (.rows ei 2 54)])]⟩ (G 544) := sound (l := [(61, 545, ⟨[pv i8, pv i8, pv f1], [(true, [.own (.row (.s1 eV) 40), .own (.rows ei 2 54)])]⟩), (62, 546, ⟨[pv i8, pv i8, pv f1, pv f1], [(true, [.own (.row (.s1 eV) 40), .own (.rows ei 2 54)])]⟩), (63, 549, ⟨[pv f1], [(true, [.own (.row (.s1 eV) 40), .own (.rows ei 2 54)]), rv .bool]⟩), (64, 551, ⟨[pv i8, pv f1], [(true, [.own (.row (.s1 eV) 40), .own (.rows ei 2 54)])]⟩)]) (h := (zn .e (zn .e (zn (zn .e (zn (zn .e (.n (some (.mk 2 2 [] [(1, .var [(.s (.own 2)), (.s (.own 3))]), (2, .row (.s1 eV) 40 (.v 2)), (3, .rows ei 2 54 0 (.v 3))])) .e (zn .e (.n (some (.mk 2 2 [] [(1, .var [(.s (.own 2)), (.s (.own 3))]), (2, .row (.s1 eV) 40 (.v 3)), (3, .rows ei 2 54 0 (.v 4))])) .e (zn .e (.n (some (.mk 2 2 [] [(1, .var [(.s (.own 2)), (.s (.own 3))]), (2, .row (.s1 eV) 40 (.v 4)), (3, .rows ei 2 54 0 (.v 5))])) .e (zn .e (.n (some (.mk 2 2 [] [(1, .var [(.s (.own 2)), (.s (.own 3))]), (2, .row (.s1 eV) 40 (.v 5)), (3, .rows ei 2 54 0 (.v 6))])) .e .e)))))))) .e)) .e)))) noX Tryz.func17 (by kernel_rfl) (by kernel_rfl) (run544 rfl rfl rfl rfl) (.cons s61 (.cons s62 (.cons s63 (.cons s64 .nil))))
theorem s57 : SoundCall Tryz.prog 57 ⟨[.val false [.rd (.s1 ⟨false, [.int .u8]⟩)]], [(false, [.own (.box [.s1 ⟨false, [.int .u8]⟩, .b (.int .i64), .b (.int .u64)])])]⟩ (G 540) := sound (l := []) (h := .e) noX Tryz.func57 (by kernel_rfl) (by kernel_rfl) run540 .nil
theorem s123 : SoundCall Tryz.prog 123 ⟨[.val false [.mt (.box [.s1 ⟨false, [.int .u8]⟩, .b (.int .i64), .b (.int .u64)]) true]], [rv i8]⟩ (G 541) := sound (l := []) (h := (zn .e (zn .e (zn (zn .e (.n (some (.mk 1 0 [(3, ji 5)] [])) .e .e)) .e)))) noX Tryz.func123 (by kernel_rfl) (by kernel_rfl) run541 .nil
theorem s59 : SoundCall Tryz.prog 59 ⟨[.val false [.mt (.box [.s1 ⟨false, [.int .u8]⟩, .b (.int .i64), .b (.int .u64)]) true], pv i8], [rv i8]⟩ (G 542) := sound (l := [(123, 541, ⟨[.val false [.mt (.box [.s1 ⟨false, [.int .u8]⟩, .b (.int .i64), .b (.int .u64)]) true]], [rv i8]⟩)]) (h := (zn .e (zn .e (zn .e (zn (zn .e (.n (some (.mk 2 0 [(5, ji 7)] [(0, .bx [(.s1 (.mk false [(.int .u8)])), (.b (.int .i64)), (.b (.int .u64))] (.v 6))])) .e .e)) .e))))) noX Tryz.func59 (by kernel_rfl) (by kernel_rfl) (run542 rfl) (.cons s123 .nil)
theorem s16 : SoundCall Tryz.prog 16 ⟨[.val false [.rd (.s1 ⟨false, [.int .u8]⟩)], .val true [.rd (.s1 eV), .rd (.s2 ei)]], [(true, [.own (.row (.s1 eV) 40), .own (.rows ei 2 54)])]⟩ (G 543) := sound (l := [(57, 540, ⟨[.val false [.rd (.s1 ⟨false, [.int .u8]⟩)]], [(false, [.own (.box [.s1 ⟨false, [.int .u8]⟩, .b (.int .i64), .b (.int .u64)])])]⟩), (58, 151, q7), (59, 542, ⟨[.val false [.mt (.box [.s1 ⟨false, [.int .u8]⟩, .b (.int .i64), .b (.int .u64)]) true], pv i8], [rv i8]⟩), (60, 30, q0)]) (h := (zn .e (zn .e (zn .e (zn (zn .e (.n (some (.mk 6 0 [(7, ji 8), (12, ji 9), (13, .c (.s (.vptr 5 0))), (14, jo 3), (15, ji 10), (16, jb 11)] [(2, .bx [(.s1 (.mk false [(.int .u8)])), (.b (.int .i64)), (.b (.int .u64))] (.v 6)), (3, .row (.s1 eV) 40 (.v 7))])) (.n (some (.mk 3 0 [(7, ji 8)] [(2, .bx [(.s1 (.mk false [(.int .u8)])), (.b (.int .i64)), (.b (.int .u64))] (.v 6)), (3, .row (.s1 eV) 40 (.v 7))])) .e .e) .e)) .e))))) noX Tryz.func16 (by kernel_rfl) (by kernel_rfl) (run543 rfl rfl rfl rfl) (.cons s57 (.cons s58 (.cons s59 (.cons s60 .nil))))
theorem s47 : SoundCall Tryz.prog 47 q29 (G 19) := sound (l := []) (h := .e) noX Tryz.func47 (by kernel_rfl) (by kernel_rfl) run19 .nil
theorem s67 : SoundCall Tryz.prog 67 q1 (G 150) := sound (l := [(47, 19, q29)]) (h := (zn .e (zn .e (zn .e (zn (zn .e (.n (some (.mk 2 0 [(14, ju), (15, ju), (16, ju), (17, ju), (22, ji 9), (23, jb 10)] [])) (.n (some (.mk 1 0 [(14, ju), (15, ju), (16, ju), (17, ju), (22, ji 9)] [])) (zn .e (zn .e (zn (zn (zn .e (zn .e (zn .e (.n (some (.mk 2 0 [(30, ju), (31, ju), (32, ju), (33, ju), (34, ju), (35, ju), (36, ju), (39, ju), (40, ju), (41, ju), (42, ju), (43, ju), (44, ju), (45, ju), (48, ju), (49, ju), (50, ju), (51, ju), (52, ju), (53, ju), (54, ju), (58, ji 39), (59, jb 40)] [])) (.n (some (.mk 1 0 [(30, ju), (31, ju), (32, ju), (33, ju), (34, ju), (35, ju), (36, ju), (39, ju), (40, ju), (41, ju), (42, ju), (43, ju), (44, ju), (45, ju), (48, ju), (49, ju), (50, ju), (51, ju), (52, ju), (53, ju), (54, ju), (58, ji 39)] [])) .e .e) .e)))) .e) .e))) .e) .e)) .e))))) noX Tryz.func67 (by kernel_rfl) (by kernel_rfl) (run150 rfl) (.cons s47 .nil)
theorem s72 : SoundCall Tryz.prog 72 q11 (G 400) := sound (l := []) (h := .e) noX Tryz.func72 (by kernel_rfl) (by kernel_rfl) run400 .nil
theorem s191 : SoundCall Tryz.prog 191 ⟨[pv i8], [rv .bool]⟩ (G 452) := sound (l := []) (h := .e) noX Tryz.func191 (by kernel_rfl) (by kernel_rfl) run452 .nil
theorem s174 : SoundCall Tryz.prog 174 q14 (G 451) := sound (l := [(191, 452, ⟨[pv i8], [rv .bool]⟩)]) (h := .e) noX Tryz.func174 (by kernel_rfl) (by kernel_rfl) (run451 rfl) (.cons s191 .nil)
theorem s157 : SoundCall Tryz.prog 157 ⟨[p1 ei, p1 ei], [rv i8]⟩ (G 450) := sound (l := [(174, 451, q14)]) (h := (zn .e (zn (zn .e (.n (some (.mk 2 0 [(11, ji 3), (12, jb 4)] [])) (.n (some (.mk 1 0 [(11, ji 3)] [])) .e .e) .e)) .e))) noX Tryz.func157 (by kernel_rfl) (by kernel_rfl) (run450 rfl) (.cons s174 .nil)
theorem s129 : SoundCall Tryz.prog 129 ⟨[.val true [.rd (.b i8), .rd (.b i8)], .val true [.rd (.b i8), .rd (.b i8)]], [rv i8]⟩ (G 449) := sound (l := [(157, 450, ⟨[p1 ei, p1 ei], [rv i8]⟩)]) (h := .e) noX Tryz.func129 (by kernel_rfl) (by kernel_rfl) (run449 rfl) (.cons s157 .nil)
def srt_ren : Go.Shelf.Ren := ⟨fun | 6 => 128 | 15 => 156 | 14 => 155 | 28 => 172 | 29 => 173 | 20 => 164 | 21 => 165 | 22 => 166 | 23 => 167 | 24 => 168 | 25 => 169 | 26 => 170 | 27 => 171 | 46 => 186 | 47 => 187 | 48 => 188 | 49 => 189 | 50 => 190 | 57 => 195 | n => n, fun | 22 => 113 | 24 => 119 | 25 => 166 | 3 => 3 | 39 => 180 | 0 => 0 | 53 => 199 | 55 => 158 | 4 => 4 | 46 => 192 | 45 => 191 | 50 => 196 | 5 => 5 | 9 => 9 | 66 => 209 | 70 => 213 | 76 => 218 | 77 => 219 | n => n, fun n => n⟩
theorem srt : SlLaysF0.n6 Tryz.prog srt_ren where
 mixed := by kernel_rfl
 f6 := ⟨Tryz.f128.name, by kernel_rfl, Tryz.func128.trans (congrArg some (by kernel_rfl))⟩
 f14 := ⟨Tryz.f155.name, by kernel_rfl, Tryz.func155.trans (congrArg some (by kernel_rfl))⟩
 f15 := Tryz.func156.trans (congrArg some (by kernel_rfl))
 f20 := ⟨Tryz.f164.name, by kernel_rfl, Tryz.func164.trans (congrArg some (by kernel_rfl))⟩
 f21 := ⟨Tryz.f165.name, by kernel_rfl, Tryz.func165.trans (congrArg some (by kernel_rfl))⟩
 f22 := ⟨Tryz.f166.name, by kernel_rfl, Tryz.func166.trans (congrArg some (by kernel_rfl))⟩
 f23 := ⟨Tryz.f167.name, by kernel_rfl, Tryz.func167.trans (congrArg some (by kernel_rfl))⟩
 f24 := ⟨Tryz.f168.name, by kernel_rfl, Tryz.func168.trans (congrArg some (by kernel_rfl))⟩
 f25 := ⟨Tryz.f169.name, by kernel_rfl, Tryz.func169.trans (congrArg some (by kernel_rfl))⟩
 f26 := ⟨Tryz.f170.name, by kernel_rfl, Tryz.func170.trans (congrArg some (by kernel_rfl))⟩
 f27 := ⟨Tryz.f171.name, by kernel_rfl, Tryz.func171.trans (congrArg some (by kernel_rfl))⟩
 f28 := Tryz.func172.trans (congrArg some (by kernel_rfl))
 f29 := Tryz.func173.trans (congrArg some (by kernel_rfl))
 f46 := ⟨Tryz.f186.name, by kernel_rfl, Tryz.func186.trans (congrArg some (by kernel_rfl))⟩
 f47 := Tryz.func187.trans (congrArg some (by kernel_rfl))
 f48 := Tryz.func188.trans (congrArg some (by kernel_rfl))
 f49 := ⟨Tryz.f189.name, by kernel_rfl, Tryz.func189.trans (congrArg some (by kernel_rfl))⟩
 f50 := ⟨Tryz.f190.name, by kernel_rfl, Tryz.func190.trans (congrArg some (by kernel_rfl))⟩
 f57 := ⟨Tryz.f195.name, by kernel_rfl, Tryz.func195.trans (congrArg some (by kernel_rfl))⟩
 t0 := Tryz.underlying0
 a0 := Tryz.isAgg0
 z0 := Tryz.sizeOf0
 v0 := Tryz.zeroValue0
 t3 := Tryz.underlying3
 a3 := Tryz.isAgg3
 z3 := Tryz.sizeOf3
 v3 := Tryz.zeroValue3
 t4 := Tryz.underlying4
 a4 := Tryz.isAgg4
 z4 := Tryz.sizeOf4
 v4 := Tryz.zeroValue4
 t5 := Tryz.underlying5
 a5 := Tryz.isAgg5
 z5 := Tryz.sizeOf5
 v5 := Tryz.zeroValue5
 t9 := Tryz.underlying9
 a9 := Tryz.isAgg9
 z9 := Tryz.sizeOf9
 v9 := Tryz.zeroValue9
 t22 := Tryz.underlying113
 a22 := Tryz.isAgg113
 z22 := Tryz.sizeOf113
 v22 := Tryz.zeroValue113
 t25 := Tryz.underlying166
 a25 := Tryz.isAgg166
 z25 := Tryz.sizeOf166
 v25 := Tryz.zeroValue166
 t39 := Tryz.underlying180
 a39 := Tryz.isAgg180
 z39 := Tryz.sizeOf180
 v39 := Tryz.zeroValue180
 t45 := Tryz.underlying191
 a45 := Tryz.isAgg191
 z45 := Tryz.sizeOf191
 v45 := Tryz.zeroValue191
 t46 := Tryz.underlying192
 a46 := Tryz.isAgg192
 z46 := Tryz.sizeOf192
 v46 := Tryz.zeroValue192
 t50 := Tryz.underlying196
 a50 := Tryz.isAgg196
 z50 := Tryz.sizeOf196
 v50 := Tryz.zeroValue196
 t53 := Tryz.underlying199
 a53 := Tryz.isAgg199
 z53 := Tryz.sizeOf199
 v53 := Tryz.zeroValue199
 t55 := Tryz.underlying158
 a55 := Tryz.isAgg158
 z55 := Tryz.sizeOf158
 v55 := Tryz.zeroValue158
 t66 := Tryz.underlying209
 a66 := Tryz.isAgg209
 z66 := Tryz.sizeOf209
 v66 := Tryz.zeroValue209
 t70 := Tryz.underlying213
 a70 := Tryz.isAgg213
 z70 := Tryz.sizeOf213
 v70 := Tryz.zeroValue213
 t76 := Tryz.underlying218
 a76 := Tryz.isAgg218
 z76 := Tryz.sizeOf218
 v76 := Tryz.zeroValue218
 t77 := Tryz.underlying219
 a77 := Tryz.isAgg219
 z77 := Tryz.sizeOf219
 v77 := Tryz.zeroValue219
theorem cmpF : ∀ x y : Int × Int, G 449 [.int x.1, .int x.2, .int y.1, .int y.2] = some [.int (cmpE x y)] := fun _ _ => rfl
theorem s128 : SoundCall Tryz.prog 128 ⟨[m1 ⟨true, [i8, i8]⟩ 119 true, .fn 129 []], []⟩ (G 402) := sortFunc_sound srt Tryz.isAgg119 Tryz.sizeOf119 s129 cmpF
theorem s69 : SoundCall Tryz.prog 69 q3 (G 401) := sound (l := [(72, 400, q11), (128, 402, ⟨[m1 ⟨true, [i8, i8]⟩ 119 true, .fn 129 []], []⟩)]) (h := (zn .e (zn .e (zn (zn .e (.n (some (.mk 4 1 [(5, jo 3), (15, ji 6), (16, jb 7)] [(1, .map (.mk 112 119 2 (.s ei 2)) 0 (.v 4) none), (2, .dead), (3, .row (.s1 (.mk true [(.int .i64), (.int .i64)])) 119 (.v 5))])) (.n (some (.mk 3 1 [(5, jo 3), (15, ji 6)] [(1, .map (.mk 112 119 2 (.s ei 2)) 0 (.v 4) none), (2, .dead), (3, .row (.s1 (.mk true [(.int .i64), (.int .i64)])) 119 (.v 5))])) (zn .e (zn .e (zn (zn (zn .e (zn .e (.n (some (.mk 4 1 [(5, jo 4), (20, ji 11), (21, jb 12)] [(1, .map (.mk 112 119 2 (.s ei 2)) 0 (.v 9) none), (3, .dead), (4, .row (.s1 (.mk true [(.int .i64), (.int .i64)])) 119 (.v 10))])) (.n (some (.mk 3 1 [(5, jo 4), (20, ji 11)] [(1, .map (.mk 112 119 2 (.s ei 2)) 0 (.v 9) none), (3, .dead), (4, .row (.s1 (.mk true [(.int .i64), (.int .i64)])) 119 (.v 10))])) (zn .e (zn .e (zn (zn (zn .e (zn .e (zn (zn .e (.n (some (.mk 1 1 [(5, jo 6)] [(4, .dead), (6, .row (.s1 (.mk true [(.int .i64), (.int .i64)])) 119 (.v 23))])) .e .e)) .e))) .e) .e))) .e) .e))) .e) .e))) .e) .e)) .e)))) noX Tryz.func69 (by kernel_rfl) (by kernel_rfl) (run401 rfl rfl) (.cons s72 (.cons s128 .nil))
theorem s81 : SoundCall Tryz.prog 81 ⟨[p1 ⟨true, [i8, i8]⟩], [r2 ei 2 54]⟩ (G 554) := sound (l := []) (h := (zn .e (zn .e (zn (zn .e (.n (some (.mk 3 1 [(3, jo 1), (9, ji 4), (10, jb 5)] [(0, .dead), (1, .rows ei 2 54 0 (.v 3))])) (.n (some (.mk 2 1 [(3, jo 1), (9, ji 4)] [(0, .dead), (1, .rows ei 2 54 0 (.v 3))])) .e .e) .e)) .e)))) noX Tryz.func81 (by kernel_rfl) (by kernel_rfl) run554 .nil
theorem s26 : SoundCall Tryz.prog 26 ⟨[.val true [.rd (.s1 eV), .rd (.s2 ei)]], [r2 ei 2 54, rv .bool]⟩ (G 553) := sound (l := [(67, 150, q1), (69, 401, q3), (81, 554, ⟨[p1 ⟨true, [i8, i8]⟩], [r2 ei 2 54]⟩)]) (h := .e) noX Tryz.func26 (by kernel_rfl) (by kernel_rfl) (run553 rfl rfl rfl) (.cons s67 (.cons s69 (.cons s81 .nil)))
theorem s82 : SoundCall Tryz.prog 82 q17 (G 409) := sound (l := [(67, 150, q1), (47, 19, q29)]) (h := .e) noX Tryz.func82 (by kernel_rfl) (by kernel_rfl) (run409 rfl rfl) (.cons s67 (.cons s47 .nil))
theorem s158 : SoundCall Tryz.prog 158 ⟨[p1 ei, pv i8], [rv i8]⟩ (G 442) := sound (l := []) (h := (zn .e (zn (zn .e (.n (some (.mk 2 0 [(8, ji 3), (9, jb 4)] [])) (.n (some (.mk 1 0 [(8, ji 3)] [])) .e .e) .e)) .e))) noX Tryz.func158 (by kernel_rfl) (by kernel_rfl) run442 .nil
theorem s137 : SoundCall Tryz.prog 137 q34 (G 441) := sound (l := [(158, 442, ⟨[p1 ei, pv i8], [rv i8]⟩)]) (h := .e) noX Tryz.func137 (by kernel_rfl) (by kernel_rfl) (run441 rfl) (.cons s158 .nil)
theorem s83 : SoundCall Tryz.prog 83 q8 (G 411) := sound (l := [(137, 441, q34)]) (h := (zn .e (zn .e (zn (zn .e (.n (some (.mk 3 1 [(5, jo 2), (15, ji 6), (16, jb 7)] [(1, .dead), (2, .row (.s1 ei) 2 (.v 5))])) (.n (some (.mk 2 1 [(5, jo 2), (15, ji 6)] [(1, .dead), (2, .row (.s1 ei) 2 (.v 5))])) (zn .e (zn .e (zn (zn (zn .e (zn .e (zn (zn .e (.n (some (.mk 3 0 [(8, jb 10), (22, ji 11), (23, jb 12)] [])) (.n (some (.mk 2 0 [(8, jb 10), (22, ji 11)] [])) .e .e) .e)) (zn .e (.n (some (.mk 1 1 [(5, jo 3)] [(2, .dead), (3, .row (.s1 ei) 2 (.v 13))])) .e .e))))) .e) .e))) .e) .e)) .e)))) noX Tryz.func83 (by kernel_rfl) (by kernel_rfl) (run411 rfl) (.cons s137 .nil)
theorem s27 : SoundCall Tryz.prog 27 ⟨[.val true [.rd (.s1 eV), .rd (.s2 ei)], pv i8, pv i8], [r1 ei 2, rv .bool]⟩ (G 555) := sound (l := [(82, 409, q17), (83, 411, q8)]) (h := .e) noX Tryz.func27 (by kernel_rfl) (by kernel_rfl) (run555 rfl rfl) (.cons s82 (.cons s83 .nil))
theorem s22 : SoundCall Tryz.prog 22 q1 (G 403) := sound (l := [(67, 150, q1), (72, 400, q11)]) (h := (zn .e (zn .e (zn .e (zn (zn .e (.n (some (.mk 4 0 [(18, ji 7), (19, jb 8)] [(1, .map (.mk 116 119 2 (.b .bool)) 0 (.v 5) none), (2, .map (.mk 117 119 2 (.b (.int .i64))) 0 (.v 6) none)])) (.n (some (.mk 3 0 [(18, ji 7)] [(1, .map (.mk 116 119 2 (.b .bool)) 0 (.v 5) none), (2, .map (.mk 117 119 2 (.b (.int .i64))) 0 (.v 6) none)])) (zn .e (zn .e (zn (zn (zn .e (zn .e (.n (some (.mk 4 0 [(22, ji 12), (23, jb 13)] [(1, .map (.mk 116 119 2 (.b .bool)) 0 (.v 10) none), (2, .map (.mk 117 119 2 (.b (.int .i64))) 0 (.v 11) none)])) (.n (some (.mk 3 0 [(22, ji 12)] [(1, .map (.mk 116 119 2 (.b .bool)) 0 (.v 10) none), (2, .map (.mk 117 119 2 (.b (.int .i64))) 0 (.v 11) none)])) .e .e) .e))) .e) .e))) .e) .e)) .e))))) noX Tryz.func22 (by kernel_rfl) (by kernel_rfl) (run403 rfl rfl) (.cons s67 (.cons s72 .nil))
theorem s84 : SoundCall Tryz.prog 84 q2 (G 410) := sound (l := [(22, 403, q1), (82, 409, q17)]) (h := .e) noX Tryz.func84 (by kernel_rfl) (by kernel_rfl) (run410 rfl rfl) (.cons s22 (.cons s82 .nil))
theorem s66 : SoundCall Tryz.prog 66 ⟨[.val true [.rd (.s1 eV), .rd (.s2 ei)]], [(true, [.own (.row (.s1 eV) 40), .own (.rows ei 2 54)])]⟩ (G 151) := sound (l := []) (h := (zn .e (zn .e (zn (zn .e (.n (some (.mk 3 1 [(14, ji 6), (15, jb 7)] [(4, .var [(.s (.own 3)), (.s (.own 5))]), (5, .rows ei 2 54 0 (.v 5))])) (.n (some (.mk 2 1 [(14, ji 6)] [(4, .var [(.s (.own 3)), (.s (.own 5))]), (5, .rows ei 2 54 0 (.v 5))])) .e .e) .e)) .e)))) noX Tryz.func66 (by kernel_rfl) (by kernel_rfl) run151 .nil
theorem s116 : SoundCall Tryz.prog 116 q0 (G 13) := sound (l := []) (h := .e) noX Tryz.func116 (by kernel_rfl) (by kernel_rfl) run13 .nil
theorem s112 : SoundCall Tryz.prog 112 q6 (G 31) := sound (l := []) (h := .e) noX Tryz.func112 (by kernel_rfl) (by kernel_rfl) run31 .nil
theorem s111 : SoundCall Tryz.prog 111 q0 (G 30) := sound (l := []) (h := .e) noX Tryz.func111 (by kernel_rfl) (by kernel_rfl) run30 .nil
theorem s85 : SoundCall Tryz.prog 85 ⟨[.val true [.rd (.b f1), .rd (.b f1), .rd (.b f1)], .val true [.rd (.b f1), .rd (.b f1), .rd (.b f1)], pv f1], [(true, [.cell f1, .cell f1, .cell f1])]⟩ (G 424) := sound (l := [(116, 13, q0), (112, 31, q6), (111, 30, q0)]) (h := .e) noX Tryz.func85 (by kernel_rfl) (by kernel_rfl) (run424 rfl rfl rfl) (.cons s116 (.cons s112 (.cons s111 .nil)))
theorem s86 : SoundCall Tryz.prog 86 ⟨[p1 ei, .val true [.rd (.b i8), .rd (.b i8)]], [rv i8]⟩ (G 408) := sound (l := []) (h := .e) noX Tryz.func86 (by kernel_rfl) (by kernel_rfl) run408 .nil
theorem s87 : SoundCall Tryz.prog 87 ⟨[p1 ei, pv i8, pv i8], [rv .bool]⟩ (G 407) := sound (l := []) (h := (zn .e (zn (zn .e (.n (some (.mk 2 0 [(8, ji 3), (9, jb 4)] [])) (.n (some (.mk 1 0 [(8, ji 3)] [])) .e .e) .e)) .e))) noX Tryz.func87 (by kernel_rfl) (by kernel_rfl) run407 .nil
theorem s28 : SoundCall Tryz.prog 28 ⟨[.val true [.rd (.s1 eV), .rd (.s2 ei)], pv i8, pv i8, pv f1], [(true, [.own (.row (.s1 eV) 40), .own (.rows ei 2 54)]), rv .bool]⟩ (G 422) := sound (l := [(84, 410, q2), (83, 411, q8), (66, 151, ⟨[.val true [.rd (.s1 eV), .rd (.s2 ei)]], [(true, [.own (.row (.s1 eV) 40), .own (.rows ei 2 54)])]⟩), (85, 424, ⟨[.val true [.rd (.b f1), .rd (.b f1), .rd (.b f1)], .val true [.rd (.b f1), .rd (.b f1), .rd (.b f1)], pv f1], [(true, [.cell f1, .cell f1, .cell f1])]⟩), (72, 400, q11), (86, 408, ⟨[p1 ei, .val true [.rd (.b i8), .rd (.b i8)]], [rv i8]⟩), (87, 407, ⟨[p1 ei, pv i8, pv i8], [rv .bool]⟩), (22, 403, q1)]) (h := (zn .e (zn .e (zn .e (zn .e (zn .e (zn .e (zn .e (zn (zn .e (.n (some (.mk 3 1 [(22, ju), (23, ju), (24, ju), (25, ju), (26, ju), (27, ju), (28, ju), (64, ji 38), (65, jb 39)] [(5, .dead), (6, .var [(.s (.own 8)), (.s (.own 9))]), (9, .rows ei 2 54 0 (.v 37))])) (.n (some (.mk 2 1 [(22, ju), (23, ju), (24, ju), (25, ju), (26, ju), (27, ju), (28, ju), (64, ji 38)] [(6, .var [(.s (.own 8)), (.s (.own 9))]), (5, .dead), (9, .rows ei 2 54 0 (.v 37))])) (zn .e (zn .e (zn (zn (zn .e (zn .e (zn .e (.n (some (.mk 1 1 [] [(6, .var [(.s (.own 8)), (.s (.own 10))]), (9, .dead), (10, .rows ei 2 54 0 (.v 48))])) .e .e)))) .e) .e))) .e) .e)) .e))))))))) noX Tryz.func28 (by kernel_rfl) (by kernel_rfl) (run422 rfl rfl rfl rfl rfl rfl rfl rfl) (.cons s84 (.cons s83 (.cons s66 (.cons s85 (.cons s72 (.cons s86 (.cons s87 (.cons s22 .nil))))))))
theorem s68 : SoundCall Tryz.prog 68 ⟨[.val true [.rd (.s1 eV), .rd (.s2 ei)]], [r1 eb 4]⟩ (G 169) := sound (l := []) (h := (zn .e (zn .e (zn (zn .e (.n (some (.mk 3 0 [(15, ji 6), (16, jb 7)] [(1, .row (.s1 (.mk false [.bool])) 4 (.v 5))])) (.n (some (.mk 2 0 [(15, ji 6)] [(1, .row (.s1 (.mk false [.bool])) 4 (.v 5))])) (zn .e (zn .e (zn (zn (zn .e (zn .e (.n (some (.mk 3 0 [(21, ji 11), (22, jb 12)] [(1, .row (.s1 (.mk false [.bool])) 4 (.v 10))])) (.n (some (.mk 2 0 [(21, ji 11)] [(1, .row (.s1 (.mk false [.bool])) 4 (.v 10))])) .e .e) .e))) .e) .e))) .e) .e)) .e)))) noX Tryz.func68 (by kernel_rfl) (by kernel_rfl) run169 .nil
theorem s20 : SoundCall Tryz.prog 20 q18 (G 445) := sound (l := [(67, 150, q1), (68, 169, ⟨[.val true [.rd (.s1 eV), .rd (.s2 ei)]], [r1 eb 4]⟩), (69, 401, q3)]) (h := (zn .e (zn .e (zn .e (zn (zn .e (.n (some (.mk 3 0 [(4, ji 7), (18, ji 8), (19, jb 9)] [])) (.n (some (.mk 2 0 [(4, ji 7), (18, ji 8)] [])) (zn .e (zn .e (zn (zn (zn .e (zn .e (.n (some (.mk 1 0 [(4, ji 12)] [])) .e .e))) .e) .e))) .e) .e)) .e))))) noX Tryz.func20 (by kernel_rfl) (by kernel_rfl) (run445 rfl rfl rfl) (.cons s67 (.cons s68 (.cons s69 .nil)))
theorem s115 : SoundCall Tryz.prog 115 q0 (G 158) := sound (l := []) (h := .e) noX Tryz.func115 (by kernel_rfl) (by kernel_rfl) run158 .nil
theorem s89 : SoundCall Tryz.prog 89 ⟨[.val true [.rd (.s1 eV), .rd (.s2 ei)], p1 ei], [(true, [.cell f1, .cell f1, .cell f1])]⟩ (G 160) := sound (l := [(116, 13, q0), (115, 158, q0)]) (h := .e) noX Tryz.func89 (by kernel_rfl) (by kernel_rfl) (run160 rfl rfl) (.cons s116 (.cons s115 .nil))
theorem s139 : SoundCall Tryz.prog 139 q5 (G 14) := sound (l := []) (h := .e) noX Tryz.func139 (by kernel_rfl) (by kernel_rfl) run14 .nil
theorem s138 : SoundCall Tryz.prog 138 q37 (G 11) := sound (l := [(159, 9, q36)]) (h := .e) noX Tryz.func138 (by kernel_rfl) (by kernel_rfl) (run11 rfl) (.cons s159 .nil)
theorem s88 : SoundCall Tryz.prog 88 q16 (G 15) := sound (l := [(139, 14, q5), (138, 11, q37)]) (h := .e) noX Tryz.func88 (by kernel_rfl) (by kernel_rfl) (run15 rfl rfl) (.cons s139 (.cons s138 .nil))
theorem s29 : SoundCall Tryz.prog 29 ⟨[.val true [.rd (.s1 eV), .rd (.s2 ei)]], [rv f1, rv .bool]⟩ (G 576) := sound (l := [(67, 150, q1), (89, 160, ⟨[.val true [.rd (.s1 eV), .rd (.s2 ei)], p1 ei], [(true, [.cell f1, .cell f1, .cell f1])]⟩), (88, 15, q16)]) (h := (zn .e (zn .e (zn .e (zn (zn .e (.n (some (.mk 3 0 [(4, jf 5), (13, ji 6), (14, jb 7)] [])) (.n (some (.mk 2 0 [(4, jf 5), (13, ji 6)] [])) .e .e) .e)) .e))))) noX Tryz.func29 (by kernel_rfl) (by kernel_rfl) (run576 rfl rfl rfl) (.cons s67 (.cons s89 (.cons s88 .nil)))
def srd_ren : Go.Shelf.Ren := ⟨fun | 45 => 140 | n => n, fun | 22 => 34 | 23 => 40 | 3 => 3 | 4 => 4 | 0 => 0 | n => n, fun n => n⟩
theorem srd : SlLaysE0.n45 Tryz.prog srd_ren where
 mixed := by kernel_rfl
 f45 := ⟨Tryz.f140.name, by kernel_rfl, Tryz.func140.trans (congrArg some (by kernel_rfl))⟩
 t0 := Tryz.underlying0
 a0 := Tryz.isAgg0
 z0 := Tryz.sizeOf0
 v0 := Tryz.zeroValue0
 t3 := Tryz.underlying3
 a3 := Tryz.isAgg3
 z3 := Tryz.sizeOf3
 v3 := Tryz.zeroValue3
 t4 := Tryz.underlying4
 a4 := Tryz.isAgg4
 z4 := Tryz.sizeOf4
 v4 := Tryz.zeroValue4
 t22 := Tryz.underlying34
 a22 := Tryz.isAgg34
 z22 := Tryz.sizeOf34
 v22 := Tryz.zeroValue34
set_option maxRecDepth 100000 in
theorem s140 : SoundCall Tryz.prog 140 ⟨[m1 eV 40 false, pv i8, pv i8], [r1 eV 40]⟩ (G 440) := delete_sound srd rfl Tryz.sizeOf40 _ (.float .f32 0) Tryz.zeroValue40 rfl rfl _ rfl rfl
theorem s90 : SoundCall Tryz.prog 90 q4 (G 439) := sound (l := [(140, 440, ⟨[m1 eV 40 false, pv i8, pv i8], [r1 eV 40]⟩), (137, 441, q34)]) (h := (zn .e (zn .e (zn (zn .e (.n (some (.mk 3 1 [(25, ji 10), (26, jb 11)] [(5, .var [(.s (.own 4)), (.s (.own 6))]), (6, .rows ei 2 54 0 (.v 9))])) (.n (some (.mk 2 1 [(25, ji 10)] [(5, .var [(.s (.own 4)), (.s (.own 6))]), (6, .rows ei 2 54 0 (.v 9))])) (zn .e (zn .e (zn (.n (some (.mk 7 1 [(9, .c (.s (.dat (.s1 ei) (.v 13)))), (28, .c (.s (.dat (.s1 ei) (.v 14)))), (29, .c (.s (.dat (.s1 ei) (.v 15)))), (30, ji 2), (31, jb 16), (32, jb 17), (36, jb 18)] [(5, .var [(.s (.own 4)), (.s (.own 7))]), (6, .dead), (7, .rows ei 2 54 0 (.v 12))])) (zn .e (zn .e (zn .e (zn (zn .e (.n (some (.mk 3 1 [(10, jo 8), (33, ju), (34, ju), (35, ju), (40, ji 21), (41, jb 22)] [(7, .dead), (8, .row (.s1 ei) 2 (.v 20))])) (.n (some (.mk 2 1 [(10, jo 8), (33, ju), (34, ju), (35, ju), (40, ji 21)] [(7, .dead), (8, .row (.s1 ei) 2 (.v 20))])) (zn .e (zn .e (zn (zn (zn .e (zn (zn .e (.n (some (.mk 1 0 [(12, ji 25)] [])) .e .e)) (zn (zn .e (.n (some (.mk 1 0 [(12, ji 27)] [])) .e .e)) .e))) .e) .e))) .e) .e)) .e)))) .e) .e))) .e) .e)) .e)))) noX Tryz.func90 (by kernel_rfl) (by kernel_rfl) (run439 rfl rfl) (.cons s140 (.cons s137 .nil))
def sri_ren : Go.Shelf.Ren := ⟨fun | 53 => 142 | 64 => 156 | 63 => 161 | 78 => 172 | 79 => 173 | 70 => 176 | 71 => 177 | 72 => 178 | 73 => 179 | 74 => 180 | 75 => 181 | 59 => 182 | 76 => 183 | 77 => 184 | 88 => 192 | 89 => 187 | 90 => 188 | 91 => 193 | 92 => 194 | 68 => 191 | 96 => 196 | n => n, fun | 22 => 54 | 23 => 2 | 3 => 3 | 51 => 180 | 0 => 0 | 67 => 199 | 69 => 158 | 4 => 4 | 61 => 192 | 60 => 191 | 44 => 196 | 5 => 5 | 9 => 9 | 75 => 209 | 79 => 213 | 83 => 218 | 84 => 219 | n => n, fun n => n⟩
theorem sri : SlLaysN.n53 Tryz.prog sri_ren where
 mixed := by kernel_rfl
 f53 := ⟨Tryz.f142.name, by kernel_rfl, Tryz.func142.trans (congrArg some (by kernel_rfl))⟩
 f59 := ⟨Tryz.f182.name, by kernel_rfl, Tryz.func182.trans (congrArg some (by kernel_rfl))⟩
 f63 := ⟨Tryz.f161.name, by kernel_rfl, Tryz.func161.trans (congrArg some (by kernel_rfl))⟩
 f64 := Tryz.func156.trans (congrArg some (by kernel_rfl))
 f68 := ⟨Tryz.f191.name, by kernel_rfl, Tryz.func191.trans (congrArg some (by kernel_rfl))⟩
 f70 := ⟨Tryz.f176.name, by kernel_rfl, Tryz.func176.trans (congrArg some (by kernel_rfl))⟩
 f71 := ⟨Tryz.f177.name, by kernel_rfl, Tryz.func177.trans (congrArg some (by kernel_rfl))⟩
 f72 := ⟨Tryz.f178.name, by kernel_rfl, Tryz.func178.trans (congrArg some (by kernel_rfl))⟩
 f73 := ⟨Tryz.f179.name, by kernel_rfl, Tryz.func179.trans (congrArg some (by kernel_rfl))⟩
 f74 := ⟨Tryz.f180.name, by kernel_rfl, Tryz.func180.trans (congrArg some (by kernel_rfl))⟩
 f75 := ⟨Tryz.f181.name, by kernel_rfl, Tryz.func181.trans (congrArg some (by kernel_rfl))⟩
 f76 := ⟨Tryz.f183.name, by kernel_rfl, Tryz.func183.trans (congrArg some (by kernel_rfl))⟩
 f77 := ⟨Tryz.f184.name, by kernel_rfl, Tryz.func184.trans (congrArg some (by kernel_rfl))⟩
 f78 := Tryz.func172.trans (congrArg some (by kernel_rfl))
 f79 := Tryz.func173.trans (congrArg some (by kernel_rfl))
 f88 := ⟨Tryz.f192.name, by kernel_rfl, Tryz.func192.trans (congrArg some (by kernel_rfl))⟩
 f89 := Tryz.func187.trans (congrArg some (by kernel_rfl))
 f90 := Tryz.func188.trans (congrArg some (by kernel_rfl))
 f91 := ⟨Tryz.f193.name, by kernel_rfl, Tryz.func193.trans (congrArg some (by kernel_rfl))⟩
 f92 := ⟨Tryz.f194.name, by kernel_rfl, Tryz.func194.trans (congrArg some (by kernel_rfl))⟩
 f96 := ⟨Tryz.f196.name, by kernel_rfl, Tryz.func196.trans (congrArg some (by kernel_rfl))⟩
 t0 := Tryz.underlying0
 a0 := Tryz.isAgg0
 z0 := Tryz.sizeOf0
 v0 := Tryz.zeroValue0
 t3 := Tryz.underlying3
 a3 := Tryz.isAgg3
 z3 := Tryz.sizeOf3
 v3 := Tryz.zeroValue3
 t4 := Tryz.underlying4
 a4 := Tryz.isAgg4
 z4 := Tryz.sizeOf4
 v4 := Tryz.zeroValue4
 t5 := Tryz.underlying5
 a5 := Tryz.isAgg5
 z5 := Tryz.sizeOf5
 v5 := Tryz.zeroValue5
 t9 := Tryz.underlying9
 a9 := Tryz.isAgg9
 z9 := Tryz.sizeOf9
 v9 := Tryz.zeroValue9
 t22 := Tryz.underlying54
 a22 := Tryz.isAgg54
 z22 := Tryz.sizeOf54
 v22 := Tryz.zeroValue54
 t23 := Tryz.underlying2
 a23 := Tryz.isAgg2
 z23 := Tryz.sizeOf2
 v23 := Tryz.zeroValue2
 t44 := Tryz.underlying196
 a44 := Tryz.isAgg196
 z44 := Tryz.sizeOf196
 v44 := Tryz.zeroValue196
 t51 := Tryz.underlying180
 a51 := Tryz.isAgg180
 z51 := Tryz.sizeOf180
 v51 := Tryz.zeroValue180
 t60 := Tryz.underlying191
 a60 := Tryz.isAgg191
 z60 := Tryz.sizeOf191
 v60 := Tryz.zeroValue191
 t61 := Tryz.underlying192
 a61 := Tryz.isAgg192
 z61 := Tryz.sizeOf192
 v61 := Tryz.zeroValue192
 t67 := Tryz.underlying199
 a67 := Tryz.isAgg199
 z67 := Tryz.sizeOf199
 v67 := Tryz.zeroValue199
 t69 := Tryz.underlying158
 a69 := Tryz.isAgg158
 z69 := Tryz.sizeOf158
 v69 := Tryz.zeroValue158
 t75 := Tryz.underlying209
 a75 := Tryz.isAgg209
 z75 := Tryz.sizeOf209
 v75 := Tryz.zeroValue209
 t79 := Tryz.underlying213
 a79 := Tryz.isAgg213
 z79 := Tryz.sizeOf213
 v79 := Tryz.zeroValue213
 t83 := Tryz.underlying218
 a83 := Tryz.isAgg218
 z83 := Tryz.sizeOf218
 v83 := Tryz.zeroValue218
 t84 := Tryz.underlying219
 a84 := Tryz.isAgg219
 z84 := Tryz.sizeOf219
 v84 := Tryz.zeroValue219
theorem s142 : SoundCall Tryz.prog 142 ⟨[m1 ei 2 true], []⟩ (G 405) := sort_sound sri
theorem s93 : SoundCall Tryz.prog 93 q1 (G 404) := sound (l := [(142, 405, ⟨[m1 ei 2 true], []⟩)]) (h := (zn .e (zn .e (zn (zn .e (.n (some (.mk 3 0 [(12, ji 4), (13, jb 5)] [(1, .map (.mk 175 177 3 (.b .bool)) 0 (.v 3) none)])) (.n (some (.mk 2 0 [(12, ji 4)] [(1, .map (.mk 175 177 3 (.b .bool)) 0 (.v 3) none)])) .e .e) .e)) .e)))) noX Tryz.func93 (by kernel_rfl) (by kernel_rfl) (run404 rfl) (.cons s142 .nil)
theorem s34 : SoundCall Tryz.prog 34 q2 (G 443) := sound (l := [(84, 410, q2), (83, 411, q8), (90, 439, q4), (22, 403, q1), (93, 404, q1), (20, 445, q18)]) (h := .e) noX Tryz.func34 (by kernel_rfl) (by kernel_rfl) (run443 rfl rfl rfl rfl rfl rfl) (.cons s84 (.cons s83 (.cons s90 (.cons s22 (.cons s93 (.cons s20 .nil))))))
theorem s30 : SoundCall Tryz.prog 30 ⟨[.val true [.rd (.s1 eV), .rd (.s2 ei)], pv i8, pv i8], [(true, [.own (.row (.s1 eV) 40), .own (.rows ei 2 54)]), rv .bool]⟩ (G 444) := sound (l := [(34, 443, q2), (90, 439, q4)]) (h := .e) noX Tryz.func30 (by kernel_rfl) (by kernel_rfl) (run444 rfl rfl) (.cons s34 (.cons s90 .nil))
theorem s31 : SoundCall Tryz.prog 31 ⟨[pv f8, pv f8], [rv f8]⟩ (G 231) := sound (l := []) (h := .e) noX Tryz.func31 (by kernel_rfl) (by kernel_rfl) run231 .nil
theorem s91 : SoundCall Tryz.prog 91 ⟨[p1 ei, p1 ei], [rv .bool]⟩ (G 558) := sound (l := []) (h := (zn .e (zn .e (zn (zn .e (.n (some (.mk 4 0 [(5, ji 5), (11, ji 6), (12, .c (.s (.dat (.s1 ei) (.v 0)))), (13, ji 7), (14, jb 8)] [])) (.n (some (.mk 1 0 [(5, ji 5)] [])) .e .e) .e)) .e)))) noX Tryz.func91 (by kernel_rfl) (by kernel_rfl) run558 .nil
theorem s32 : SoundCall Tryz.prog 32 ⟨[p2 ei, p2 ei], [rv .bool]⟩ (G 557) := sound (l := [(91, 558, ⟨[p1 ei, p1 ei], [rv .bool]⟩)]) (h := (zn .e (zn .e (zn (zn .e (.n (some (.mk 4 0 [(5, ji 5), (11, ji 6), (12, .c (.s (.dat (.s2 ei) (.v 0)))), (13, ji 7), (14, jb 8)] [])) (.n (some (.mk 1 0 [(5, ji 5)] [])) .e .e) .e)) .e)))) noX Tryz.func32 (by kernel_rfl) (by kernel_rfl) (run557 rfl) (.cons s91 .nil)
theorem s141 : SoundCall Tryz.prog 141 ⟨[pv f8], [rv .bool]⟩ (G 567) := sound (X := [(160, .f64bits)]) (l := []) (h := .e) f64bitsX Tryz.func141 (by kernel_rfl) (by kernel_rfl) run567 .nil
theorem s92 : SoundCall Tryz.prog 92 ⟨[pv f1, pv f1], [rv .bool]⟩ (G 566) := sound (l := [(141, 567, ⟨[pv f8], [rv .bool]⟩)]) (h := .e) noX Tryz.func92 (by kernel_rfl) (by kernel_rfl) (run566 rfl) (.cons s141 .nil)
theorem s33 : SoundCall Tryz.prog 33 ⟨[.val true [.rd (.b f1), .rd (.b f1), .rd (.b f1)], .val true [.rd (.b f1), .rd (.b f1), .rd (.b f1)]], [rv .bool]⟩ (G 565) := sound (l := [(92, 566, ⟨[pv f1, pv f1], [rv .bool]⟩)]) (h := .e) noX Tryz.func33 (by kernel_rfl) (by kernel_rfl) (run565 rfl) (.cons s92 .nil)
theorem s5 : SoundCall Tryz.prog 5 ⟨[p1 ⟨false, [.int .u8]⟩, p1 ⟨false, [.int .u8]⟩], [rv .bool]⟩ (G 575) := sound (l := [(15, 220, ⟨[p1 ⟨false, [.int .u8]⟩, p1 ⟨false, [.int .u8]⟩], [rv .bool]⟩), (18, 221, ⟨[p1 ⟨false, [.int .u8]⟩, pv i8, pv i8], [rv i8]⟩), (17, 544, ⟨[pv i8], [(true, [.own (.row (.s1 eV) 40), .own (.rows ei 2 54)])]⟩), (16, 543, ⟨[.val false [.rd (.s1 ⟨false, [.int .u8]⟩)], .val true [.rd (.s1 eV), .rd (.s2 ei)]], [(true, [.own (.row (.s1 eV) 40), .own (.rows ei 2 54)])]⟩), (26, 553, ⟨[.val true [.rd (.s1 eV), .rd (.s2 ei)]], [r2 ei 2 54, rv .bool]⟩), (27, 555, ⟨[.val true [.rd (.s1 eV), .rd (.s2 ei)], pv i8, pv i8], [r1 ei 2, rv .bool]⟩), (28, 422, ⟨[.val true [.rd (.s1 eV), .rd (.s2 ei)], pv i8, pv i8, pv f1], [(true, [.own (.row (.s1 eV) 40), .own (.rows ei 2 54)]), rv .bool]⟩), (22, 403, q1), (20, 445, q18), (29, 576, ⟨[.val true [.rd (.s1 eV), .rd (.s2 ei)]], [rv f1, rv .bool]⟩), (30, 444, ⟨[.val true [.rd (.s1 eV), .rd (.s2 ei)], pv i8, pv i8], [(true, [.own (.row (.s1 eV) 40), .own (.rows ei 2 54)]), rv .bool]⟩), (31, 231, ⟨[pv f8, pv f8], [rv f8]⟩), (32, 557, ⟨[p2 ei, p2 ei], [rv .bool]⟩), (33, 565, ⟨[.val true [.rd (.b f1), .rd (.b f1), .rd (.b f1)], .val true [.rd (.b f1), .rd (.b f1), .rd (.b f1)]], [rv .bool]⟩), (34, 443, q2)]) (h := (zn .e (zn .e (zn .e (zn .e (zn .e (zn .e (zn .e (zn .e (zn .e (zn .e (zn .e (zn .e (zn .e (zn .e (zn .e (zn .e (zn .e (zn .e (zn (zn .e (.n (some (.mk 4 0 [(27, ji 101), (48, ju), (49, ju), (50, ju), (90, ju), (91, ju), (94, ju), (95, ju), (96, ju), (99, ju), (100, ju), (101, ju), (102, ju), (103, ju), (104, ju), (107, ju), (108, ju), (109, ju), (110, ju), (111, ju), (112, ju), (113, ju), (114, ju), (115, ju), (116, ju), (153, ju), (154, ju), (157, ju), (158, ju), (161, ju), (162, ju), (165, ju), (166, ju), (169, ju), (170, ju), (173, ju), (174, ju), (175, ju), (178, ju), (179, ju), (180, ju), (181, ju), (182, ju), (183, ju), (184, ju), (185, ju), (186, ju), (187, ju), (190, ju), (191, ju), (192, ju), (193, ju), (196, ju), (197, ju), (198, ju), (199, ju), (200, ju), (201, ju), (202, ju), (204, ji 102), (205, .c (.s (.vptr 4 0))), (206, jo 2), (207, ji 103), (208, jb 104)] [])) (.n (some (.mk 1 0 [(27, ji 101), (48, ju), (49, ju), (50, ju), (90, ju), (91, ju), (94, ju), (95, ju), (96, ju), (99, ju), (100, ju), (101, ju), (102, ju), (103, ju), (104, ju), (107, ju), (108, ju), (109, ju), (110, ju), (111, ju), (112, ju), (113, ju), (114, ju), (115, ju), (116, ju), (153, ju), (154, ju), (157, ju), (158, ju), (161, ju), (162, ju), (165, ju), (166, ju), (169, ju), (170, ju), (173, ju), (174, ju), (175, ju), (178, ju), (179, ju), (180, ju), (181, ju), (182, ju), (183, ju), (184, ju), (185, ju), (186, ju), (187, ju), (190, ju), (191, ju), (192, ju), (193, ju), (196, ju), (197, ju), (198, ju), (199, ju), (200, ju), (201, ju), (202, ju)] [])) .e .e) .e)) .e)))))))))))))))))))) noX Tryz.func5 (by kernel_rfl) (by kernel_rfl) (run575 rfl rfl rfl rfl rfl rfl rfl rfl rfl rfl rfl rfl rfl rfl rfl) (.cons s15 (.cons s18 (.cons s17 (.cons s16 (.cons s26 (.cons s27 (.cons s28 (.cons s22 (.cons s20 (.cons s29 (.cons s30 (.cons s31 (.cons s32 (.cons s33 (.cons s34 .nil)))))))))))))))
theorem own : ownKnob Tryz.prog.godebug = none := by kernel_rfl
theorem laidOut : laidOutB Tryz.prog = true := by kernel_rfl
theorem mapsRow : mapsRowed Tryz.prog = true := by kernel_rfl
theorem slicesFull : ((List.range Tryz.prog.types.size).all fun t => match Tryz.prog.underlying t with | some (.slice e) => decide (0 < Tryz.prog.cellsOf e) | _ => true) = true := by kernel_rfl
set_option maxRecDepth 100000 in
theorem splits_lifted (os : Os) (started : os.Started) (H : Type) (enc : TypeId × Value → H) :
  ReturnsInHanded {} Tryz.checked os 5 .any (Rows.fnSplitsSpec.pre6 enc Tryz.prog Tryz.f5 Rows.fnSplitsRow.domain false) (Rows.fnSplitsSpec.post enc Tryz.prog Tryz.f5 false true false false) := by
 refine returnsInHanded_of_change (C := Tryz.checked) own started (by kernel_rfl) Tryz.func5
  (ChangeSpec.witness6 (enc := enc) (C := Tryz.checked) false ⟨#[], #[.slice none 0 0, .slice none 0 0], []⟩ 8 (by kernel_rfl) (by kernel_rfl) (by kernel_rfl) (by kernel_rfl)) ?_
 intro W base args ds gs before hval0 hW hcnd _
 have hval : ∀ (j : Nat) t v, Tryz.f5.params.toList[j]? = some t → args.toList[j]? = some v → Value.okWide Tryz.prog W .any base t v := fun j t v h1 h2 => hval0 j t v (by simpa using h1) (by simpa using h2)
 obtain ⟨p, q, hA, hV, _⟩ := id hW
 obtain ⟨x0, x1, hX, hb0, hb1, hl0⟩ := args_bytes2 (by kernel_rfl) (by kernel_rfl) (by kernel_rfl) (by kernel_rfl) hA hval
 rw [← Fm_nil] at hX
 obtain ⟨d0, es0, rfl, hl1⟩ := len_cons hl0
 obtain ⟨d1, es1, rfl, hl2⟩ := len_cons hl1
 obtain rfl := len_nil hl2
 exact law_of_sound (bT := true) (tb := 4) laidOut mapsRow slicesFull (by kernel_rfl) (by kernel_rfl) (by kernel_rfl) rfl ⟨rfl, rfl, rfl⟩ s5 rfl hW ⟨_, hX, by show F575 [il x0, il x1] = _; simp only [F575, dI_il, Option.bind_some]; exact if_pos ⟨hb0, hb1⟩⟩
theorem splits_holds : Rows.FnSplitsSaid :=
 OpenClaim.holds_of_wide 5 Tryz.f5 rfl rfl rfl rfl rfl rfl rfl ⟨rfl, rfl, rfl, rfl, rfl⟩ rfl rfl rfl rfl rfl (by kernel_rfl) Tryz.func5 (by kernel_rfl)
  (of_decide_eq_true (by kernel_rfl)) (by unfold Func.isWrapper; first | (rw [if_pos (by decide +kernel)]; kernel_rfl) | (rw [if_neg (by decide +kernel)]; exact ⟨rfl, rfl⟩))
  (fun os started H enc _ => splits_lifted os started H enc)
end Go.Proofs.YtaakjnkllodchaaGreat
