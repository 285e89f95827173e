/-
  Proved: for all arguments the program's CutHole returns what the reference's returns, in memory of its own, and leaves its arguments as they were (the law answers true). Conditions: none.
-/
import Derived.Test.YtaakjnkllodchaaRows
import Derived.Test.YtaakjnkllodchaaK8
import Derived.Test.YtaakjnkllodchaaK45
import Derived.Test.YtaakjnkllodchaaNx4
namespace Go.Proofs.Ytaakjnkllodchaa
open Vs Go Go.Shelf Go.RowKit Go.ChangeShapes Go.WideShapes Go.ChangeAt
noncomputable def G : Vs.Told
 | 4 => F4
 | 16 => F16
 | 19 => F19
 | 40 => F40
 | 100 => F100
 | 101 => F101
 | 102 => F102
 | 103 => F103
 | 104 => F104
 | 105 => F105
 | 120 => F120
 | 121 => F121
 | 127 => F127
 | 128 => F128
 | 129 => F129
 | 140 => F140
 | 141 => F141
 | 142 => F142
 | 143 => F143
 | 144 => F144
 | 145 => F145
 | 146 => F146
 | 147 => F147
 | 148 => F148
 | 149 => F149
 | 150 => F150
 | 151 => F151
 | 156 => F156
 | 440 => F440
 | 531 => F531
 | 532 => F532
 | _ => fun _ => none
def ji (k : Nat) : SV := .c (.s (.dat (.b (.int .i64)) (.v k)))
def jf (k : Nat) : SV := .c (.s (.dat (.b (.flt .f32)) (.v k)))
def jb (k : Nat) : SV := .c (.s (.dat (.b .bool) (.v k)))
def jo (k : Nat) : SV := .c (.s (.own k))
def jm (k : Nat) : SV := .c (.s (.fcel [.d (.s1 eV) (.v 0), .d (.s2 ei) (.v 1)] k))
def ju : SV := .c (.s .undef)
def zn (l r : H) : H := .n none l r
def q0 : Sig := ⟨[.val true [.rd (.s1 eV), .rd (.s2 ei)]], [(true, [.own (.row (.s1 eV) 66), .own (.rows ei 2 43)])]⟩
def q2 : Sig := ⟨[pv i8, pv i8, pv i8], [rv .bool]⟩
def q5 : Sig := ⟨[.val true [.rd (.s1 eV), .rd (.s2 ei)], pv i8], [rv i8]⟩
def q12 : Sig := ⟨[p1 ei, pv i8], [rv i8]⟩
def q13 : Sig := ⟨[p1 eV, pv i8], [rv i8]⟩
def q14 : Sig := ⟨[p2 ei, pv i8], [rv i8]⟩
theorem noX : ∀ x ∈ ([] : List (FuncId × Ext)), ∀ args w, (callFunc x.1 args).run Try.prog w = ((extFn x.2 args).run Try.prog w).andThen fun v w' => .ok (.value v) w' := by intro x hx; cases hx
theorem s35 : SoundCall Try.prog 35 q13 (G 120) := sound (l := []) (h := .e) noX Try.func35 (by kernel_rfl) (by kernel_rfl) run120 .nil
theorem s80 : SoundCall Try.prog 80 q12 (G 140) := sound (l := []) (h := .e) noX Try.func80 (by kernel_rfl) (by kernel_rfl) run140 .nil
theorem s36 : SoundCall Try.prog 36 q14 (G 141) := sound (l := [(80, 140, q12)]) (h := (zn .e (zn .e (zn .e (zn (zn .e (.n (some (.mk 5 0 [(1, ji 5), (5, ji 6), (12, ji 7), (13, .c (.s (.dat (.s2 ei) (.v 0)))), (14, ji 8), (15, jb 9)] [])) (.n (some (.mk 2 0 [(1, ji 5), (5, ji 6)] [])) .e .e) .e)) .e))))) noX Try.func36 (by kernel_rfl) (by kernel_rfl) (run141 rfl) (.cons s80 .nil)
theorem s6 : SoundCall Try.prog 6 q5 (G 142) := sound (l := [(35, 120, q13), (36, 141, q14)]) (h := .e) noX Try.func6 (by kernel_rfl) (by kernel_rfl) (run142 rfl rfl) (.cons s35 (.cons s36 .nil))
theorem s83 : SoundCall Try.prog 83 ⟨[.val true [.rd (.b f1), .rd (.b f1), .rd (.b f1)]], [(true, [.cell f1, .cell f1, .cell f1])]⟩ (G 16) := sound (l := []) (h := .e) noX Try.func83 (by kernel_rfl) (by kernel_rfl) run16 .nil
theorem s40 : SoundCall Try.prog 40 ⟨[p1 eV], [r1 eV 66]⟩ (G 121) := sound (l := [(83, 16, ⟨[.val true [.rd (.b f1), .rd (.b f1), .rd (.b f1)]], [(true, [.cell f1, .cell f1, .cell f1])]⟩)]) (h := (zn .e (zn .e (zn (zn .e (.n (some (.mk 5 0 [(4, ji 4), (8, ji 5), (9, .c (.s (.dat (.s1 eV) (.v 0)))), (10, ji 6), (11, jb 7)] [(0, .row (.s1 eV) 66 (.v 3))])) (.n (some (.mk 2 0 [(4, ji 4)] [(0, .row (.s1 eV) 66 (.v 3))])) .e .e) .e)) .e)))) noX Try.func40 (by kernel_rfl) (by kernel_rfl) (run121 rfl) (.cons s83 .nil)
theorem s84 : SoundCall Try.prog 84 ⟨[p1 ei], [r1 ei 2]⟩ (G 143) := sound (l := []) (h := (zn .e (zn .e (zn (zn .e (.n (some (.mk 5 0 [(4, ji 4), (8, ji 5), (9, .c (.s (.dat (.s1 ei) (.v 0)))), (10, ji 6), (11, jb 7)] [(0, .row (.s1 ei) 2 (.v 3))])) (.n (some (.mk 2 0 [(4, ji 4)] [(0, .row (.s1 ei) 2 (.v 3))])) .e .e) .e)) .e)))) noX Try.func84 (by kernel_rfl) (by kernel_rfl) run143 .nil
theorem s41 : SoundCall Try.prog 41 ⟨[p2 ei], [r2 ei 2 43]⟩ (G 144) := sound (l := [(84, 143, ⟨[p1 ei], [r1 ei 2]⟩)]) (h := (zn .e (zn .e (zn (zn .e (.n (some (.mk 5 0 [(4, ji 4), (8, ji 5), (9, .c (.s (.dat (.s2 ei) (.v 0)))), (10, ji 6), (11, jb 7)] [(0, .rows ei 2 43 0 (.v 3))])) (.n (some (.mk 2 0 [(4, ji 4)] [(0, .rows ei 2 43 0 (.v 3))])) .e .e) .e)) .e)))) noX Try.func41 (by kernel_rfl) (by kernel_rfl) (run144 rfl) (.cons s84 .nil)
theorem s8 : SoundCall Try.prog 8 q0 (G 145) := sound (l := [(40, 121, ⟨[p1 eV], [r1 eV 66]⟩), (41, 144, ⟨[p2 ei], [r2 ei 2 43]⟩)]) (h := .e) noX Try.func8 (by kernel_rfl) (by kernel_rfl) (run145 rfl rfl) (.cons s40 (.cons s41 .nil))
theorem s38 : SoundCall Try.prog 38 q2 (G 19) := sound (l := []) (h := .e) noX Try.func38 (by kernel_rfl) (by kernel_rfl) run19 .nil
theorem s81 : SoundCall Try.prog 81 ⟨[p1 ei, pv i8], [rv .bool]⟩ (G 149) := sound (l := [(38, 19, q2)]) (h := .e) noX Try.func81 (by kernel_rfl) (by kernel_rfl) (run149 rfl) (.cons s38 .nil)
theorem s37 : SoundCall Try.prog 37 ⟨[.ptr [.rd (.s1 eV), .rd (.s2 ei)]], [rv .bool]⟩ (G 150) := sound (l := [(81, 149, ⟨[p1 ei, pv i8], [rv .bool]⟩)]) (h := (zn .e (zn .e (zn (zn .e (.n (some (.mk 4 0 [(3, ji 8), (11, ju), (12, ju), (13, ju), (14, ju), (15, ju), (16, ju), (18, ji 9), (19, jm 0), (20, jm 0), (21, jm 1), (22, .c (.s (.dat (.s2 ei) (.v 1)))), (23, ji 10), (24, jb 11)] [])) (.n (some (.mk 1 0 [(3, ji 8), (11, ju), (12, ju), (13, ju), (14, ju), (15, ju), (16, ju)] [])) .e .e) .e)) .e)))) noX Try.func37 (by kernel_rfl) (by kernel_rfl) (run150s rfl) (.cons s81 .nil)
theorem s82 : SoundCall Try.prog 82 ⟨[p1 ei], [r1 ei 2]⟩ (G 143) := sound (l := []) (h := .e) noX Try.func82 (by kernel_rfl) (by kernel_rfl) run143s .nil
theorem s39 : SoundCall Try.prog 39 ⟨[.ptr [.rd (.s1 eV), .rd (.s2 ei)]], [(true, [.own (.row (.s1 eV) 66), .own (.rows ei 2 43)])]⟩ (G 151) := sound (l := [(82, 143, ⟨[p1 ei], [r1 ei 2]⟩)]) (h := (zn .e (zn .e (zn (zn .e (.n (some (.mk 5 1 [(4, ji 6), (13, ji 7), (14, jm 0), (15, jm 0), (16, jm 1), (17, .c (.s (.dat (.s2 ei) (.v 1)))), (18, ji 8), (19, jb 9)] [(3, .dead), (4, .var [(.s (.own 2)), (.s (.own 5))]), (5, .rows ei 2 43 0 (.v 5))])) (.n (some (.mk 2 1 [(4, ji 6)] [(4, .var [(.s (.own 2)), (.s (.own 5))]), (3, .dead), (5, .rows ei 2 43 0 (.v 5))])) .e .e) .e)) .e)))) noX Try.func39 (by kernel_rfl) (by kernel_rfl) (run151s rfl) (.cons s82 .nil)
theorem s7 : SoundCall Try.prog 7 ⟨[.val true [.mt (.row (.s1 eV) 66) false, .mt (.rows ei 2 43) false], pv i8], [(true, [.own (.row (.s1 eV) 66), .own (.row (.s2 ei) 43)]), rv .bool]⟩ (G 531) := sound (l := [(37, 150, ⟨[.ptr [.rd (.s1 eV), .rd (.s2 ei)]], [rv .bool]⟩), (38, 19, q2), (39, 151, ⟨[.ptr [.rd (.s1 eV), .rd (.s2 ei)]], [(true, [.own (.row (.s1 eV) 66), .own (.rows ei 2 43)])]⟩)]) (h := (zn .e (zn .e (zn .e (zn .e (zn (zn .e (.n (some (.mk 7 1 [(8, ji 17), (12, ju), (13, ju), (14, ju), (15, ju), (16, ju), (17, ju), (18, ju), (26, ji 18), (27, .c (.s (.vptr 6 1))), (28, jo 5), (29, ji 19), (30, jb 20)] [(1, .row (.s2 ei) 43 (.v 14)), (5, .row (.s2 ei) 43 (.v 15)), (7, .dead), (8, .var [(.s (.own 4)), (.s (.own 9))]), (9, .row (.s2 ei) 43 (.v 16))])) (.n (some (.mk 4 1 [(8, ji 17), (12, ju), (13, ju), (14, ju), (15, ju), (16, ju), (17, ju), (18, ju)] [(1, .row (.s2 ei) 43 (.v 14)), (5, .row (.s2 ei) 43 (.v 15)), (8, .var [(.s (.own 4)), (.s (.own 9))]), (7, .dead), (9, .row (.s2 ei) 43 (.v 16))])) (zn .e (zn (zn (zn .e (.n (some (.mk 1 1 [] [(8, .var [(.s (.own 4)), (.s (.own 10))]), (9, .dead), (10, .row (.s2 ei) 43 (.v 21))])) .e .e)) .e) .e)) .e) .e)) .e)))))) noX Try.func7 (by kernel_rfl) (by kernel_rfl) (run531s rfl rfl rfl) (.cons s37 (.cons s38 (.cons s39 .nil)))
theorem s85 : SoundCall Try.prog 85 q2 (G 19) := sound (l := []) (h := .e) noX Try.func85 (by kernel_rfl) (by kernel_rfl) run19 .nil
theorem s58 : SoundCall Try.prog 58 ⟨[.val true [.rd (.s1 eV), .rd (.s2 ei)]], [rv .bool]⟩ (G 150) := sound (l := [(85, 19, q2)]) (h := (zn .e (zn .e (zn .e (zn (zn .e (.n (some (.mk 2 0 [(14, ju), (15, ju), (16, ju), (17, ju), (22, ji 9), (23, jb 10)] [])) (.n (some (.mk 1 0 [(14, ju), (15, ju), (16, ju), (17, ju), (22, ji 9)] [])) (zn .e (zn .e (zn (zn (zn .e (zn .e (zn .e (.n (some (.mk 2 0 [(30, ju), (31, ju), (32, ju), (33, ju), (34, ju), (35, ju), (36, ju), (39, ju), (40, ju), (41, ju), (42, ju), (43, ju), (44, ju), (45, ju), (48, ju), (49, ju), (50, ju), (51, ju), (52, ju), (53, ju), (54, ju), (58, ji 39), (59, jb 40)] [])) (.n (some (.mk 1 0 [(30, ju), (31, ju), (32, ju), (33, ju), (34, ju), (35, ju), (36, ju), (39, ju), (40, ju), (41, ju), (42, ju), (43, ju), (44, ju), (45, ju), (48, ju), (49, ju), (50, ju), (51, ju), (52, ju), (53, ju), (54, ju), (58, ji 39)] [])) .e .e) .e)))) .e) .e))) .e) .e)) .e))))) noX Try.func58 (by kernel_rfl) (by kernel_rfl) (run150 rfl) (.cons s85 .nil)
theorem s42 : SoundCall Try.prog 42 ⟨[.val true [.rd (.s1 eV), .rd (.s2 ei)], pv i8], [rv .bool]⟩ (G 156) := sound (l := [(58, 150, ⟨[.val true [.rd (.s1 eV), .rd (.s2 ei)]], [rv .bool]⟩), (85, 19, q2)]) (h := .e) noX Try.func42 (by kernel_rfl) (by kernel_rfl) (run156 rfl rfl) (.cons s58 (.cons s85 .nil))
theorem s43 : SoundCall Try.prog 43 q0 (G 151) := sound (l := []) (h := (zn .e (zn .e (zn (zn .e (.n (some (.mk 3 1 [(14, ji 6), (15, jb 7)] [(4, .var [(.s (.own 3)), (.s (.own 5))]), (5, .rows ei 2 43 0 (.v 5))])) (.n (some (.mk 2 1 [(14, ji 6)] [(4, .var [(.s (.own 3)), (.s (.own 5))]), (5, .rows ei 2 43 0 (.v 5))])) .e .e) .e)) .e)))) noX Try.func43 (by kernel_rfl) (by kernel_rfl) run151 .nil
def srd_ren : Go.Shelf.Ren := ⟨fun | 45 => 44 | n => n, fun | 22 => 23 | 23 => 43 | 3 => 3 | 4 => 4 | 0 => 0 | n => n, fun n => n⟩
theorem srd : SlLaysE.n45 Try.prog srd_ren where
 mixed := by kernel_rfl
 f45 := ⟨Try.f44.name, by kernel_rfl, Try.func44.trans (congrArg some (by kernel_rfl))⟩
 t0 := Try.underlying0
 a0 := Try.isAgg0
 z0 := Try.sizeOf0
 v0 := Try.zeroValue0
 t3 := Try.underlying3
 a3 := Try.isAgg3
 z3 := Try.sizeOf3
 v3 := Try.zeroValue3
 t4 := Try.underlying4
 a4 := Try.isAgg4
 z4 := Try.sizeOf4
 v4 := Try.zeroValue4
 t22 := Try.underlying23
 a22 := Try.isAgg23
 z22 := Try.sizeOf23
 v22 := Try.zeroValue23
 a23 := Try.isAgg43
 z23 := Try.sizeOf43
set_option maxRecDepth 100000 in
theorem s44 : SoundCall Try.prog 44 ⟨[m2 ei 2 43 false, pv i8, pv i8], [r2 ei 2 43]⟩ (G 440) := delete_rows srd Try.zeroValue43 _ rfl rfl
theorem s9 : SoundCall Try.prog 9 ⟨[.val true [.rd (.s1 eV), .rd (.s2 ei)], pv i8], [(true, [.own (.row (.s1 eV) 66), .own (.rows ei 2 43)]), rv .bool]⟩ (G 531) := sound (l := [(42, 156, ⟨[.val true [.rd (.s1 eV), .rd (.s2 ei)], pv i8], [rv .bool]⟩), (43, 151, q0), (44, 440, ⟨[m2 ei 2 43 false, pv i8, pv i8], [r2 ei 2 43]⟩)]) (h := .e) noX Try.func9 (by kernel_rfl) (by kernel_rfl) (run531 rfl rfl rfl) (.cons s42 (.cons s43 (.cons s44 .nil)))
theorem s110 : SoundCall Try.prog 110 ⟨[pv f8, pv f8], [rv .bool]⟩ (G 4) := sound (l := []) (h := .e) noX Try.func110 (by kernel_rfl) (by kernel_rfl) run4 .nil
theorem s86 : SoundCall Try.prog 86 ⟨[.val true [.rd (.b f1), .rd (.b f1), .rd (.b f1)], .val true [.rd (.b f1), .rd (.b f1), .rd (.b f1)]], [rv .bool]⟩ (G 40) := sound (l := [(110, 4, ⟨[pv f8, pv f8], [rv .bool]⟩)]) (h := .e) noX Try.func86 (by kernel_rfl) (by kernel_rfl) (run40 rfl) (.cons s110 .nil)
theorem s45 : SoundCall Try.prog 45 ⟨[p1 eV, p1 eV], [rv .bool]⟩ (G 127) := sound (l := [(86, 40, ⟨[.val true [.rd (.b f1), .rd (.b f1), .rd (.b f1)], .val true [.rd (.b f1), .rd (.b f1), .rd (.b f1)]], [rv .bool]⟩)]) (h := (zn .e (zn .e (zn (zn .e (.n (some (.mk 4 0 [(5, ji 5), (11, ji 6), (12, .c (.s (.dat (.s1 eV) (.v 0)))), (13, ji 7), (14, jb 8)] [])) (.n (some (.mk 1 0 [(5, ji 5)] [])) .e .e) .e)) .e)))) noX Try.func45 (by kernel_rfl) (by kernel_rfl) (run127 rfl) (.cons s86 .nil)
theorem s87 : SoundCall Try.prog 87 ⟨[p1 ei, p1 ei], [rv .bool]⟩ (G 100) := sound (l := []) (h := (zn .e (zn .e (zn (zn .e (.n (some (.mk 4 0 [(5, ji 5), (11, ji 6), (12, .c (.s (.dat (.s1 ei) (.v 0)))), (13, ji 7), (14, jb 8)] [])) (.n (some (.mk 1 0 [(5, ji 5)] [])) .e .e) .e)) .e)))) noX Try.func87 (by kernel_rfl) (by kernel_rfl) run100 .nil
theorem s46 : SoundCall Try.prog 46 ⟨[p2 ei, p2 ei], [rv .bool]⟩ (G 101) := sound (l := [(87, 100, ⟨[p1 ei, p1 ei], [rv .bool]⟩)]) (h := (zn .e (zn .e (zn (zn .e (.n (some (.mk 4 0 [(5, ji 5), (11, ji 6), (12, .c (.s (.dat (.s2 ei) (.v 0)))), (13, ji 7), (14, jb 8)] [])) (.n (some (.mk 1 0 [(5, ji 5)] [])) .e .e) .e)) .e)))) noX Try.func46 (by kernel_rfl) (by kernel_rfl) (run101 rfl) (.cons s87 .nil)
theorem s10 : SoundCall Try.prog 10 ⟨[.val true [.rd (.s1 eV), .rd (.s2 ei)], .val true [.rd (.s1 eV), .rd (.s2 ei)]], [rv .bool]⟩ (G 146) := sound (l := [(45, 127, ⟨[p1 eV, p1 eV], [rv .bool]⟩), (46, 101, ⟨[p2 ei, p2 ei], [rv .bool]⟩)]) (h := .e) noX Try.func10 (by kernel_rfl) (by kernel_rfl) (run146 rfl rfl) (.cons s45 (.cons s46 .nil))
theorem s47 : SoundCall Try.prog 47 ⟨[m1 eV 66 true, pv i8], [rv i8]⟩ (G 128) := sound (l := []) (h := (zn .e (zn (zn .e (.n (some (.mk 6 0 [(1, ji 3), (5, ji 4), (6, ji 5), (7, jo 0), (8, ji 6), (9, jb 7)] [(0, .row (.s1 eV) 66 (.v 2))])) (.n (some (.mk 3 0 [(1, ji 3), (5, ji 4)] [(0, .row (.s1 eV) 66 (.v 2))])) .e .e) .e)) .e))) noX Try.func47 (by kernel_rfl) (by kernel_rfl) run128 .nil
theorem s88 : SoundCall Try.prog 88 ⟨[m1 ei 2 true, pv i8], [rv i8]⟩ (G 102) := sound (l := []) (h := (zn .e (zn (zn .e (.n (some (.mk 6 0 [(1, ji 3), (5, ji 4), (6, ji 5), (7, jo 0), (8, ji 6), (9, jb 7)] [(0, .row (.s1 ei) 2 (.v 2))])) (.n (some (.mk 3 0 [(1, ji 3), (5, ji 4)] [(0, .row (.s1 ei) 2 (.v 2))])) .e .e) .e)) .e))) noX Try.func88 (by kernel_rfl) (by kernel_rfl) run102 .nil
theorem s48 : SoundCall Try.prog 48 ⟨[m2 ei 2 43 true, pv i8], [rv i8]⟩ (G 103) := sound (l := [(88, 102, ⟨[m1 ei 2 true, pv i8], [rv i8]⟩)]) (h := (zn .e (zn (zn .e (.n (some (.mk 6 0 [(1, ji 3), (5, ji 4), (6, ji 5), (7, jo 0), (8, ji 6), (9, jb 7)] [(0, .rows ei 2 43 0 (.v 2))])) (.n (some (.mk 3 0 [(1, ji 3), (5, ji 4)] [(0, .rows ei 2 43 0 (.v 2))])) .e .e) .e)) .e))) noX Try.func48 (by kernel_rfl) (by kernel_rfl) (run103 rfl) (.cons s88 .nil)
theorem s11 : SoundCall Try.prog 11 ⟨[.val true [.mt (.row (.s1 eV) 66) true, .mt (.rows ei 2 43) true], pv i8], [rv i8]⟩ (G 147) := sound (l := [(47, 128, ⟨[m1 eV 66 true, pv i8], [rv i8]⟩), (48, 103, ⟨[m2 ei 2 43 true, pv i8], [rv i8]⟩)]) (h := .e) noX Try.func11 (by kernel_rfl) (by kernel_rfl) (run147 rfl rfl) (.cons s47 (.cons s48 .nil))
theorem s49 : SoundCall Try.prog 49 q13 (G 129) := sound (l := []) (h := (zn .e (zn (zn .e (.n (some (.mk 5 0 [(1, ji 2), (5, ji 3), (6, ji 4), (7, .c (.s (.dat (.s1 eV) (.v 0)))), (8, ji 5), (9, jb 6)] [])) (.n (some (.mk 2 0 [(1, ji 2), (5, ji 3)] [])) .e .e) .e)) .e))) noX Try.func49 (by kernel_rfl) (by kernel_rfl) run129 .nil
theorem s89 : SoundCall Try.prog 89 q12 (G 104) := sound (l := []) (h := (zn .e (zn (zn .e (.n (some (.mk 5 0 [(1, ji 2), (5, ji 3), (6, ji 4), (7, .c (.s (.dat (.s1 ei) (.v 0)))), (8, ji 5), (9, jb 6)] [])) (.n (some (.mk 2 0 [(1, ji 2), (5, ji 3)] [])) .e .e) .e)) .e))) noX Try.func89 (by kernel_rfl) (by kernel_rfl) run104 .nil
theorem s50 : SoundCall Try.prog 50 q14 (G 105) := sound (l := [(89, 104, q12)]) (h := (zn .e (zn (zn .e (.n (some (.mk 5 0 [(1, ji 2), (5, ji 3), (6, ji 4), (7, .c (.s (.dat (.s2 ei) (.v 0)))), (8, ji 5), (9, jb 6)] [])) (.n (some (.mk 2 0 [(1, ji 2), (5, ji 3)] [])) .e .e) .e)) .e))) noX Try.func50 (by kernel_rfl) (by kernel_rfl) (run105 rfl) (.cons s89 .nil)
theorem s12 : SoundCall Try.prog 12 q5 (G 148) := sound (l := [(49, 129, q13), (50, 105, q14)]) (h := .e) noX Try.func12 (by kernel_rfl) (by kernel_rfl) (run148 rfl rfl) (.cons s49 (.cons s50 .nil))
theorem s3 : SoundCall Try.prog 3 ⟨[.val true [.rd (.s1 eV), .rd (.s2 ei)], pv i8], [rv .bool]⟩ (G 532) := sound (l := [(6, 142, q5), (8, 145, q0), (7, 531, ⟨[.val true [.mt (.row (.s1 eV) 66) false, .mt (.rows ei 2 43) false], pv i8], [(true, [.own (.row (.s1 eV) 66), .own (.row (.s2 ei) 43)]), rv .bool]⟩), (9, 531, ⟨[.val true [.rd (.s1 eV), .rd (.s2 ei)], pv i8], [(true, [.own (.row (.s1 eV) 66), .own (.rows ei 2 43)]), rv .bool]⟩), (10, 146, ⟨[.val true [.rd (.s1 eV), .rd (.s2 ei)], .val true [.rd (.s1 eV), .rd (.s2 ei)]], [rv .bool]⟩), (11, 147, ⟨[.val true [.mt (.row (.s1 eV) 66) true, .mt (.rows ei 2 43) true], pv i8], [rv i8]⟩), (12, 148, q5)]) (h := .e) noX Try.func3 (by kernel_rfl) (by kernel_rfl) (run532 rfl rfl rfl rfl rfl rfl) (.cons s6 (.cons s8 (.cons s7 (.cons s9 (.cons s10 (.cons s11 (.cons s12 .nil)))))))
theorem own : ownKnob Try.prog.godebug = none := by kernel_rfl
theorem laidOut : laidOutB Try.prog = true := by kernel_rfl
theorem mapsRow : mapsRowed Try.prog = true := by kernel_rfl
theorem slicesFull : ((List.range Try.prog.types.size).all fun t => match Try.prog.underlying t with | some (.slice e) => decide (0 < Try.prog.cellsOf e) | _ => true) = true := by kernel_rfl
set_option maxRecDepth 100000 in
theorem cutHole_lifted (os : Os) (started : os.Started) (H : Type) (enc : TypeId × Value → H) :
  ReturnsInHanded {} Try.checked os 3 .any (Rows.fnExactCutHoleSpec.pre6 enc Try.prog Try.f3 Rows.fnExactCutHoleRow.domain false) (Rows.fnExactCutHoleSpec.post enc Try.prog Try.f3 false true false false) := by
 refine returnsInHanded_of_change (C := Try.checked) own started (by kernel_rfl) Try.func3
  (ChangeSpec.witness6 (enc := enc) (C := Try.checked) false ⟨#[], #[.agg #[.slice none 0 0, .slice none 0 0], .int .i64 0], []⟩ 8 (by kernel_rfl) (by kernel_rfl) (by kernel_rfl) (by kernel_rfl)) ?_
 intro W base args ds gs before hval0 hW hcnd _
 have hval : ∀ (j : Nat) t v, Try.f3.params.toList[j]? = some t → args.toList[j]? = some v → Value.okWide Try.prog W .any base t v := fun j t v h1 h2 => hval0 j t v (by simpa using h1) (by simpa using h2)
 obtain ⟨p, q, hA, hV, _⟩ := id hW
 obtain ⟨xs, hX, hF0, hl0⟩ := args_mix (ps := [(true, [.s1 eV, .s2 ei]), (false, [.b i8])]) (by kernel_rfl) hA hval
 rw [← Fm_nil] at hX
 obtain ⟨x0, ys0, rfl, hb0, hF1⟩ := fitsd_vl hF0
 obtain ⟨x1, ys1, rfl, hb1, hF2⟩ := fitsd_tl hF1
 obtain ⟨x2, ys2, rfl, hF3⟩ := fitsd_int hF2
 obtain rfl := fitsd_nil hF3
 rw [Try.params3] at hl0
 obtain ⟨d0, es0, rfl, hl1⟩ := len_cons hl0
 obtain ⟨d1, es1, rfl, hl2⟩ := len_cons hl1
 obtain rfl := len_nil hl2
 exact law_of_sound (bT := true) (tb := 4) laidOut mapsRow slicesFull (by kernel_rfl) (by kernel_rfl) (by kernel_rfl) rfl ⟨rfl, rfl, rfl⟩ s3 rfl hW ⟨_, hX, by show F532 [vl x0, tl x1, .int x2] = _; simp only [F532, dV_vl, dT_tl, Option.bind_some]; exact if_pos ⟨hb0, hb1.1, hb1.2⟩⟩
theorem cutHole_holds : Rows.FnExactCutHoleSaid :=
 OpenClaim.holds_of_wide 3 Try.f3 rfl rfl rfl rfl rfl rfl rfl ⟨rfl, rfl, rfl, rfl, rfl⟩ rfl rfl rfl rfl rfl (by kernel_rfl) Try.func3 (by kernel_rfl)
  (of_decide_eq_true (by kernel_rfl)) (by unfold Func.isWrapper; first | (rw [if_pos (by decide +kernel)]; kernel_rfl) | (rw [if_neg (by decide +kernel)]; exact ⟨rfl, rfl⟩))
  (fun os started H enc _ => cutHole_lifted os started H enc)
end Go.Proofs.Ytaakjnkllodchaa
