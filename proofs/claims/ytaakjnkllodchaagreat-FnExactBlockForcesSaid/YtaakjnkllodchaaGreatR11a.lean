/-
  Proved: for all arguments the program's BlockForces returns what the reference's returns, in memory of its own, and leaves its arguments as they were (the law answers true). Conditions: none.
-/
import Derived.Test.YtaakjnkllodchaaGreatRows
import Derived.Test.YtaakjnkllodchaaGreatK8
import Derived.Test.YtaakjnkllodchaaGreatK44
namespace Go.Proofs.YtaakjnkllodchaaGreat
open Vs Go Go.Shelf Go.RowKit Go.ChangeShapes Go.WideShapes Go.ChangeAt
noncomputable def G : Vs.Told
 | 4 => F4
 | 9 => F9
 | 10 => F10
 | 11 => F11
 | 13 => F13
 | 14 => F14
 | 15 => F15
 | 16 => F16
 | 19 => F19
 | 30 => F30
 | 31 => F31
 | 40 => F40
 | 100 => F100
 | 101 => F101
 | 102 => F102
 | 103 => F103
 | 120 => F120
 | 121 => F121
 | 126 => F126
 | 127 => F127
 | 128 => F128
 | 129 => F129
 | 140 => F140
 | 141 => F141
 | 142 => F142
 | 143 => F143
 | 144 => F144
 | 145 => F145
 | 146 => F146
 | 147 => F147
 | 149 => F149
 | 150 => F150
 | 158 => F158
 | 160 => F160
 | 180 => F180
 | 181 => F181
 | 182 => F182
 | 183 => F183
 | 184 => F184
 | 185 => F185
 | 186 => F186
 | 187 => F187
 | 188 => F188
 | 189 => F189
 | 190 => F190
 | 191 => F191
 | 192 => F192
 | 193 => F193
 | 194 => F194
 | 195 => F195
 | 201 => F201
 | 205 => F205
 | 210 => F210m
 | 400 => F400
 | 401 => F401
 | 402 => F402
 | 408 => F408
 | 413 => F413
 | 449 => F449
 | 450 => F450
 | 451 => F451
 | 452 => F452
 | 453 => F453
 | 520 => F520
 | 521 => F521
 | 522 => F522
 | 523 => F523
 | 524 => F524
 | 525 => F525
 | 526 => F526
 | 529 => F529
 | 530 => F530
 | _ => fun _ => none
def ji (k : Nat) : SV := .c (.s (.dat (.b (.int .i64)) (.v k)))
def jf (k : Nat) : SV := .c (.s (.dat (.b (.flt .f32)) (.v k)))
def jb (k : Nat) : SV := .c (.s (.dat (.b .bool) (.v k)))
def jo (k : Nat) : SV := .c (.s (.own k))
def jm (k : Nat) : SV := .c (.s (.fcel [.d (.s1 eV) (.v 0), .d (.s2 ei) (.v 1)] k))
def ju : SV := .c (.s .undef)
def zn (l r : H) : H := .n none l r
def q0 : Sig := ⟨[.val true [.rd (.b f1), .rd (.b f1), .rd (.b f1)], .val true [.rd (.b f1), .rd (.b f1), .rd (.b f1)]], [(true, [.cell f1, .cell f1, .cell f1])]⟩
def q1 : Sig := ⟨[.val true [.rd (.s1 eV), .rd (.s2 ei), .rd (.s1 ⟨true, [i8, i8, f1, f1]⟩), .rd (.b f1), .rd (.b f1), .rd (.s1 ⟨false, [f1]⟩), .rd (.b f1), .rd (.b f1), .rd (.b f1)], pv i8], [r1 eV 40, rv .bool]⟩
def q6 : Sig := ⟨[.val true [.rd (.b f1), .rd (.b f1), .rd (.b f1)]], [rv f1]⟩
def q8 : Sig := ⟨[.val true [.rd (.b f1), .rd (.b f1), .rd (.b f1)], .val true [.rd (.b f1), .rd (.b f1), .rd (.b f1)]], [rv .bool]⟩
def q9 : Sig := ⟨[.val true [.rd (.b f1), .rd (.b f1), .rd (.b f1)], .val true [.rd (.b f1), .rd (.b f1), .rd (.b f1)]], [rv f1]⟩
def q10 : Sig := ⟨[pv i8, pv i8, pv i8], [rv .bool]⟩
def q11 : Sig := ⟨[.val true [.rd (.b f1), .rd (.b f1), .rd (.b f1)], pv f1], [(true, [.cell f1, .cell f1, .cell f1])]⟩
def q12 : Sig := ⟨[.val true [.rd (.b f1), .rd (.b f1), .rd (.b f1)]], [(true, [.cell f1, .cell f1, .cell f1])]⟩
def q14 : Sig := ⟨[.val true [.rd (.s1 eV), .rd (.s2 ei)], p1 ei], [(true, [.cell f1, .cell f1, .cell f1])]⟩
def q19 : Sig := ⟨[.ptr [.rd (.s1 eV), .rd (.s2 ei)], p1 ei], [(true, [.cell f1, .cell f1, .cell f1])]⟩
def q24 : Sig := ⟨[pv f8, pv f8], [rv .bool]⟩
def q26 : Sig := ⟨[.ptr [.rd (.s1 eV), .rd (.s2 ei)]], [r2 ei 2 54]⟩
def q28 : Sig := ⟨[pv i8, pv i8], [rv i8]⟩
def q34 : Sig := ⟨[m1 eV 40 true, pv i8], [rv i8]⟩
def q36 : Sig := ⟨[p1 ei, pv i8], [rv .bool]⟩
def q39 : Sig := ⟨[p1 eV, p1 eV], [rv .bool]⟩
def q42 : Sig := ⟨[p1 eV, pv i8], [rv i8]⟩
def q43 : Sig := ⟨[pv f1, pv f1], [rv f1]⟩
theorem noX : ∀ x ∈ ([] : List (FuncId × Ext)), ∀ args w, (callFunc x.1 args).run Tryz.prog w = ((extFn x.2 args).run Tryz.prog w).andThen fun v w' => .ok (.value v) w' := by intro x hx; cases hx
theorem sqrtX : ∀ x ∈ ([(175, .sqrt)] : List (FuncId × Ext)), ∀ args w, (callFunc x.1 args).run Tryz.prog w = ((extFn x.2 args).run Tryz.prog w).andThen fun v w' => .ok (.value v) w' := by
 intro x hx
 simp only [List.mem_cons, List.not_mem_nil, or_false] at hx
 subst hx
 exact fun args w => run_callFunc_extern Tryz.func175 (by kernel_rfl) (by kernel_rfl) (by kernel_rfl) (by kernel_rfl) args w
theorem s94 : SoundCall Tryz.prog 94 q42 (G 120) := sound (l := []) (h := .e) noX Tryz.func94 (by kernel_rfl) (by kernel_rfl) run120 .nil
theorem s143 : SoundCall Tryz.prog 143 ⟨[p1 ei, pv i8], [rv i8]⟩ (G 140) := sound (l := []) (h := .e) noX Tryz.func143 (by kernel_rfl) (by kernel_rfl) run140 .nil
theorem s95 : SoundCall Tryz.prog 95 ⟨[p2 ei, pv i8], [rv i8]⟩ (G 141) := sound (l := [(143, 140, ⟨[p1 ei, pv i8], [rv i8]⟩)]) (h := (zn .e (zn .e (zn .e (zn (zn .e (.n (some (.mk 5 0 [(1, ji 5), (5, ji 6), (12, ji 7), (13, .c (.s (.dat (.s2 ei) (.v 0)))), (14, ji 8), (15, jb 9)] [])) (.n (some (.mk 2 0 [(1, ji 5), (5, ji 6)] [])) .e .e) .e)) .e))))) noX Tryz.func95 (by kernel_rfl) (by kernel_rfl) (run141 rfl) (.cons s143 .nil)
theorem s35 : SoundCall Tryz.prog 35 ⟨[.val true [.rd (.s1 eV), .rd (.s2 ei)], pv i8], [rv i8]⟩ (G 142) := sound (l := [(94, 120, q42), (95, 141, ⟨[p2 ei, pv i8], [rv i8]⟩)]) (h := .e) noX Tryz.func35 (by kernel_rfl) (by kernel_rfl) (run142 rfl rfl) (.cons s94 (.cons s95 .nil))
theorem s36 : SoundCall Tryz.prog 36 ⟨[p1 ⟨true, [i8, i8, f1, f1]⟩, pv i8], [rv i8]⟩ (G 180) := sound (l := []) (h := .e) noX Tryz.func36 (by kernel_rfl) (by kernel_rfl) run180 .nil
theorem s37 : SoundCall Tryz.prog 37 ⟨[p1 ⟨false, [f1]⟩, pv i8], [rv i8]⟩ (G 181) := sound (l := []) (h := .e) noX Tryz.func37 (by kernel_rfl) (by kernel_rfl) run181 .nil
theorem s6 : SoundCall Tryz.prog 6 ⟨[.val true [.rd (.s1 eV), .rd (.s2 ei), .rd (.s1 ⟨true, [i8, i8, f1, f1]⟩), .rd (.b f1), .rd (.b f1), .rd (.s1 ⟨false, [f1]⟩), .rd (.b f1), .rd (.b f1), .rd (.b f1)], pv i8], [rv i8]⟩ (G 182) := sound (l := [(35, 142, ⟨[.val true [.rd (.s1 eV), .rd (.s2 ei)], pv i8], [rv i8]⟩), (36, 180, ⟨[p1 ⟨true, [i8, i8, f1, f1]⟩, pv i8], [rv i8]⟩), (37, 181, ⟨[p1 ⟨false, [f1]⟩, pv i8], [rv i8]⟩)]) (h := .e) noX Tryz.func6 (by kernel_rfl) (by kernel_rfl) (run182 rfl rfl rfl) (.cons s35 (.cons s36 (.cons s37 .nil)))
theorem s45 : SoundCall Tryz.prog 45 q12 (G 16) := sound (l := []) (h := .e) noX Tryz.func45 (by kernel_rfl) (by kernel_rfl) run16 .nil
theorem s107 : SoundCall Tryz.prog 107 ⟨[p1 eV], [r1 eV 40]⟩ (G 121) := sound (l := [(45, 16, q12)]) (h := (zn .e (zn .e (zn (zn .e (.n (some (.mk 5 0 [(4, ji 4), (8, ji 5), (9, .c (.s (.dat (.s1 eV) (.v 0)))), (10, ji 6), (11, jb 7)] [(0, .row (.s1 eV) 40 (.v 3))])) (.n (some (.mk 2 0 [(4, ji 4)] [(0, .row (.s1 eV) 40 (.v 3))])) .e .e) .e)) .e)))) noX Tryz.func107 (by kernel_rfl) (by kernel_rfl) (run121 rfl) (.cons s45 .nil)
theorem s148 : SoundCall Tryz.prog 148 ⟨[p1 ei], [r1 ei 2]⟩ (G 143) := sound (l := []) (h := (zn .e (zn .e (zn (zn .e (.n (some (.mk 5 0 [(4, ji 4), (8, ji 5), (9, .c (.s (.dat (.s1 ei) (.v 0)))), (10, ji 6), (11, jb 7)] [(0, .row (.s1 ei) 2 (.v 3))])) (.n (some (.mk 2 0 [(4, ji 4)] [(0, .row (.s1 ei) 2 (.v 3))])) .e .e) .e)) .e)))) noX Tryz.func148 (by kernel_rfl) (by kernel_rfl) run143 .nil
theorem s108 : SoundCall Tryz.prog 108 ⟨[p2 ei], [r2 ei 2 54]⟩ (G 144) := sound (l := [(148, 143, ⟨[p1 ei], [r1 ei 2]⟩)]) (h := (zn .e (zn .e (zn (zn .e (.n (some (.mk 5 0 [(4, ji 4), (8, ji 5), (9, .c (.s (.dat (.s2 ei) (.v 0)))), (10, ji 6), (11, jb 7)] [(0, .rows ei 2 54 0 (.v 3))])) (.n (some (.mk 2 0 [(4, ji 4)] [(0, .rows ei 2 54 0 (.v 3))])) .e .e) .e)) .e)))) noX Tryz.func108 (by kernel_rfl) (by kernel_rfl) (run144 rfl) (.cons s148 .nil)
theorem s42 : SoundCall Tryz.prog 42 ⟨[.val true [.rd (.s1 eV), .rd (.s2 ei)]], [(true, [.own (.row (.s1 eV) 40), .own (.rows ei 2 54)])]⟩ (G 145) := sound (l := [(107, 121, ⟨[p1 eV], [r1 eV 40]⟩), (108, 144, ⟨[p2 ei], [r2 ei 2 54]⟩)]) (h := .e) noX Tryz.func42 (by kernel_rfl) (by kernel_rfl) (run145 rfl rfl) (.cons s107 (.cons s108 .nil))
theorem s109 : SoundCall Tryz.prog 109 ⟨[.val true [.rd (.b i8), .rd (.b i8), .rd (.b f1), .rd (.b f1)]], [(true, [.cell i8, .cell i8, .cell f1, .cell f1])]⟩ (G 183) := sound (l := []) (h := .e) noX Tryz.func109 (by kernel_rfl) (by kernel_rfl) run183 .nil
theorem s43 : SoundCall Tryz.prog 43 ⟨[p1 ⟨true, [i8, i8, f1, f1]⟩], [r1 ⟨true, [i8, i8, f1, f1]⟩ 142]⟩ (G 184) := sound (l := [(109, 183, ⟨[.val true [.rd (.b i8), .rd (.b i8), .rd (.b f1), .rd (.b f1)]], [(true, [.cell i8, .cell i8, .cell f1, .cell f1])]⟩)]) (h := (zn .e (zn .e (zn (zn .e (.n (some (.mk 5 0 [(4, ji 4), (8, ji 5), (9, .c (.s (.dat (.s1 (.mk true [(.int .i64), (.int .i64), (.flt .f32), (.flt .f32)])) (.v 0)))), (10, ji 6), (11, jb 7)] [(0, .row (.s1 (.mk true [(.int .i64), (.int .i64), (.flt .f32), (.flt .f32)])) 142 (.v 3))])) (.n (some (.mk 2 0 [(4, ji 4)] [(0, .row (.s1 (.mk true [(.int .i64), (.int .i64), (.flt .f32), (.flt .f32)])) 142 (.v 3))])) .e .e) .e)) .e)))) noX Tryz.func43 (by kernel_rfl) (by kernel_rfl) (run184 rfl) (.cons s109 .nil)
theorem s44 : SoundCall Tryz.prog 44 ⟨[p1 ⟨false, [f1]⟩], [r1 ⟨false, [f1]⟩ 27]⟩ (G 185) := sound (l := []) (h := (zn .e (zn .e (zn (zn .e (.n (some (.mk 5 0 [(4, ji 4), (8, ji 5), (9, .c (.s (.dat (.s1 (.mk false [(.flt .f32)])) (.v 0)))), (10, ji 6), (11, jb 7)] [(0, .row (.s1 (.mk false [(.flt .f32)])) 27 (.v 3))])) (.n (some (.mk 2 0 [(4, ji 4)] [(0, .row (.s1 (.mk false [(.flt .f32)])) 27 (.v 3))])) .e .e) .e)) .e)))) noX Tryz.func44 (by kernel_rfl) (by kernel_rfl) run185 .nil
theorem s8 : SoundCall Tryz.prog 8 ⟨[.val true [.rd (.s1 eV), .rd (.s2 ei), .rd (.s1 ⟨true, [i8, i8, f1, f1]⟩), .rd (.b f1), .rd (.b f1), .rd (.s1 ⟨false, [f1]⟩), .rd (.b f1), .rd (.b f1), .rd (.b f1)]], [(true, [.own (.row (.s1 eV) 40), .own (.rows ei 2 54), .own (.row (.s1 ⟨true, [i8, i8, f1, f1]⟩) 142), .cell f1, .cell f1, .own (.row (.s1 ⟨false, [f1]⟩) 27), .cell f1, .cell f1, .cell f1])]⟩ (G 186) := sound (l := [(42, 145, ⟨[.val true [.rd (.s1 eV), .rd (.s2 ei)]], [(true, [.own (.row (.s1 eV) 40), .own (.rows ei 2 54)])]⟩), (43, 184, ⟨[p1 ⟨true, [i8, i8, f1, f1]⟩], [r1 ⟨true, [i8, i8, f1, f1]⟩ 142]⟩), (44, 185, ⟨[p1 ⟨false, [f1]⟩], [r1 ⟨false, [f1]⟩ 27]⟩), (45, 16, q12)]) (h := .e) noX Tryz.func8 (by kernel_rfl) (by kernel_rfl) (run186 rfl rfl rfl rfl) (.cons s42 (.cons s43 (.cons s44 (.cons s45 .nil))))
theorem s39 : SoundCall Tryz.prog 39 q10 (G 19) := sound (l := []) (h := .e) noX Tryz.func39 (by kernel_rfl) (by kernel_rfl) run19 .nil
theorem s144 : SoundCall Tryz.prog 144 q36 (G 149) := sound (l := [(39, 19, q10)]) (h := .e) noX Tryz.func144 (by kernel_rfl) (by kernel_rfl) (run149 rfl) (.cons s39 .nil)
theorem s96 : SoundCall Tryz.prog 96 ⟨[.ptr [.rd (.s1 eV), .rd (.s2 ei)]], [rv .bool]⟩ (G 150) := sound (l := [(144, 149, q36)]) (h := (zn .e (zn .e (zn (zn .e (.n (some (.mk 4 0 [(3, ji 8), (11, ju), (12, ju), (13, ju), (14, ju), (15, ju), (16, ju), (18, ji 9), (19, jm 0), (20, jm 0), (21, jm 1), (22, .c (.s (.dat (.s2 ei) (.v 1)))), (23, ji 10), (24, jb 11)] [])) (.n (some (.mk 1 0 [(3, ji 8), (11, ju), (12, ju), (13, ju), (14, ju), (15, ju), (16, ju)] [])) .e .e) .e)) .e)))) noX Tryz.func96 (by kernel_rfl) (by kernel_rfl) (run150s rfl) (.cons s144 .nil)
theorem s97 : SoundCall Tryz.prog 97 ⟨[.ptr [.rd (.b i8), .rd (.b i8), .rd (.b f1), .rd (.b f1)], pv i8], [rv .bool]⟩ (G 194) := sound (l := [(39, 19, q10)]) (h := .e) noX Tryz.func97 (by kernel_rfl) (by kernel_rfl) (run194 rfl) (.cons s39 .nil)
theorem s38 : SoundCall Tryz.prog 38 ⟨[.ptr [.rd (.s1 eV), .rd (.s2 ei), .rd (.s1 ⟨true, [i8, i8, f1, f1]⟩), .rd (.b f1), .rd (.b f1), .rd (.s1 ⟨false, [f1]⟩), .rd (.b f1), .rd (.b f1), .rd (.b f1)]], [rv .bool]⟩ (G 195) := sound (l := [(96, 150, ⟨[.ptr [.rd (.s1 eV), .rd (.s2 ei)]], [rv .bool]⟩), (97, 194, ⟨[.ptr [.rd (.b i8), .rd (.b i8), .rd (.b f1), .rd (.b f1)], pv i8], [rv .bool]⟩)]) (h := (zn .e (zn .e (zn (zn .e (.n (some (.mk 2 0 [(10, ju), (11, ju), (12, ju), (13, ju), (14, ju), (15, ju), (18, ju), (19, ju), (20, ju), (21, ju), (22, ju), (23, ju), (24, ju), (25, ju), (26, ju), (27, ju), (28, ju), (29, ju), (36, ji 22), (37, jb 23)] [])) (.n (some (.mk 1 0 [(10, ju), (11, ju), (12, ju), (13, ju), (14, ju), (15, ju), (18, ju), (19, ju), (20, ju), (21, ju), (22, ju), (23, ju), (24, ju), (25, ju), (26, ju), (27, ju), (28, ju), (29, ju), (36, ji 22)] [])) .e .e) .e)) .e)))) noX Tryz.func38 (by kernel_rfl) (by kernel_rfl) (run195s rfl rfl) (.cons s96 (.cons s97 .nil))
theorem s103 : SoundCall Tryz.prog 103 q0 (G 13) := sound (l := []) (h := .e) noX Tryz.func103 (by kernel_rfl) (by kernel_rfl) run13 .nil
theorem s146 : SoundCall Tryz.prog 146 q9 (G 14) := sound (l := []) (h := .e) noX Tryz.func146 (by kernel_rfl) (by kernel_rfl) run14 .nil
theorem s159 : SoundCall Tryz.prog 159 ⟨[pv f8], [rv f8]⟩ (G 9) := sound (X := [(175, .sqrt)]) (l := []) (h := .e) sqrtX Tryz.func159 (by kernel_rfl) (by kernel_rfl) run9 .nil
theorem s151 : SoundCall Tryz.prog 151 ⟨[pv f8], [rv f1]⟩ (G 10) := sound (l := []) (h := .e) noX Tryz.func151 (by kernel_rfl) (by kernel_rfl) run10 .nil
theorem s145 : SoundCall Tryz.prog 145 ⟨[pv f1], [rv f1]⟩ (G 11) := sound (l := [(159, 9, ⟨[pv f8], [rv f8]⟩), (151, 10, ⟨[pv f8], [rv f1]⟩)]) (h := .e) noX Tryz.func145 (by kernel_rfl) (by kernel_rfl) (run11' rfl rfl) (.cons s159 (.cons s151 .nil))
theorem s102 : SoundCall Tryz.prog 102 q6 (G 15) := sound (l := [(146, 14, q9), (145, 11, ⟨[pv f1], [rv f1]⟩)]) (h := .e) noX Tryz.func102 (by kernel_rfl) (by kernel_rfl) (run15 rfl rfl) (.cons s146 (.cons s145 .nil))
theorem s101 : SoundCall Tryz.prog 101 q43 (G 126) := sound (l := []) (h := .e) noX Tryz.func101 (by kernel_rfl) (by kernel_rfl) run126 .nil
theorem s98 : SoundCall Tryz.prog 98 ⟨[.ptr [.rd (.s1 eV), .rd (.s2 ei), .rd (.s1 ⟨true, [i8, i8, f1, f1]⟩), .rd (.b f1), .rd (.b f1), .rd (.s1 ⟨false, [f1]⟩), .rd (.b f1), .rd (.b f1), .rd (.b f1)], .ptr [.rd (.b i8), .rd (.b i8), .rd (.b f1), .rd (.b f1)]], [(true, [.cell f1, .cell f1, .cell f1]), rv f1]⟩ (G 526) := sound (l := [(103, 13, q0), (102, 15, q6), (101, 126, q43)]) (h := .e) noX Tryz.func98 (by kernel_rfl) (by kernel_rfl) (run526 rfl rfl rfl) (.cons s103 (.cons s102 (.cons s101 .nil)))
theorem s99 : SoundCall Tryz.prog 99 q11 (G 31) := sound (l := []) (h := .e) noX Tryz.func99 (by kernel_rfl) (by kernel_rfl) run31 .nil
theorem s60 : SoundCall Tryz.prog 60 q0 (G 30) := sound (l := []) (h := .e) noX Tryz.func60 (by kernel_rfl) (by kernel_rfl) run30 .nil
theorem s104 : SoundCall Tryz.prog 104 q0 (G 158) := sound (l := []) (h := .e) noX Tryz.func104 (by kernel_rfl) (by kernel_rfl) run158 .nil
theorem s100 : SoundCall Tryz.prog 100 q19 (G 160) := sound (l := [(103, 13, q0), (104, 158, q0)]) (h := .e) noX Tryz.func100 (by kernel_rfl) (by kernel_rfl) (run160 rfl rfl) (.cons s103 (.cons s104 .nil))
theorem s41 : SoundCall Tryz.prog 41 q28 (G 453) := sound (l := []) (h := .e) noX Tryz.func41 (by kernel_rfl) (by kernel_rfl) run453 .nil
theorem s154 : SoundCall Tryz.prog 154 q28 (G 210) := sound (l := []) (h := .e) noX Tryz.func154 (by kernel_rfl) (by kernel_rfl) run210m .nil
theorem s126 : SoundCall Tryz.prog 126 q26 (G 413) := sound (l := [(41, 453, q28), (154, 210, q28)]) (h := (zn .e (zn .e (zn .e (zn (zn .e (.n (some (.mk 5 0 [(5, ji 6), (22, ji 7), (23, jm 0), (24, jm 0), (25, jm 1), (26, .c (.s (.dat (.s2 ei) (.v 1)))), (27, ji 8), (28, jb 9)] [(0, .row (.s1 (.mk false [.bool])) 4 (.v 5))])) (.n (some (.mk 2 0 [(5, ji 6)] [(0, .row (.s1 (.mk false [.bool])) 4 (.v 5))])) (zn .e (zn (zn (zn .e (zn .e (.n (some (.mk 4 0 [(7, ji 11), (38, ji 12), (39, jb 13)] [(0, .row (.s1 (.mk false [.bool])) 4 (.v 10))])) (.n (some (.mk 2 0 [(7, ji 11)] [(0, .row (.s1 (.mk false [.bool])) 4 (.v 10))])) .e .e) .e))) .e) .e)) .e) .e)) (zn .e (zn (zn .e (.n (some (.mk 4 1 [(10, jo 2), (11, ji 12), (64, ji 13), (65, ji 2), (66, jb 14)] [(1, .dead), (2, .rows ei 2 54 0 (.v 11))])) (.n (some (.mk 2 1 [(10, jo 2), (11, ji 12)] [(1, .dead), (2, .rows ei 2 54 0 (.v 11))])) (zn .e (zn (zn (zn .e (.n (some (.mk 4 1 [(10, jo 3), (12, ji 16), (71, ji 17), (72, ji 2), (73, jb 18)] [(2, .dead), (3, .rows ei 2 54 0 (.v 15))])) (.n (some (.mk 2 1 [(10, jo 3), (12, ji 16)] [(2, .dead), (3, .rows ei 2 54 0 (.v 15))])) (zn .e (zn (zn (zn .e (.n (some (.mk 1 1 [(10, jo 4)] [(3, .dead), (4, .rows ei 2 54 0 (.v 22))])) .e .e)) .e) .e)) .e) .e)) .e) .e)) .e) .e)) .e))))))) noX Tryz.func126 (by kernel_rfl) (by kernel_rfl) (run413 rfl rfl) (.cons s41 (.cons s154 .nil))
theorem s162 : SoundCall Tryz.prog 162 q36 (G 205) := sound (l := []) (h := (zn .e (zn (zn .e (.n (some (.mk 4 0 [(5, ji 2), (6, ji 3), (7, .c (.s (.dat (.s1 ei) (.v 0)))), (8, ji 4), (9, jb 5)] [])) (.n (some (.mk 1 0 [(5, ji 2)] [])) .e .e) .e)) .e))) noX Tryz.func162 (by kernel_rfl) (by kernel_rfl) run205 .nil
theorem s147 : SoundCall Tryz.prog 147 ⟨[p1 ei, pv i8, pv i8], [rv i8]⟩ (G 529) := sound (l := [(162, 205, q36)]) (h := (zn .e (zn .e (zn (zn .e (.n (some (.mk 2 0 [(13, ju), (14, ju), (15, ju), (16, ju), (20, ji 11), (21, jb 12)] [])) (.n (some (.mk 1 0 [(13, ju), (14, ju), (15, ju), (16, ju), (20, ji 11)] [])) .e .e) .e)) .e)))) noX Tryz.func147 (by kernel_rfl) (by kernel_rfl) (run529 rfl) (.cons s162 .nil)
theorem s105 : SoundCall Tryz.prog 105 q26 (G 523) := sound (l := [(126, 413, q26), (147, 529, ⟨[p1 ei, pv i8, pv i8], [rv i8]⟩)]) (h := (zn .e (zn .e (zn .e (zn (zn .e (.n (some (.mk 3 1 [(3, jo 2), (16, ji 6), (17, jb 7)] [(0, .dead), (2, .rows ei 2 54 0 (.v 5))])) (.n (some (.mk 2 1 [(3, jo 2), (16, ji 6)] [(0, .dead), (2, .rows ei 2 54 0 (.v 5))])) (zn .e (zn .e (zn (zn (zn .e (zn .e (zn .e (zn .e (zn (zn .e (.n (some (.mk 3 1 [(8, jo 4), (39, ji 19), (40, jb 20)] [(3, .dead), (4, .row (.s1 ei) 2 (.v 18))])) (.n (some (.mk 2 1 [(8, jo 4), (39, ji 19)] [(3, .dead), (4, .row (.s1 ei) 2 (.v 18))])) (zn .e (zn .e (zn (zn (zn .e (zn .e (zn .e (.n (some (.mk 1 1 [(8, jo 5)] [(4, .dead), (5, .row (.s1 ei) 2 (.v 24))])) .e .e)))) .e) .e))) .e) .e)) (zn .e (.n (some (.mk 1 1 [(3, jo 5)] [(4, .dead), (2, .dead), (5, .rows ei 2 54 0 (.v 23))])) .e .e))))))) .e) .e))) .e) .e)) .e))))) noX Tryz.func105 (by kernel_rfl) (by kernel_rfl) (run523s rfl rfl) (.cons s126 (.cons s147 .nil))
theorem s106 : SoundCall Tryz.prog 106 q19 (G 524) := sound (l := [(60, 30, q0), (103, 13, q0)]) (h := .e) noX Tryz.func106 (by kernel_rfl) (by kernel_rfl) (run524 rfl rfl) (.cons s60 (.cons s103 .nil))
theorem s40 : SoundCall Tryz.prog 40 ⟨[.ptr [.rd (.s1 eV), .rd (.s2 ei), .rd (.s1 ⟨true, [i8, i8, f1, f1]⟩), .rd (.b f1), .rd (.b f1), .rd (.s1 ⟨false, [f1]⟩), .rd (.b f1), .rd (.b f1), .rd (.b f1)]], [r1 eV 40]⟩ (G 521) := sound (l := [(98, 526, ⟨[.ptr [.rd (.s1 eV), .rd (.s2 ei), .rd (.s1 ⟨true, [i8, i8, f1, f1]⟩), .rd (.b f1), .rd (.b f1), .rd (.s1 ⟨false, [f1]⟩), .rd (.b f1), .rd (.b f1), .rd (.b f1)], .ptr [.rd (.b i8), .rd (.b i8), .rd (.b f1), .rd (.b f1)]], [(true, [.cell f1, .cell f1, .cell f1]), rv f1]⟩), (99, 31, q11), (60, 30, q0), (100, 160, q19), (102, 15, q6), (101, 126, q43), (103, 13, q0), (104, 158, q0), (105, 523, q26), (106, 524, q19)]) (h := (zn .e (zn .e (zn .e (zn (zn .e (.n (some (.mk 3 0 [(34, ji 13), (35, jb 14)] [(0, .row (.s1 eV) 40 (.v 12))])) (.n (some (.mk 2 0 [(34, ji 13)] [(0, .row (.s1 eV) 40 (.v 12))])) .e .e) .e)) (zn (zn .e (.n (some (.mk 3 0 [(90, ji 17), (91, jb 18)] [(0, .row (.s1 eV) 40 (.v 16))])) (.n (some (.mk 2 0 [(90, ji 17)] [(0, .row (.s1 eV) 40 (.v 16))])) (zn .e (zn .e (zn (zn (zn .e (zn .e (zn .e (zn .e (zn .e (.n (some (.mk 4 0 [(13, ji 28), (112, ji 29), (113, jb 30)] [(0, .row (.s1 eV) 40 (.v 27))])) (.n (some (.mk 2 0 [(13, ji 28)] [(0, .row (.s1 eV) 40 (.v 27))])) .e .e) .e)))))) .e) .e))) .e) .e)) (zn .e (zn (zn .e (.n (some (.mk 3 0 [(165, ji 22), (166, jb 23)] [(0, .row (.s1 eV) 40 (.v 21))])) (.n (some (.mk 2 0 [(165, ji 22)] [(0, .row (.s1 eV) 40 (.v 21))])) .e .e) .e)) (zn (zn .e (.n (some (.mk 3 0 [(255, ji 26), (256, jb 27)] [(0, .row (.s1 eV) 40 (.v 25))])) (.n (some (.mk 2 0 [(255, ji 26)] [(0, .row (.s1 eV) 40 (.v 25))])) .e .e) .e)) .e))))))))) noX Tryz.func40 (by kernel_rfl) (by kernel_rfl) (run521s rfl rfl rfl rfl rfl rfl rfl rfl rfl rfl) (.cons s98 (.cons s99 (.cons s60 (.cons s100 (.cons s102 (.cons s101 (.cons s103 (.cons s104 (.cons s105 (.cons s106 .nil))))))))))
theorem s7 : SoundCall Tryz.prog 7 q1 (G 525) := sound (l := [(38, 195, ⟨[.ptr [.rd (.s1 eV), .rd (.s2 ei), .rd (.s1 ⟨true, [i8, i8, f1, f1]⟩), .rd (.b f1), .rd (.b f1), .rd (.s1 ⟨false, [f1]⟩), .rd (.b f1), .rd (.b f1), .rd (.b f1)]], [rv .bool]⟩), (39, 19, q10), (40, 521, ⟨[.ptr [.rd (.s1 eV), .rd (.s2 ei), .rd (.s1 ⟨true, [i8, i8, f1, f1]⟩), .rd (.b f1), .rd (.b f1), .rd (.s1 ⟨false, [f1]⟩), .rd (.b f1), .rd (.b f1), .rd (.b f1)]], [r1 eV 40]⟩), (41, 453, q28)]) (h := .e) noX Tryz.func7 (by kernel_rfl) (by kernel_rfl) (run525s rfl rfl rfl rfl) (.cons s38 (.cons s39 (.cons s40 (.cons s41 .nil))))
theorem s47 : SoundCall Tryz.prog 47 q10 (G 19) := sound (l := []) (h := .e) noX Tryz.func47 (by kernel_rfl) (by kernel_rfl) run19 .nil
theorem s67 : SoundCall Tryz.prog 67 ⟨[.val true [.rd (.s1 eV), .rd (.s2 ei)]], [rv .bool]⟩ (G 150) := sound (l := [(47, 19, q10)]) (h := (zn .e (zn .e (zn .e (zn (zn .e (.n (some (.mk 2 0 [(14, ju), (15, ju), (16, ju), (17, ju), (22, ji 9), (23, jb 10)] [])) (.n (some (.mk 1 0 [(14, ju), (15, ju), (16, ju), (17, ju), (22, ji 9)] [])) (zn .e (zn .e (zn (zn (zn .e (zn .e (zn .e (.n (some (.mk 2 0 [(30, ju), (31, ju), (32, ju), (33, ju), (34, ju), (35, ju), (36, ju), (39, ju), (40, ju), (41, ju), (42, ju), (43, ju), (44, ju), (45, ju), (48, ju), (49, ju), (50, ju), (51, ju), (52, ju), (53, ju), (54, ju), (58, ji 39), (59, jb 40)] [])) (.n (some (.mk 1 0 [(30, ju), (31, ju), (32, ju), (33, ju), (34, ju), (35, ju), (36, ju), (39, ju), (40, ju), (41, ju), (42, ju), (43, ju), (44, ju), (45, ju), (48, ju), (49, ju), (50, ju), (51, ju), (52, ju), (53, ju), (54, ju), (58, ji 39)] [])) .e .e) .e)))) .e) .e))) .e) .e)) .e))))) noX Tryz.func67 (by kernel_rfl) (by kernel_rfl) (run150 rfl) (.cons s47 .nil)
theorem s46 : SoundCall Tryz.prog 46 ⟨[.val true [.rd (.s1 eV), .rd (.s2 ei), .rd (.s1 ⟨true, [i8, i8, f1, f1]⟩), .rd (.b f1), .rd (.b f1), .rd (.s1 ⟨false, [f1]⟩), .rd (.b f1), .rd (.b f1), .rd (.b f1)]], [rv .bool]⟩ (G 195) := sound (l := [(67, 150, ⟨[.val true [.rd (.s1 eV), .rd (.s2 ei)]], [rv .bool]⟩), (47, 19, q10)]) (h := (zn .e (zn .e (zn .e (zn (zn .e (.n (some (.mk 2 0 [(15, ju), (16, ju), (17, ju), (18, ju), (21, ju), (22, ju), (23, ju), (24, ju), (25, ju), (30, ji 22), (31, jb 23)] [])) (.n (some (.mk 1 0 [(15, ju), (16, ju), (17, ju), (18, ju), (21, ju), (22, ju), (23, ju), (24, ju), (25, ju), (30, ji 22)] [])) .e .e) .e)) .e))))) noX Tryz.func46 (by kernel_rfl) (by kernel_rfl) (run195 rfl rfl) (.cons s67 (.cons s47 .nil))
theorem s112 : SoundCall Tryz.prog 112 q11 (G 31) := sound (l := []) (h := .e) noX Tryz.func112 (by kernel_rfl) (by kernel_rfl) run31 .nil
theorem s111 : SoundCall Tryz.prog 111 q0 (G 30) := sound (l := []) (h := .e) noX Tryz.func111 (by kernel_rfl) (by kernel_rfl) run30 .nil
theorem s110 : SoundCall Tryz.prog 110 ⟨[pv i8, .val true [.rd (.b f1), .rd (.b f1), .rd (.b f1)], pv f1, .ptr [.mt (.row (.s1 eV) 40) true]], []⟩ (G 522) := sound (l := [(112, 31, q11), (111, 30, q0)]) (h := .e) noX Tryz.func110 (by kernel_rfl) (by kernel_rfl) (run522 rfl rfl) (.cons s112 (.cons s111 .nil))
theorem s116 : SoundCall Tryz.prog 116 q0 (G 13) := sound (l := []) (h := .e) noX Tryz.func116 (by kernel_rfl) (by kernel_rfl) run13 .nil
theorem s113 : SoundCall Tryz.prog 113 ⟨[.val true [.rd (.s1 eV), .rd (.s2 ei), .rd (.s1 ⟨true, [i8, i8, f1, f1]⟩), .rd (.b f1), .rd (.b f1), .rd (.s1 ⟨false, [f1]⟩), .rd (.b f1), .rd (.b f1), .rd (.b f1)], .val true [.rd (.b i8), .rd (.b i8), .rd (.b f1), .rd (.b f1)]], [(true, [.cell f1, .cell f1, .cell f1])]⟩ (G 201) := sound (l := [(116, 13, q0)]) (h := .e) noX Tryz.func113 (by kernel_rfl) (by kernel_rfl) (run201 rfl) (.cons s116 .nil)
theorem s139 : SoundCall Tryz.prog 139 q9 (G 14) := sound (l := []) (h := .e) noX Tryz.func139 (by kernel_rfl) (by kernel_rfl) run14 .nil
theorem s138 : SoundCall Tryz.prog 138 ⟨[pv f1], [rv f1]⟩ (G 11) := sound (l := [(159, 9, ⟨[pv f8], [rv f8]⟩)]) (h := .e) noX Tryz.func138 (by kernel_rfl) (by kernel_rfl) (run11 rfl) (.cons s159 .nil)
theorem s88 : SoundCall Tryz.prog 88 q6 (G 15) := sound (l := [(139, 14, q9), (138, 11, ⟨[pv f1], [rv f1]⟩)]) (h := .e) noX Tryz.func88 (by kernel_rfl) (by kernel_rfl) (run15 rfl rfl) (.cons s139 (.cons s138 .nil))
theorem s114 : SoundCall Tryz.prog 114 ⟨[.val true [.rd (.b f1), .rd (.b f1), .rd (.b f1)], .val true [.rd (.b i8), .rd (.b i8), .rd (.b f1), .rd (.b f1)]], [rv f1]⟩ (G 520) := sound (l := [(88, 15, q6)]) (h := .e) noX Tryz.func114 (by kernel_rfl) (by kernel_rfl) (run520 rfl) (.cons s88 .nil)
theorem s115 : SoundCall Tryz.prog 115 q0 (G 158) := sound (l := []) (h := .e) noX Tryz.func115 (by kernel_rfl) (by kernel_rfl) run158 .nil
theorem s89 : SoundCall Tryz.prog 89 q14 (G 160) := sound (l := [(116, 13, q0), (115, 158, q0)]) (h := .e) noX Tryz.func89 (by kernel_rfl) (by kernel_rfl) (run160 rfl rfl) (.cons s116 (.cons s115 .nil))
theorem s72 : SoundCall Tryz.prog 72 ⟨[pv i8, pv i8], [(true, [.cell i8, .cell i8])]⟩ (G 400) := sound (l := []) (h := .e) noX Tryz.func72 (by kernel_rfl) (by kernel_rfl) run400 .nil
theorem s191 : SoundCall Tryz.prog 191 ⟨[pv i8], [rv .bool]⟩ (G 452) := sound (l := []) (h := .e) noX Tryz.func191 (by kernel_rfl) (by kernel_rfl) run452 .nil
theorem s174 : SoundCall Tryz.prog 174 q28 (G 451) := sound (l := [(191, 452, ⟨[pv i8], [rv .bool]⟩)]) (h := .e) noX Tryz.func174 (by kernel_rfl) (by kernel_rfl) (run451 rfl) (.cons s191 .nil)
theorem s157 : SoundCall Tryz.prog 157 ⟨[p1 ei, p1 ei], [rv i8]⟩ (G 450) := sound (l := [(174, 451, q28)]) (h := (zn .e (zn (zn .e (.n (some (.mk 2 0 [(11, ji 3), (12, jb 4)] [])) (.n (some (.mk 1 0 [(11, ji 3)] [])) .e .e) .e)) .e))) noX Tryz.func157 (by kernel_rfl) (by kernel_rfl) (run450 rfl) (.cons s174 .nil)
theorem s129 : SoundCall Tryz.prog 129 ⟨[.val true [.rd (.b i8), .rd (.b i8)], .val true [.rd (.b i8), .rd (.b i8)]], [rv i8]⟩ (G 449) := sound (l := [(157, 450, ⟨[p1 ei, p1 ei], [rv i8]⟩)]) (h := .e) noX Tryz.func129 (by kernel_rfl) (by kernel_rfl) (run449 rfl) (.cons s157 .nil)
def srt_ren : Go.Shelf.Ren := ⟨fun | 6 => 128 | 15 => 156 | 14 => 155 | 28 => 172 | 29 => 173 | 20 => 164 | 21 => 165 | 22 => 166 | 23 => 167 | 24 => 168 | 25 => 169 | 26 => 170 | 27 => 171 | 46 => 186 | 47 => 187 | 48 => 188 | 49 => 189 | 50 => 190 | 57 => 195 | n => n, fun | 22 => 113 | 24 => 119 | 25 => 166 | 3 => 3 | 39 => 180 | 0 => 0 | 53 => 199 | 55 => 158 | 4 => 4 | 46 => 192 | 45 => 191 | 50 => 196 | 5 => 5 | 9 => 9 | 66 => 209 | 70 => 213 | 76 => 218 | 77 => 219 | n => n, fun n => n⟩
theorem srt : SlLaysF0.n6 Tryz.prog srt_ren where
 mixed := by kernel_rfl
 f6 := ⟨Tryz.f128.name, by kernel_rfl, Tryz.func128.trans (congrArg some (by kernel_rfl))⟩
 f14 := ⟨Tryz.f155.name, by kernel_rfl, Tryz.func155.trans (congrArg some (by kernel_rfl))⟩
 f15 := Tryz.func156.trans (congrArg some (by kernel_rfl))
 f20 := ⟨Tryz.f164.name, by kernel_rfl, Tryz.func164.trans (congrArg some (by kernel_rfl))⟩
 f21 := ⟨Tryz.f165.name, by kernel_rfl, Tryz.func165.trans (congrArg some (by kernel_rfl))⟩
 f22 := ⟨Tryz.f166.name, by kernel_rfl, Tryz.func166.trans (congrArg some (by kernel_rfl))⟩
 f23 := ⟨Tryz.f167.name, by kernel_rfl, Tryz.func167.trans (congrArg some (by kernel_rfl))⟩
 f24 := ⟨Tryz.f168.name, by kernel_rfl, Tryz.func168.trans (congrArg some (by kernel_rfl))⟩
 f25 := ⟨Tryz.f169.name, by kernel_rfl, Tryz.func169.trans (congrArg some (by kernel_rfl))⟩
 f26 := ⟨Tryz.f170.name, by kernel_rfl, Tryz.func170.trans (congrArg some (by kernel_rfl))⟩
 f27 := ⟨Tryz.f171.name, by kernel_rfl, Tryz.func171.trans (congrArg some (by kernel_rfl))⟩
 f28 := Tryz.func172.trans (congrArg some (by kernel_rfl))
 f29 := Tryz.func173.trans (congrArg some (by kernel_rfl))
 f46 := ⟨Tryz.f186.name, by kernel_rfl, Tryz.func186.trans (congrArg some (by kernel_rfl))⟩
 f47 := Tryz.func187.trans (congrArg some (by kernel_rfl))
 f48 := Tryz.func188.trans (congrArg some (by kernel_rfl))
 f49 := ⟨Tryz.f189.name, by kernel_rfl, Tryz.func189.trans (congrArg some (by kernel_rfl))⟩
 f50 := ⟨Tryz.f190.name, by kernel_rfl, Tryz.func190.trans (congrArg some (by kernel_rfl))⟩
 f57 := ⟨Tryz.f195.name, by kernel_rfl, Tryz.func195.trans (congrArg some (by kernel_rfl))⟩
 t0 := Tryz.underlying0
 a0 := Tryz.isAgg0
 z0 := Tryz.sizeOf0
 v0 := Tryz.zeroValue0
 t3 := Tryz.underlying3
 a3 := Tryz.isAgg3
 z3 := Tryz.sizeOf3
 v3 := Tryz.zeroValue3
 t4 := Tryz.underlying4
 a4 := Tryz.isAgg4
 z4 := Tryz.sizeOf4
 v4 := Tryz.zeroValue4
 t5 := Tryz.underlying5
 a5 := Tryz.isAgg5
 z5 := Tryz.sizeOf5
 v5 := Tryz.zeroValue5
 t9 := Tryz.underlying9
 a9 := Tryz.isAgg9
 z9 := Tryz.sizeOf9
 v9 := Tryz.zeroValue9
 t22 := Tryz.underlying113
 a22 := Tryz.isAgg113
 z22 := Tryz.sizeOf113
 v22 := Tryz.zeroValue113
 t25 := Tryz.underlying166
 a25 := Tryz.isAgg166
 z25 := Tryz.sizeOf166
 v25 := Tryz.zeroValue166
 t39 := Tryz.underlying180
 a39 := Tryz.isAgg180
 z39 := Tryz.sizeOf180
 v39 := Tryz.zeroValue180
 t45 := Tryz.underlying191
 a45 := Tryz.isAgg191
 z45 := Tryz.sizeOf191
 v45 := Tryz.zeroValue191
 t46 := Tryz.underlying192
 a46 := Tryz.isAgg192
 z46 := Tryz.sizeOf192
 v46 := Tryz.zeroValue192
 t50 := Tryz.underlying196
 a50 := Tryz.isAgg196
 z50 := Tryz.sizeOf196
 v50 := Tryz.zeroValue196
 t53 := Tryz.underlying199
 a53 := Tryz.isAgg199
 z53 := Tryz.sizeOf199
 v53 := Tryz.zeroValue199
 t55 := Tryz.underlying158
 a55 := Tryz.isAgg158
 z55 := Tryz.sizeOf158
 v55 := Tryz.zeroValue158
 t66 := Tryz.underlying209
 a66 := Tryz.isAgg209
 z66 := Tryz.sizeOf209
 v66 := Tryz.zeroValue209
 t70 := Tryz.underlying213
 a70 := Tryz.isAgg213
 z70 := Tryz.sizeOf213
 v70 := Tryz.zeroValue213
 t76 := Tryz.underlying218
 a76 := Tryz.isAgg218
 z76 := Tryz.sizeOf218
 v76 := Tryz.zeroValue218
 t77 := Tryz.underlying219
 a77 := Tryz.isAgg219
 z77 := Tryz.sizeOf219
 v77 := Tryz.zeroValue219
theorem cmpF : ∀ x y : Int × Int, G 449 [.int x.1, .int x.2, .int y.1, .int y.2] = some [.int (cmpE x y)] := fun _ _ => rfl
theorem s128 : SoundCall Tryz.prog 128 ⟨[m1 ⟨true, [i8, i8]⟩ 119 true, .fn 129 []], []⟩ (G 402) := sortFunc_sound srt Tryz.isAgg119 Tryz.sizeOf119 s129 cmpF
theorem s69 : SoundCall Tryz.prog 69 ⟨[.val true [.rd (.s1 eV), .rd (.s2 ei)]], [(false, [.own (.map ⟨112, 119, 2, .s ei 2⟩)]), r1 ⟨true, [i8, i8]⟩ 119]⟩ (G 401) := sound (l := [(72, 400, ⟨[pv i8, pv i8], [(true, [.cell i8, .cell i8])]⟩), (128, 402, ⟨[m1 ⟨true, [i8, i8]⟩ 119 true, .fn 129 []], []⟩)]) (h := (zn .e (zn .e (zn (zn .e (.n (some (.mk 4 1 [(5, jo 3), (15, ji 6), (16, jb 7)] [(1, .map (.mk 112 119 2 (.s ei 2)) 0 (.v 4) none), (2, .dead), (3, .row (.s1 (.mk true [(.int .i64), (.int .i64)])) 119 (.v 5))])) (.n (some (.mk 3 1 [(5, jo 3), (15, ji 6)] [(1, .map (.mk 112 119 2 (.s ei 2)) 0 (.v 4) none), (2, .dead), (3, .row (.s1 (.mk true [(.int .i64), (.int .i64)])) 119 (.v 5))])) (zn .e (zn .e (zn (zn (zn .e (zn .e (.n (some (.mk 4 1 [(5, jo 4), (20, ji 11), (21, jb 12)] [(1, .map (.mk 112 119 2 (.s ei 2)) 0 (.v 9) none), (3, .dead), (4, .row (.s1 (.mk true [(.int .i64), (.int .i64)])) 119 (.v 10))])) (.n (some (.mk 3 1 [(5, jo 4), (20, ji 11)] [(1, .map (.mk 112 119 2 (.s ei 2)) 0 (.v 9) none), (3, .dead), (4, .row (.s1 (.mk true [(.int .i64), (.int .i64)])) 119 (.v 10))])) (zn .e (zn .e (zn (zn (zn .e (zn .e (zn (zn .e (.n (some (.mk 1 1 [(5, jo 6)] [(4, .dead), (6, .row (.s1 (.mk true [(.int .i64), (.int .i64)])) 119 (.v 23))])) .e .e)) .e))) .e) .e))) .e) .e))) .e) .e))) .e) .e)) .e)))) noX Tryz.func69 (by kernel_rfl) (by kernel_rfl) (run401 rfl rfl) (.cons s72 (.cons s128 .nil))
theorem s86 : SoundCall Tryz.prog 86 ⟨[p1 ei, .val true [.rd (.b i8), .rd (.b i8)]], [rv i8]⟩ (G 408) := sound (l := []) (h := .e) noX Tryz.func86 (by kernel_rfl) (by kernel_rfl) run408 .nil
theorem s117 : SoundCall Tryz.prog 117 ⟨[.val true [.rd (.s1 eV), .rd (.s2 ei)]], [r2 ei 2 54]⟩ (G 523) := sound (l := [(69, 401, ⟨[.val true [.rd (.s1 eV), .rd (.s2 ei)]], [(false, [.own (.map ⟨112, 119, 2, .s ei 2⟩)]), r1 ⟨true, [i8, i8]⟩ 119]⟩), (86, 408, ⟨[p1 ei, .val true [.rd (.b i8), .rd (.b i8)]], [rv i8]⟩)]) (h := (zn .e (zn .e (zn .e (zn (zn .e (.n (some (.mk 3 1 [(3, jo 4), (17, ji 7), (18, jb 8)] [(1, .dead), (4, .rows ei 2 54 0 (.v 6))])) (.n (some (.mk 2 1 [(3, jo 4), (17, ji 7)] [(1, .dead), (4, .rows ei 2 54 0 (.v 6))])) (zn .e (zn .e (zn (zn (zn .e (zn .e (zn .e (.n (some (.mk 1 1 [(3, jo 6)] [(4, .dead), (6, .rows ei 2 54 0 (.v 17))])) .e .e)))) .e) .e))) .e) .e)) .e))))) noX Tryz.func117 (by kernel_rfl) (by kernel_rfl) (run523 rfl rfl) (.cons s69 (.cons s86 .nil))
theorem s118 : SoundCall Tryz.prog 118 q14 (G 524) := sound (l := [(111, 30, q0), (116, 13, q0)]) (h := .e) noX Tryz.func118 (by kernel_rfl) (by kernel_rfl) (run524 rfl rfl) (.cons s111 (.cons s116 .nil))
theorem s48 : SoundCall Tryz.prog 48 ⟨[.val true [.rd (.s1 eV), .rd (.s2 ei), .rd (.s1 ⟨true, [i8, i8, f1, f1]⟩), .rd (.b f1), .rd (.b f1), .rd (.s1 ⟨false, [f1]⟩), .rd (.b f1), .rd (.b f1), .rd (.b f1)]], [r1 eV 40]⟩ (G 521) := sound (l := [(110, 522, ⟨[pv i8, .val true [.rd (.b f1), .rd (.b f1), .rd (.b f1)], pv f1, .ptr [.mt (.row (.s1 eV) 40) true]], []⟩), (113, 201, ⟨[.val true [.rd (.s1 eV), .rd (.s2 ei), .rd (.s1 ⟨true, [i8, i8, f1, f1]⟩), .rd (.b f1), .rd (.b f1), .rd (.s1 ⟨false, [f1]⟩), .rd (.b f1), .rd (.b f1), .rd (.b f1)], .val true [.rd (.b i8), .rd (.b i8), .rd (.b f1), .rd (.b f1)]], [(true, [.cell f1, .cell f1, .cell f1])]⟩), (114, 520, ⟨[.val true [.rd (.b f1), .rd (.b f1), .rd (.b f1)], .val true [.rd (.b i8), .rd (.b i8), .rd (.b f1), .rd (.b f1)]], [rv f1]⟩), (89, 160, q14), (88, 15, q6), (116, 13, q0), (115, 158, q0), (117, 523, ⟨[.val true [.rd (.s1 eV), .rd (.s2 ei)]], [r2 ei 2 54]⟩), (118, 524, q14)]) (h := (zn .e (zn .e (zn .e (zn (zn .e (.n (some (.mk 3 0 [(32, ji 13), (33, jb 14)] [(1, .row (.s1 eV) 40 (.v 12))])) (.n (some (.mk 2 0 [(32, ji 13)] [(1, .row (.s1 eV) 40 (.v 12))])) .e .e) .e)) (zn .e (zn (zn .e (.n (some (.mk 3 0 [(63, ji 17), (64, jb 18)] [(1, .row (.s1 eV) 40 (.v 16))])) (.n (some (.mk 2 0 [(63, ji 17)] [(1, .row (.s1 eV) 40 (.v 16))])) (zn .e (zn .e (zn (zn (zn .e (zn .e (zn .e (zn (zn .e (zn .e (.n (some (.mk 1 0 [(13, jf 25)] [])) .e .e))) (zn .e (.n (some (.mk 3 0 [(81, ji 27), (82, jb 28)] [(1, .row (.s1 eV) 40 (.v 26))])) (.n (some (.mk 2 0 [(81, ji 27)] [(1, .row (.s1 eV) 40 (.v 26))])) .e .e) .e)))))) .e) .e))) .e) .e)) (zn (zn .e (.n (some (.mk 3 0 [(120, ji 22), (121, jb 23)] [(1, .row (.s1 eV) 40 (.v 21))])) (.n (some (.mk 2 0 [(120, ji 22)] [(1, .row (.s1 eV) 40 (.v 21))])) .e .e) .e)) (zn (zn .e (.n (some (.mk 3 0 [(166, ji 26), (167, jb 27)] [(1, .row (.s1 eV) 40 (.v 25))])) (.n (some (.mk 2 0 [(166, ji 26)] [(1, .row (.s1 eV) 40 (.v 25))])) .e .e) .e)) .e))))))))) noX Tryz.func48 (by kernel_rfl) (by kernel_rfl) (run521 rfl rfl rfl rfl rfl rfl rfl rfl rfl) (.cons s110 (.cons s113 (.cons s114 (.cons s89 (.cons s88 (.cons s116 (.cons s115 (.cons s117 (.cons s118 .nil)))))))))
theorem s9 : SoundCall Tryz.prog 9 q1 (G 525) := sound (l := [(46, 195, ⟨[.val true [.rd (.s1 eV), .rd (.s2 ei), .rd (.s1 ⟨true, [i8, i8, f1, f1]⟩), .rd (.b f1), .rd (.b f1), .rd (.s1 ⟨false, [f1]⟩), .rd (.b f1), .rd (.b f1), .rd (.b f1)]], [rv .bool]⟩), (47, 19, q10), (48, 521, ⟨[.val true [.rd (.s1 eV), .rd (.s2 ei), .rd (.s1 ⟨true, [i8, i8, f1, f1]⟩), .rd (.b f1), .rd (.b f1), .rd (.s1 ⟨false, [f1]⟩), .rd (.b f1), .rd (.b f1), .rd (.b f1)]], [r1 eV 40]⟩)]) (h := .e) noX Tryz.func9 (by kernel_rfl) (by kernel_rfl) (run525 rfl rfl rfl) (.cons s46 (.cons s47 (.cons s48 .nil)))
theorem s52 : SoundCall Tryz.prog 52 q24 (G 4) := sound (l := []) (h := .e) noX Tryz.func52 (by kernel_rfl) (by kernel_rfl) run4 .nil
theorem s49 : SoundCall Tryz.prog 49 q8 (G 40) := sound (l := [(52, 4, q24)]) (h := .e) noX Tryz.func49 (by kernel_rfl) (by kernel_rfl) (run40 rfl) (.cons s52 .nil)
theorem s10 : SoundCall Tryz.prog 10 q39 (G 127) := sound (l := [(49, 40, q8)]) (h := (zn .e (zn .e (zn (zn .e (.n (some (.mk 4 0 [(5, ji 5), (11, ji 6), (12, .c (.s (.dat (.s1 eV) (.v 0)))), (13, ji 7), (14, jb 8)] [])) (.n (some (.mk 1 0 [(5, ji 5)] [])) .e .e) .e)) .e)))) noX Tryz.func10 (by kernel_rfl) (by kernel_rfl) (run127 rfl) (.cons s49 .nil)
theorem s149 : SoundCall Tryz.prog 149 ⟨[p1 ei, p1 ei], [rv .bool]⟩ (G 100) := sound (l := []) (h := (zn .e (zn .e (zn (zn .e (.n (some (.mk 4 0 [(5, ji 5), (11, ji 6), (12, .c (.s (.dat (.s1 ei) (.v 0)))), (13, ji 7), (14, jb 8)] [])) (.n (some (.mk 1 0 [(5, ji 5)] [])) .e .e) .e)) .e)))) noX Tryz.func149 (by kernel_rfl) (by kernel_rfl) run100 .nil
theorem s119 : SoundCall Tryz.prog 119 ⟨[p2 ei, p2 ei], [rv .bool]⟩ (G 101) := sound (l := [(149, 100, ⟨[p1 ei, p1 ei], [rv .bool]⟩)]) (h := (zn .e (zn .e (zn (zn .e (.n (some (.mk 4 0 [(5, ji 5), (11, ji 6), (12, .c (.s (.dat (.s2 ei) (.v 0)))), (13, ji 7), (14, jb 8)] [])) (.n (some (.mk 1 0 [(5, ji 5)] [])) .e .e) .e)) .e)))) noX Tryz.func119 (by kernel_rfl) (by kernel_rfl) (run101 rfl) (.cons s149 .nil)
theorem s50 : SoundCall Tryz.prog 50 ⟨[.val true [.rd (.s1 eV), .rd (.s2 ei)], .val true [.rd (.s1 eV), .rd (.s2 ei)]], [rv .bool]⟩ (G 146) := sound (l := [(10, 127, q39), (119, 101, ⟨[p2 ei, p2 ei], [rv .bool]⟩)]) (h := .e) noX Tryz.func50 (by kernel_rfl) (by kernel_rfl) (run146 rfl rfl) (.cons s10 (.cons s119 .nil))
theorem s120 : SoundCall Tryz.prog 120 ⟨[.val true [.rd (.b i8), .rd (.b i8), .rd (.b f1), .rd (.b f1)], .val true [.rd (.b i8), .rd (.b i8), .rd (.b f1), .rd (.b f1)]], [rv .bool]⟩ (G 187) := sound (l := [(52, 4, q24)]) (h := .e) noX Tryz.func120 (by kernel_rfl) (by kernel_rfl) (run187 rfl) (.cons s52 .nil)
theorem s51 : SoundCall Tryz.prog 51 ⟨[p1 ⟨true, [i8, i8, f1, f1]⟩, p1 ⟨true, [i8, i8, f1, f1]⟩], [rv .bool]⟩ (G 188) := sound (l := [(120, 187, ⟨[.val true [.rd (.b i8), .rd (.b i8), .rd (.b f1), .rd (.b f1)], .val true [.rd (.b i8), .rd (.b i8), .rd (.b f1), .rd (.b f1)]], [rv .bool]⟩)]) (h := (zn .e (zn .e (zn (zn .e (.n (some (.mk 4 0 [(5, ji 5), (11, ji 6), (12, .c (.s (.dat (.s1 (.mk true [(.int .i64), (.int .i64), (.flt .f32), (.flt .f32)])) (.v 0)))), (13, ji 7), (14, jb 8)] [])) (.n (some (.mk 1 0 [(5, ji 5)] [])) .e .e) .e)) .e)))) noX Tryz.func51 (by kernel_rfl) (by kernel_rfl) (run188 rfl) (.cons s120 .nil)
theorem s53 : SoundCall Tryz.prog 53 ⟨[p1 ⟨false, [f1]⟩, p1 ⟨false, [f1]⟩], [rv .bool]⟩ (G 189) := sound (l := [(52, 4, q24)]) (h := (zn .e (zn .e (zn (zn .e (.n (some (.mk 4 0 [(5, ji 5), (11, ji 6), (12, .c (.s (.dat (.s1 (.mk false [(.flt .f32)])) (.v 0)))), (13, ji 7), (14, jb 8)] [])) (.n (some (.mk 1 0 [(5, ji 5)] [])) .e .e) .e)) .e)))) noX Tryz.func53 (by kernel_rfl) (by kernel_rfl) (run189 rfl) (.cons s52 .nil)
theorem s11 : SoundCall Tryz.prog 11 ⟨[.val true [.rd (.s1 eV), .rd (.s2 ei), .rd (.s1 ⟨true, [i8, i8, f1, f1]⟩), .rd (.b f1), .rd (.b f1), .rd (.s1 ⟨false, [f1]⟩), .rd (.b f1), .rd (.b f1), .rd (.b f1)], .val true [.rd (.s1 eV), .rd (.s2 ei), .rd (.s1 ⟨true, [i8, i8, f1, f1]⟩), .rd (.b f1), .rd (.b f1), .rd (.s1 ⟨false, [f1]⟩), .rd (.b f1), .rd (.b f1), .rd (.b f1)]], [rv .bool]⟩ (G 190) := sound (l := [(50, 146, ⟨[.val true [.rd (.s1 eV), .rd (.s2 ei)], .val true [.rd (.s1 eV), .rd (.s2 ei)]], [rv .bool]⟩), (51, 188, ⟨[p1 ⟨true, [i8, i8, f1, f1]⟩, p1 ⟨true, [i8, i8, f1, f1]⟩], [rv .bool]⟩), (52, 4, q24), (53, 189, ⟨[p1 ⟨false, [f1]⟩, p1 ⟨false, [f1]⟩], [rv .bool]⟩), (49, 40, q8)]) (h := .e) noX Tryz.func11 (by kernel_rfl) (by kernel_rfl) (run190 rfl rfl rfl rfl rfl) (.cons s50 (.cons s51 (.cons s52 (.cons s53 (.cons s49 .nil)))))
theorem s13 : SoundCall Tryz.prog 13 q34 (G 128) := sound (l := []) (h := (zn .e (zn (zn .e (.n (some (.mk 6 0 [(1, ji 3), (5, ji 4), (6, ji 5), (7, jo 0), (8, ji 6), (9, jb 7)] [(0, .row (.s1 eV) 40 (.v 2))])) (.n (some (.mk 3 0 [(1, ji 3), (5, ji 4)] [(0, .row (.s1 eV) 40 (.v 2))])) .e .e) .e)) .e))) noX Tryz.func13 (by kernel_rfl) (by kernel_rfl) run128 .nil
theorem s150 : SoundCall Tryz.prog 150 ⟨[m1 ei 2 true, pv i8], [rv i8]⟩ (G 102) := sound (l := []) (h := (zn .e (zn (zn .e (.n (some (.mk 6 0 [(1, ji 3), (5, ji 4), (6, ji 5), (7, jo 0), (8, ji 6), (9, jb 7)] [(0, .row (.s1 ei) 2 (.v 2))])) (.n (some (.mk 3 0 [(1, ji 3), (5, ji 4)] [(0, .row (.s1 ei) 2 (.v 2))])) .e .e) .e)) .e))) noX Tryz.func150 (by kernel_rfl) (by kernel_rfl) run102 .nil
theorem s121 : SoundCall Tryz.prog 121 ⟨[m2 ei 2 54 true, pv i8], [rv i8]⟩ (G 103) := sound (l := [(150, 102, ⟨[m1 ei 2 true, pv i8], [rv i8]⟩)]) (h := (zn .e (zn (zn .e (.n (some (.mk 6 0 [(1, ji 3), (5, ji 4), (6, ji 5), (7, jo 0), (8, ji 6), (9, jb 7)] [(0, .rows ei 2 54 0 (.v 2))])) (.n (some (.mk 3 0 [(1, ji 3), (5, ji 4)] [(0, .rows ei 2 54 0 (.v 2))])) .e .e) .e)) .e))) noX Tryz.func121 (by kernel_rfl) (by kernel_rfl) (run103 rfl) (.cons s150 .nil)
theorem s54 : SoundCall Tryz.prog 54 ⟨[.val true [.mt (.row (.s1 eV) 40) true, .mt (.rows ei 2 54) true], pv i8], [rv i8]⟩ (G 147) := sound (l := [(13, 128, q34), (121, 103, ⟨[m2 ei 2 54 true, pv i8], [rv i8]⟩)]) (h := .e) noX Tryz.func54 (by kernel_rfl) (by kernel_rfl) (run147 rfl rfl) (.cons s13 (.cons s121 .nil))
theorem s55 : SoundCall Tryz.prog 55 ⟨[m1 ⟨true, [i8, i8, f1, f1]⟩ 142 true, pv i8], [rv i8]⟩ (G 191) := sound (l := []) (h := (zn .e (zn (zn .e (.n (some (.mk 6 0 [(1, ji 3), (5, ji 4), (6, ji 5), (7, jo 0), (8, ji 6), (9, jb 7)] [(0, .row (.s1 (.mk true [(.int .i64), (.int .i64), (.flt .f32), (.flt .f32)])) 142 (.v 2))])) (.n (some (.mk 3 0 [(1, ji 3), (5, ji 4)] [(0, .row (.s1 (.mk true [(.int .i64), (.int .i64), (.flt .f32), (.flt .f32)])) 142 (.v 2))])) .e .e) .e)) .e))) noX Tryz.func55 (by kernel_rfl) (by kernel_rfl) run191 .nil
theorem s56 : SoundCall Tryz.prog 56 ⟨[m1 ⟨false, [f1]⟩ 27 true, pv i8], [rv i8]⟩ (G 192) := sound (l := []) (h := (zn .e (zn (zn .e (.n (some (.mk 6 0 [(1, ji 3), (5, ji 4), (6, ji 5), (7, jo 0), (8, ji 6), (9, jb 7)] [(0, .row (.s1 (.mk false [(.flt .f32)])) 27 (.v 2))])) (.n (some (.mk 3 0 [(1, ji 3), (5, ji 4)] [(0, .row (.s1 (.mk false [(.flt .f32)])) 27 (.v 2))])) .e .e) .e)) .e))) noX Tryz.func56 (by kernel_rfl) (by kernel_rfl) run192 .nil
theorem s12 : SoundCall Tryz.prog 12 ⟨[.val true [.mt (.row (.s1 eV) 40) true, .mt (.rows ei 2 54) true, .mt (.row (.s1 ⟨true, [i8, i8, f1, f1]⟩) 142) true, .rd (.b f1), .rd (.b f1), .mt (.row (.s1 ⟨false, [f1]⟩) 27) true, .rd (.b f1), .rd (.b f1), .rd (.b f1)], pv i8], [rv i8]⟩ (G 193) := sound (l := [(54, 147, ⟨[.val true [.mt (.row (.s1 eV) 40) true, .mt (.rows ei 2 54) true], pv i8], [rv i8]⟩), (55, 191, ⟨[m1 ⟨true, [i8, i8, f1, f1]⟩ 142 true, pv i8], [rv i8]⟩), (56, 192, ⟨[m1 ⟨false, [f1]⟩ 27 true, pv i8], [rv i8]⟩)]) (h := .e) noX Tryz.func12 (by kernel_rfl) (by kernel_rfl) (run193 rfl rfl rfl) (.cons s54 (.cons s55 (.cons s56 .nil)))
theorem s14 : SoundCall Tryz.prog 14 q42 (G 129) := sound (l := []) (h := (zn .e (zn (zn .e (.n (some (.mk 5 0 [(1, ji 2), (5, ji 3), (6, ji 4), (7, .c (.s (.dat (.s1 eV) (.v 0)))), (8, ji 5), (9, jb 6)] [])) (.n (some (.mk 2 0 [(1, ji 2), (5, ji 3)] [])) .e .e) .e)) .e))) noX Tryz.func14 (by kernel_rfl) (by kernel_rfl) run129 .nil
theorem s3 : SoundCall Tryz.prog 3 ⟨[.val true [.rd (.s1 eV), .rd (.s2 ei), .rd (.s1 ⟨true, [i8, i8, f1, f1]⟩), .rd (.b f1), .rd (.b f1), .rd (.s1 ⟨false, [f1]⟩), .rd (.b f1), .rd (.b f1), .rd (.b f1)], pv i8], [rv .bool]⟩ (G 530) := sound (l := [(6, 182, ⟨[.val true [.rd (.s1 eV), .rd (.s2 ei), .rd (.s1 ⟨true, [i8, i8, f1, f1]⟩), .rd (.b f1), .rd (.b f1), .rd (.s1 ⟨false, [f1]⟩), .rd (.b f1), .rd (.b f1), .rd (.b f1)], pv i8], [rv i8]⟩), (8, 186, ⟨[.val true [.rd (.s1 eV), .rd (.s2 ei), .rd (.s1 ⟨true, [i8, i8, f1, f1]⟩), .rd (.b f1), .rd (.b f1), .rd (.s1 ⟨false, [f1]⟩), .rd (.b f1), .rd (.b f1), .rd (.b f1)]], [(true, [.own (.row (.s1 eV) 40), .own (.rows ei 2 54), .own (.row (.s1 ⟨true, [i8, i8, f1, f1]⟩) 142), .cell f1, .cell f1, .own (.row (.s1 ⟨false, [f1]⟩) 27), .cell f1, .cell f1, .cell f1])]⟩), (7, 525, q1), (9, 525, q1), (10, 127, q39), (11, 190, ⟨[.val true [.rd (.s1 eV), .rd (.s2 ei), .rd (.s1 ⟨true, [i8, i8, f1, f1]⟩), .rd (.b f1), .rd (.b f1), .rd (.s1 ⟨false, [f1]⟩), .rd (.b f1), .rd (.b f1), .rd (.b f1)], .val true [.rd (.s1 eV), .rd (.s2 ei), .rd (.s1 ⟨true, [i8, i8, f1, f1]⟩), .rd (.b f1), .rd (.b f1), .rd (.s1 ⟨false, [f1]⟩), .rd (.b f1), .rd (.b f1), .rd (.b f1)]], [rv .bool]⟩), (12, 193, ⟨[.val true [.mt (.row (.s1 eV) 40) true, .mt (.rows ei 2 54) true, .mt (.row (.s1 ⟨true, [i8, i8, f1, f1]⟩) 142) true, .rd (.b f1), .rd (.b f1), .mt (.row (.s1 ⟨false, [f1]⟩) 27) true, .rd (.b f1), .rd (.b f1), .rd (.b f1)], pv i8], [rv i8]⟩), (13, 128, q34), (14, 129, q42)]) (h := .e) noX Tryz.func3 (by kernel_rfl) (by kernel_rfl) (run530 rfl rfl rfl rfl rfl rfl rfl rfl) (.cons s6 (.cons s8 (.cons s7 (.cons s9 (.cons s10 (.cons s11 (.cons s12 (.cons s13 (.cons s14 .nil)))))))))
theorem own : ownKnob Tryz.prog.godebug = none := by kernel_rfl
theorem laidOut : laidOutB Tryz.prog = true := by kernel_rfl
theorem mapsRow : mapsRowed Tryz.prog = true := by kernel_rfl
theorem slicesFull : ((List.range Tryz.prog.types.size).all fun t => match Tryz.prog.underlying t with | some (.slice e) => decide (0 < Tryz.prog.cellsOf e) | _ => true) = true := by kernel_rfl
set_option maxRecDepth 100000 in
theorem blockForces_lifted (os : Os) (started : os.Started) (H : Type) (enc : TypeId × Value → H) :
  ReturnsInHanded {} Tryz.checked os 3 .any (Rows.fnExactBlockForcesSpec.pre6 enc Tryz.prog Tryz.f3 Rows.fnExactBlockForcesRow.domain false) (Rows.fnExactBlockForcesSpec.post enc Tryz.prog Tryz.f3 false true false false) := by
 refine returnsInHanded_of_change (C := Tryz.checked) own started (by kernel_rfl) Tryz.func3
  (ChangeSpec.witness6 (enc := enc) (C := Tryz.checked) false ⟨#[], #[.agg #[.slice none 0 0, .slice none 0 0, .slice none 0 0, .float .f32 0, .float .f32 0, .slice none 0 0, .float .f32 0, .float .f32 0, .float .f32 0], .int .i64 0], []⟩ 8 (by kernel_rfl) (by kernel_rfl) (by kernel_rfl) (by kernel_rfl)) ?_
 intro W base args ds gs before hval0 hW hcnd _
 have hval : ∀ (j : Nat) t v, Tryz.f3.params.toList[j]? = some t → args.toList[j]? = some v → Value.okWide Tryz.prog W .any base t v := fun j t v h1 h2 => hval0 j t v (by simpa using h1) (by simpa using h2)
 obtain ⟨p, q, hA, hV, _⟩ := id hW
 obtain ⟨xs, hX, hF0, hl0⟩ := args_mix (ps := [(true, [.s1 eV, .s2 ei, .s1 eS, .b f1, .b f1, .s1 eW, .b f1, .b f1, .b f1]), (false, [.b i8])]) (by kernel_rfl) hA hval
 rw [← Fm_nil] at hX
 obtain ⟨x0, ys0, rfl, hb0, hF1⟩ := fitsd_vl hF0
 obtain ⟨x1, ys1, rfl, hb1, hF2⟩ := fitsd_tl hF1
 obtain ⟨x2, ys2, rfl, hb2, hF3⟩ := fitsd_sl hF2
 obtain ⟨x3, ys3, rfl, hF4⟩ := fitsd_flt hF3
 obtain ⟨x4, ys4, rfl, hF5⟩ := fitsd_flt hF4
 obtain ⟨x5, ys5, rfl, hb5, hF6⟩ := fitsd_fl hF5
 obtain ⟨x6, ys6, rfl, hF7⟩ := fitsd_flt hF6
 obtain ⟨x7, ys7, rfl, hF8⟩ := fitsd_flt hF7
 obtain ⟨x8, ys8, rfl, hF9⟩ := fitsd_flt hF8
 obtain ⟨x9, ys9, rfl, hF10⟩ := fitsd_int hF9
 obtain rfl := fitsd_nil hF10
 rw [Tryz.params3] at hl0
 obtain ⟨d0, es0, rfl, hl1⟩ := len_cons hl0
 obtain ⟨d1, es1, rfl, hl2⟩ := len_cons hl1
 obtain rfl := len_nil hl2
 exact law_of_sound (bT := true) (tb := 4) laidOut mapsRow slicesFull (by kernel_rfl) (by kernel_rfl) (by kernel_rfl) rfl ⟨rfl, rfl, rfl⟩ s3 rfl hW ⟨_, hX, by show F530 (bd ⟨x0, x1, x2, x3, x4, x5, x6, x7, x8⟩ ++ [.int x9]) = _; unfold F530; rw [onBI_m]; exact if_pos ⟨⟨hb0, hb1.1, hb1.2⟩, hb2, hb5⟩⟩
theorem blockForces_holds : Rows.FnExactBlockForcesSaid :=
 OpenClaim.holds_of_wide 3 Tryz.f3 rfl rfl rfl rfl rfl rfl rfl ⟨rfl, rfl, rfl, rfl, rfl⟩ rfl rfl rfl rfl rfl (by kernel_rfl) Tryz.func3 (by kernel_rfl)
  (of_decide_eq_true (by kernel_rfl)) (by unfold Func.isWrapper; first | (rw [if_pos (by decide +kernel)]; kernel_rfl) | (rw [if_neg (by decide +kernel)]; exact ⟨rfl, rfl⟩))
  (fun os started H enc _ => blockForces_lifted os started H enc)
end Go.Proofs.YtaakjnkllodchaaGreat
