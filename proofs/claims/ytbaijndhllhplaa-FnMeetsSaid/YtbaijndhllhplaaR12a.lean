/-
  Proved: one round more makes the sum of the ways no longer, but by less than a thousandth, and films a third of a turn apart meet well (the law answers true for all inputs). Conditions: none.
-/
import Derived.Test.YtbaijndhllhplaaRows
import Derived.Test.YtbaijndhllhplaaK69
namespace Go.Proofs.Ytbaijndhllhplaa
open Vs Go Go.Shelf Go.RowKit Go.ChangeShapes Go.WideShapes Go.ChangeAt
noncomputable def G : Vs.Told
 | 1 => F1
 | 9 => F9
 | 11 => F11
 | 13 => F13
 | 14 => F14
 | 15 => F15
 | 17 => F17
 | 18 => F18
 | 19 => F19
 | 30 => F30
 | 31 => F31
 | 32 => F32
 | 220 => F220
 | 221 => F221
 | 231 => F231
 | 301 => F301
 | 331 => F331
 | 332 => F332
 | 474 => F474
 | 476 => F476
 | 477 => F477
 | 580 => F580
 | 581 => F581
 | _ => fun _ => none
def ji (k : Nat) : SV := .c (.s (.dat (.b (.int .i64)) (.v k)))
def jf (k : Nat) : SV := .c (.s (.dat (.b (.flt .f32)) (.v k)))
def jb (k : Nat) : SV := .c (.s (.dat (.b .bool) (.v k)))
def jo (k : Nat) : SV := .c (.s (.own k))
def jm (k : Nat) : SV := .c (.s (.fcel [.d (.s1 eV) (.v 0), .d (.s2 ei) (.v 1)] k))
def ju : SV := .c (.s .undef)
def zn (l r : H) : H := .n none l r
def q0 : Sig := ⟨[.val true [.rd (.b f1), .rd (.b f1), .rd (.b f1)], .val true [.rd (.b f1), .rd (.b f1), .rd (.b f1)]], [(true, [.cell f1, .cell f1, .cell f1])]⟩
def q3 : Sig := ⟨[.val true [.rd (.b f1), .rd (.b f1), .rd (.b f1)], pv f1], [(true, [.cell f1, .cell f1, .cell f1])]⟩
def q4 : Sig := ⟨[.val true [.rd (.b f1), .rd (.b f1), .rd (.b f1)]], [rv f1]⟩
def q6 : Sig := ⟨[.val true [.rd (.b f1), .rd (.b f1), .rd (.b f1)]], [rv .bool]⟩
def q9 : Sig := ⟨[pv f8], [rv f8]⟩
def q10 : Sig := ⟨[pv f1], [rv .bool]⟩
theorem noX : ∀ x ∈ ([] : List (FuncId × Ext)), ∀ args w, (callFunc x.1 args).run Try.prog w = ((extFn x.2 args).run Try.prog w).andThen fun v w' => .ok (.value v) w' := by intro x hx; cases hx
theorem f64bitsX : ∀ x ∈ ([(73, .f64bits)] : List (FuncId × Ext)), ∀ args w, (callFunc x.1 args).run Try.prog w = ((extFn x.2 args).run Try.prog w).andThen fun v w' => .ok (.value v) w' := by
 intro x hx
 simp only [List.mem_cons, List.not_mem_nil, or_false] at hx
 subst hx
 exact fun args w => run_callFunc_extern Try.func73 (by kernel_rfl) (by kernel_rfl) (by kernel_rfl) (by kernel_rfl) args w
theorem f64frombitsX : ∀ x ∈ ([(72, .f64frombits)] : List (FuncId × Ext)), ∀ args w, (callFunc x.1 args).run Try.prog w = ((extFn x.2 args).run Try.prog w).andThen fun v w' => .ok (.value v) w' := by
 intro x hx
 simp only [List.mem_cons, List.not_mem_nil, or_false] at hx
 subst hx
 exact fun args w => run_callFunc_extern Try.func72 (by kernel_rfl) (by kernel_rfl) (by kernel_rfl) (by kernel_rfl) args w
theorem sqrtX : ∀ x ∈ ([(83, .sqrt)] : List (FuncId × Ext)), ∀ args w, (callFunc x.1 args).run Try.prog w = ((extFn x.2 args).run Try.prog w).andThen fun v w' => .ok (.value v) w' := by
 intro x hx
 simp only [List.mem_cons, List.not_mem_nil, or_false] at hx
 subst hx
 exact fun args w => run_callFunc_extern Try.func83 (by kernel_rfl) (by kernel_rfl) (by kernel_rfl) (by kernel_rfl) args w
theorem extX : ∀ x ∈ ([(73, .f64bits), (72, .f64frombits)] : List (FuncId × Ext)), ∀ args w, (callFunc x.1 args).run Try.prog w = ((extFn x.2 args).run Try.prog w).andThen fun v w' => .ok (.value v) w' := by
 intro x hx
 simp only [List.mem_cons, List.not_mem_nil, or_false] at hx
 rcases hx with rfl | rfl
 ·exact fun args w => run_callFunc_extern Try.func73 (by kernel_rfl) (by kernel_rfl) (by kernel_rfl) (by kernel_rfl) args w
 ·exact fun args w => run_callFunc_extern Try.func72 (by kernel_rfl) (by kernel_rfl) (by kernel_rfl) (by kernel_rfl) args w
theorem s17 : SoundCall Try.prog 17 ⟨[p1 ⟨false, [.int .u8]⟩, p1 ⟨false, [.int .u8]⟩], [rv .bool]⟩ (G 220) := sound (l := []) (h := .e) noX Try.func17 (by kernel_rfl) (by kernel_rfl) run220 .nil
theorem s18 : SoundCall Try.prog 18 ⟨[p1 ⟨false, [.int .u8]⟩, pv i8], [(true, [.cell f1, .cell f1, .cell f1])]⟩ (G 580) := sound (l := []) (h := (zn .e (zn .e (zn (zn .e (.n (some (.mk 4 0 [(6, ji 4), (9, ji 5), (10, jb 6)] [(1, .row (.s1 (.mk false [(.flt .f32)])) 29 (.v 3))])) (.n (some (.mk 2 0 [(6, ji 4)] [(1, .row (.s1 (.mk false [(.flt .f32)])) 29 (.v 3))])) (zn .e (zn (zn (zn .e (.n (some (.mk 1 0 [] [(1, .row (.s1 (.mk false [(.flt .f32)])) 29 (.v 9))])) .e .e)) .e) .e)) .e) .e)) (zn .e (zn (zn .e (.n (some (.mk 1 0 [] [(2, .var [(.s (.dat (.b (.flt .f32)) (.v 8))), (.s (.dat (.b (.flt .f32)) (.v 10))), (.s (.dat (.b (.flt .f32)) (.v 14)))])])) .e .e)) .e)))))) noX Try.func18 (by kernel_rfl) (by kernel_rfl) run580 .nil
theorem s19 : SoundCall Try.prog 19 ⟨[p1 ⟨false, [.int .u8]⟩, pv i8, pv i8], [rv i8]⟩ (G 221) := sound (l := []) (h := .e) noX Try.func19 (by kernel_rfl) (by kernel_rfl) run221 .nil
theorem s53 : SoundCall Try.prog 53 q10 (G 1) := sound (l := []) (h := .e) noX Try.func53 (by kernel_rfl) (by kernel_rfl) run1 .nil
theorem s48 : SoundCall Try.prog 48 q6 (G 18) := sound (l := [(53, 1, q10)]) (h := .e) noX Try.func48 (by kernel_rfl) (by kernel_rfl) (run18 rfl) (.cons s53 .nil)
theorem s49 : SoundCall Try.prog 49 ⟨[pv i8, pv i8, pv i8], [rv .bool]⟩ (G 19) := sound (l := []) (h := .e) noX Try.func49 (by kernel_rfl) (by kernel_rfl) run19 .nil
theorem s51 : SoundCall Try.prog 51 q0 (G 30) := sound (l := []) (h := .e) noX Try.func51 (by kernel_rfl) (by kernel_rfl) run30 .nil
theorem s50 : SoundCall Try.prog 50 q3 (G 31) := sound (l := []) (h := .e) noX Try.func50 (by kernel_rfl) (by kernel_rfl) run31 .nil
theorem s52 : SoundCall Try.prog 52 q0 (G 13) := sound (l := []) (h := .e) noX Try.func52 (by kernel_rfl) (by kernel_rfl) run13 .nil
theorem s71 : SoundCall Try.prog 71 ⟨[.val true [.rd (.b f1), .rd (.b f1), .rd (.b f1)], .val true [.rd (.b f1), .rd (.b f1), .rd (.b f1)]], [rv f1]⟩ (G 14) := sound (l := []) (h := .e) noX Try.func71 (by kernel_rfl) (by kernel_rfl) run14 .nil
theorem s81 : SoundCall Try.prog 81 q9 (G 9) := sound (X := [(83, .sqrt)]) (l := []) (h := .e) sqrtX Try.func81 (by kernel_rfl) (by kernel_rfl) run9 .nil
theorem s70 : SoundCall Try.prog 70 ⟨[pv f1], [rv f1]⟩ (G 11) := sound (l := [(81, 9, q9)]) (h := .e) noX Try.func70 (by kernel_rfl) (by kernel_rfl) (run11 rfl) (.cons s81 .nil)
theorem s46 : SoundCall Try.prog 46 q4 (G 15) := sound (l := [(71, 14, ⟨[.val true [.rd (.b f1), .rd (.b f1), .rd (.b f1)], .val true [.rd (.b f1), .rd (.b f1), .rd (.b f1)]], [rv f1]⟩), (70, 11, ⟨[pv f1], [rv f1]⟩)]) (h := .e) noX Try.func46 (by kernel_rfl) (by kernel_rfl) (run15 rfl rfl) (.cons s71 (.cons s70 .nil))
theorem s20 : SoundCall Try.prog 20 ⟨[.val true [.rd (.b f1), .rd (.b f1), .rd (.b f1)], .val true [.rd (.b f1), .rd (.b f1), .rd (.b f1)], .val true [.rd (.b f1), .rd (.b f1), .rd (.b f1)], pv i8], [(true, [.cell f1, .cell f1, .cell f1]), rv .bool]⟩ (G 32) := sound (l := [(48, 18, q6), (49, 19, ⟨[pv i8, pv i8, pv i8], [rv .bool]⟩), (51, 30, q0), (50, 31, q3), (52, 13, q0), (46, 15, q4), (53, 1, q10)]) (h := (zn .e (zn .e (zn .e (zn (zn .e (.n (some (.mk 5 0 [(19, ju), (20, ju), (21, ju), (24, ju), (25, ju), (26, ju), (29, ju), (30, ju), (31, ju), (41, ji 34), (42, jb 35)] [(4, .var [(.s (.dat (.b (.flt .f32)) (.v 31))), (.s (.dat (.b (.flt .f32)) (.v 32))), (.s (.dat (.b (.flt .f32)) (.v 33)))])])) (.n (some (.mk 4 0 [(19, ju), (20, ju), (21, ju), (24, ju), (25, ju), (26, ju), (29, ju), (30, ju), (31, ju), (41, ji 34)] [(4, .var [(.s (.dat (.b (.flt .f32)) (.v 31))), (.s (.dat (.b (.flt .f32)) (.v 32))), (.s (.dat (.b (.flt .f32)) (.v 33)))])])) .e .e) .e)) .e))))) noX Try.func20 (by kernel_rfl) (by kernel_rfl) (run32 rfl rfl rfl rfl rfl rfl rfl) (.cons s48 (.cons s49 (.cons s51 (.cons s50 (.cons s52 (.cons s46 (.cons s53 .nil)))))))
theorem s21 : SoundCall Try.prog 21 ⟨[.val true [.rd (.b f1), .rd (.b f1), .rd (.b f1)], .val true [.rd (.b f1), .rd (.b f1), .rd (.b f1)], .val true [.rd (.b f1), .rd (.b f1), .rd (.b f1)], .val true [.rd (.b f1), .rd (.b f1), .rd (.b f1)]], [rv f1]⟩ (G 17) := sound (l := [(52, 13, q0), (46, 15, q4)]) (h := .e) noX Try.func21 (by kernel_rfl) (by kernel_rfl) (run17 rfl rfl) (.cons s52 (.cons s46 .nil))
theorem s54 : SoundCall Try.prog 54 ⟨[], [rv f8]⟩ (G 331) := sound (X := [(72, .f64frombits)]) (l := []) (h := .e) f64frombitsX Try.func54 (by kernel_rfl) (by kernel_rfl) run331 .nil
theorem s55 : SoundCall Try.prog 55 q9 (G 332) := sound (X := [(73, .f64bits), (72, .f64frombits)]) (l := []) (h := .e) extX Try.func55 (by kernel_rfl) (by kernel_rfl) run332 .nil
theorem s74 : SoundCall Try.prog 74 q9 (G 477) := sound (l := []) (h := (zn .e (zn .e (zn (zn .e (.n (some (.mk 1 0 [(3, .c (.s (.dat (.b (.flt .f64)) (.v 5))))] [])) .e .e)) .e)))) noX Try.func74 (by kernel_rfl) (by kernel_rfl) run477 .nil
theorem s56 : SoundCall Try.prog 56 q9 (G 476) := sound (l := [(74, 477, q9)]) (h := (zn .e (zn .e (zn .e (zn (zn .e (.n (some (.mk 1 0 [(3, .c (.s (.dat (.b (.flt .f64)) (.v 3))))] [])) .e .e)) (zn (zn .e (.n (some (.mk 1 0 [(3, .c (.s (.dat (.b (.flt .f64)) (.v 5))))] [])) .e .e)) (zn .e (zn .e (zn .e (zn (zn .e (.n (some (.mk 4 0 [(7, .c (.s (.dat (.b (.flt .f64)) (.v 8)))), (8, .c (.s (.dat (.b (.flt .f64)) (.v 9)))), (25, .c (.s (.dat (.b (.flt .f64)) (.v 10)))), (26, jb 11)] [])) (.n (some (.mk 2 0 [(7, .c (.s (.dat (.b (.flt .f64)) (.v 8)))), (8, .c (.s (.dat (.b (.flt .f64)) (.v 9))))] [])) .e .e) .e)) .e)))))))))) noX Try.func56 (by kernel_rfl) (by kernel_rfl) (run476 rfl) (.cons s74 .nil)
theorem s22 : SoundCall Try.prog 22 ⟨[pv f1], [rv f1]⟩ (G 474) := sound (l := [(53, 1, q10), (54, 331, ⟨[], [rv f8]⟩), (55, 332, q9), (56, 476, q9)]) (h := .e) noX Try.func22 (by kernel_rfl) (by kernel_rfl) (run474 rfl rfl rfl) (.cons s53 (.cons s54 (.cons s55 (.cons s56 .nil))))
theorem s23 : SoundCall Try.prog 23 ⟨[.val true [.rd (.b f1), .rd (.b f1), .rd (.b f1)], .val true [.rd (.b f1), .rd (.b f1), .rd (.b f1)], .val true [.rd (.b f1), .rd (.b f1), .rd (.b f1)]], [rv f1, rv .bool]⟩ (G 301) := sound (l := [(48, 18, q6), (46, 15, q4), (50, 31, q3), (51, 30, q0)]) (h := (zn .e (zn .e (zn (zn .e (.n (some (.mk 3 1 [(8, jo 5), (17, ji 16), (18, jb 17)] [(3, .dead), (5, .row (.s1 eV) 32 (.v 15))])) (.n (some (.mk 2 1 [(8, jo 5), (17, ji 16)] [(3, .dead), (5, .row (.s1 eV) 32 (.v 15))])) .e .e) .e)) .e)))) noX Try.func23 (by kernel_rfl) (by kernel_rfl) (run301 rfl rfl rfl rfl) (.cons s48 (.cons s46 (.cons s50 (.cons s51 .nil))))
theorem s24 : SoundCall Try.prog 24 ⟨[pv f8, pv f8], [rv f8]⟩ (G 231) := sound (l := []) (h := .e) noX Try.func24 (by kernel_rfl) (by kernel_rfl) run231 .nil
theorem s4 : SoundCall Try.prog 4 ⟨[p1 ⟨false, [.int .u8]⟩, p1 ⟨false, [.int .u8]⟩], [rv .bool]⟩ (G 581) := sound (l := [(17, 220, ⟨[p1 ⟨false, [.int .u8]⟩, p1 ⟨false, [.int .u8]⟩], [rv .bool]⟩), (18, 580, ⟨[p1 ⟨false, [.int .u8]⟩, pv i8], [(true, [.cell f1, .cell f1, .cell f1])]⟩), (19, 221, ⟨[p1 ⟨false, [.int .u8]⟩, pv i8, pv i8], [rv i8]⟩), (20, 32, ⟨[.val true [.rd (.b f1), .rd (.b f1), .rd (.b f1)], .val true [.rd (.b f1), .rd (.b f1), .rd (.b f1)], .val true [.rd (.b f1), .rd (.b f1), .rd (.b f1)], pv i8], [(true, [.cell f1, .cell f1, .cell f1]), rv .bool]⟩), (21, 17, ⟨[.val true [.rd (.b f1), .rd (.b f1), .rd (.b f1)], .val true [.rd (.b f1), .rd (.b f1), .rd (.b f1)], .val true [.rd (.b f1), .rd (.b f1), .rd (.b f1)], .val true [.rd (.b f1), .rd (.b f1), .rd (.b f1)]], [rv f1]⟩), (22, 474, ⟨[pv f1], [rv f1]⟩), (23, 301, ⟨[.val true [.rd (.b f1), .rd (.b f1), .rd (.b f1)], .val true [.rd (.b f1), .rd (.b f1), .rd (.b f1)], .val true [.rd (.b f1), .rd (.b f1), .rd (.b f1)]], [rv f1, rv .bool]⟩), (24, 231, ⟨[pv f8, pv f8], [rv f8]⟩)]) (h := (zn .e (zn .e (zn .e (zn .e (zn .e (zn .e (zn .e (zn .e (zn .e (zn .e (zn .e (zn (zn .e (.n (some (.mk 4 1 [(14, jo 6), (15, ji 38), (54, ju), (55, ju), (58, ju), (59, ju), (60, ju), (61, ju), (62, ju), (63, ju), (64, ju), (65, ju), (66, ju), (67, ju), (68, ju), (69, ju), (70, ju), (71, ju), (78, ji 39), (79, jb 40)] [(5, .dead), (6, .row (.s1 eV) 32 (.v 37))])) (.n (some (.mk 2 1 [(14, jo 6), (15, ji 38), (54, ju), (55, ju), (58, ju), (59, ju), (60, ju), (61, ju), (62, ju), (63, ju), (64, ju), (65, ju), (66, ju), (67, ju), (68, ju), (69, ju), (70, ju), (71, ju)] [(5, .dead), (6, .row (.s1 eV) 32 (.v 37))])) .e .e) .e)) .e))))))))))))) noX Try.func4 (by kernel_rfl) (by kernel_rfl) (run581 rfl rfl rfl rfl rfl rfl rfl rfl) (.cons s17 (.cons s18 (.cons s19 (.cons s20 (.cons s21 (.cons s22 (.cons s23 (.cons s24 .nil))))))))
theorem own : ownKnob Try.prog.godebug = none := by kernel_rfl
theorem laidOut : laidOutB Try.prog = true := by kernel_rfl
theorem mapsRow : mapsRowed Try.prog = true := by kernel_rfl
theorem slicesFull : ((List.range Try.prog.types.size).all fun t => match Try.prog.underlying t with | some (.slice e) => decide (0 < Try.prog.cellsOf e) | _ => true) = true := by kernel_rfl
set_option maxRecDepth 100000 in
theorem meets_lifted (os : Os) (started : os.Started) (H : Type) (enc : TypeId × Value → H) :
  ReturnsInHanded {} Try.checked os 4 .any (Rows.fnMeetsSpec.pre6 enc Try.prog Try.f4 Rows.fnMeetsRow.domain false) (Rows.fnMeetsSpec.post enc Try.prog Try.f4 false true false false) := by
 refine returnsInHanded_of_change (C := Try.checked) own started (by kernel_rfl) Try.func4
  (ChangeSpec.witness6 (enc := enc) (C := Try.checked) false ⟨#[], #[.slice none 0 0, .slice none 0 0], []⟩ 8 (by kernel_rfl) (by kernel_rfl) (by kernel_rfl) (by kernel_rfl)) ?_
 intro W base args ds gs before hval0 hW hcnd _
 have hval : ∀ (j : Nat) t v, Try.f4.params.toList[j]? = some t → args.toList[j]? = some v → Value.okWide Try.prog W .any base t v := fun j t v h1 h2 => hval0 j t v (by simpa using h1) (by simpa using h2)
 obtain ⟨p, q, hA, hV, _⟩ := id hW
 obtain ⟨x0, x1, hX, hb0, hb1, hl0⟩ := args_bytes2 (by kernel_rfl) (by kernel_rfl) (by kernel_rfl) (by kernel_rfl) hA hval
 rw [← Fm_nil] at hX
 obtain ⟨d0, es0, rfl, hl1⟩ := len_cons hl0
 obtain ⟨d1, es1, rfl, hl2⟩ := len_cons hl1
 obtain rfl := len_nil hl2
 exact law_of_sound (bT := true) (tb := 4) laidOut mapsRow slicesFull (by kernel_rfl) (by kernel_rfl) (by kernel_rfl) rfl ⟨rfl, rfl, rfl⟩ s4 rfl hW ⟨_, hX, by show F581 [il x0, il x1] = _; simp only [F581, dI_il, Option.bind_some]; exact if_pos ⟨hb0, hb1⟩⟩
theorem meets_holds : Rows.FnMeetsSaid :=
 OpenClaim.holds_of_wide 4 Try.f4 rfl rfl rfl rfl rfl rfl rfl ⟨rfl, rfl, rfl, rfl, rfl⟩ rfl rfl rfl rfl rfl (by kernel_rfl) Try.func4 (by kernel_rfl)
  (of_decide_eq_true (by kernel_rfl)) (by unfold Func.isWrapper; first | (rw [if_pos (by decide +kernel)]; kernel_rfl) | (rw [if_neg (by decide +kernel)]; exact ⟨rfl, rfl⟩))
  (fun os started H enc _ => meets_lifted os started H enc)
end Go.Proofs.Ytbaijndhllhplaa
