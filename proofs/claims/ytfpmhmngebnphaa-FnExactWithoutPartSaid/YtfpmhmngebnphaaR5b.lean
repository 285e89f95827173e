/-
  Proved: for all arguments the program's WithoutPart returns what the reference's returns, in memory of its own, and leaves its arguments as they were (the law answers true). Conditions: none.
-/
import Derived.Test.YtfpmhmngebnphaaRows
import Derived.Test.YtfpmhmngebnphaaK4
namespace Go.Proofs.Ytfpmhmngebnphaa
open Vs Go Go.RowKit Go.ChangeShapes Go.WideShapes Go.ChangeAt

noncomputable def G : Vs.Told
  | 4 => F4
  | 13 => F13
  | 14 => F14
  | 16 => F16
  | 31 => F31
  | 40 => F40
  | 120 => F120
  | 121 => F121
  | 122 => F122
  | 123 => F123
  | 124 => F124
  | 125 => F125
  | 126 => F126
  | 127 => F127
  | 128 => F128
  | 129 => F129
  | 130 => F130
  | _ => fun _ => none

theorem noX : ∀ x ∈ ([] : List (FuncId × Ext)), ∀ args w, (callFunc x.1 args).run Try.prog w = ((extFn x.2 args).run Try.prog w).andThen fun v w' => .ok (.value v) w' := by
  intro x hx; cases hx

theorem s65 : SoundCall Try.prog 65 ⟨[.val true [.rd (.b f1), .rd (.b f1), .rd (.b f1)]], [(true, [.cell f1, .cell f1, .cell f1])]⟩ (G 16) := sound (l := []) (h := .e) noX Try.func65 (by kernel_rfl) (by kernel_rfl) run16 .nil
theorem s42 : SoundCall Try.prog 42 ⟨[pv f8, pv f8], [rv .bool]⟩ (G 4) := sound (l := []) (h := .e) noX Try.func42 (by kernel_rfl) (by kernel_rfl) run4 .nil
theorem s70 : SoundCall Try.prog 70 ⟨[.val true [.rd (.b f1), .rd (.b f1), .rd (.b f1)], .val true [.rd (.b f1), .rd (.b f1), .rd (.b f1)]], [rv .bool]⟩ (G 40) := sound (l := [(42, 4, ⟨[pv f8, pv f8], [rv .bool]⟩)]) (h := .e) noX Try.func70 (by kernel_rfl) (by kernel_rfl) (run40 rfl) (.cons s42 .nil)
theorem s20 : SoundCall Try.prog 20 ⟨[p1 eV, pv i8], [rv i8]⟩ (G 120) := sound (l := []) (h := (.n none .e (.n none .e (.n none (.n none .e (.n none (.n none .e .e) .e)) (.n none .e .e))))) noX Try.func20 (by kernel_rfl) (by kernel_rfl) run120 .nil
theorem s22 : SoundCall Try.prog 22 ⟨[p1 eV], [r1 eV 69]⟩ (G 121) := sound (l := [(65, 16, ⟨[.val true [.rd (.b f1), .rd (.b f1), .rd (.b f1)]], [(true, [.cell f1, .cell f1, .cell f1])]⟩)]) (h := (.n none .e (.n none .e (.n none (.n none .e (.n (some (.mk 5 0 [(4, (.c (.s (.dat (.b (.int .i64)) (.v 4))))), (8, (.c (.s (.dat (.b (.int .i64)) (.v 5))))), (9, (.c (.s (.dat (.s1 (.mk true [(.flt .f32), (.flt .f32), (.flt .f32)])) (.v 0))))), (10, (.c (.s (.dat (.b (.int .i64)) (.v 6))))), (11, (.c (.s (.dat (.b .bool) (.v 7)))))] [(0, (.row (.s1 (.mk true [(.flt .f32), (.flt .f32), (.flt .f32)])) 69 (.v 3)))])) (.n (some (.mk 2 0 [(4, (.c (.s (.dat (.b (.int .i64)) (.v 4)))))] [(0, (.row (.s1 (.mk true [(.flt .f32), (.flt .f32), (.flt .f32)])) 69 (.v 3)))])) (.n none (.n none .e (.n none .e .e)) (.n none (.n none .e .e) .e)) .e) .e)) (.n none .e .e))))) noX Try.func22 (by kernel_rfl) (by kernel_rfl) (run121 rfl) (.cons s65 .nil)
theorem s24 : SoundCall Try.prog 24 ⟨[p1 eV, p1 eV], [rv .bool]⟩ (G 127) := sound (l := [(70, 40, ⟨[.val true [.rd (.b f1), .rd (.b f1), .rd (.b f1)], .val true [.rd (.b f1), .rd (.b f1), .rd (.b f1)]], [rv .bool]⟩)]) (h := (.n none .e (.n none (.n none .e (.n none (.n none .e .e) .e)) (.n none (.n none .e (.n (some (.mk 4 0 [(5, (.c (.s (.dat (.b (.int .i64)) (.v 5))))), (11, (.c (.s (.dat (.b (.int .i64)) (.v 6))))), (12, (.c (.s (.dat (.s1 (.mk true [(.flt .f32), (.flt .f32), (.flt .f32)])) (.v 0))))), (13, (.c (.s (.dat (.b (.int .i64)) (.v 7))))), (14, (.c (.s (.dat (.b .bool) (.v 8)))))] [])) (.n (some (.mk 1 0 [(5, (.c (.s (.dat (.b (.int .i64)) (.v 5)))))] [])) (.n none (.n none .e (.n none .e .e)) (.n none (.n none (.n none .e (.n none (.n none .e .e) .e)) .e) .e)) .e) .e)) (.n none .e .e))))) noX Try.func24 (by kernel_rfl) (by kernel_rfl) (run127 rfl) (.cons s70 .nil)
theorem s25 : SoundCall Try.prog 25 ⟨[m1 eV 69 true, pv i8], [rv i8]⟩ (G 128) := sound (l := []) (h := (.n none .e (.n none (.n none .e (.n (some (.mk 6 0 [(1, (.c (.s (.dat (.b (.int .i64)) (.v 3))))), (5, (.c (.s (.dat (.b (.int .i64)) (.v 4))))), (6, (.c (.s (.dat (.b (.int .i64)) (.v 5))))), (7, (.c (.s (.own 0)))), (8, (.c (.s (.dat (.b (.int .i64)) (.v 6))))), (9, (.c (.s (.dat (.b .bool) (.v 7)))))] [(0, (.row (.s1 (.mk true [(.flt .f32), (.flt .f32), (.flt .f32)])) 69 (.v 2)))])) (.n (some (.mk 3 0 [(1, (.c (.s (.dat (.b (.int .i64)) (.v 3))))), (5, (.c (.s (.dat (.b (.int .i64)) (.v 4)))))] [(0, (.row (.s1 (.mk true [(.flt .f32), (.flt .f32), (.flt .f32)])) 69 (.v 2)))])) (.n none (.n none .e (.n none .e .e)) (.n none (.n none (.n none .e (.n none .e (.n none .e (.n none .e (.n none .e .e))))) .e) .e)) .e) .e)) (.n none .e .e)))) noX Try.func25 (by kernel_rfl) (by kernel_rfl) run128 .nil
theorem s26 : SoundCall Try.prog 26 ⟨[p1 eV, pv i8], [rv i8]⟩ (G 129) := sound (l := []) (h := (.n none .e (.n none (.n none .e (.n (some (.mk 5 0 [(1, (.c (.s (.dat (.b (.int .i64)) (.v 2))))), (5, (.c (.s (.dat (.b (.int .i64)) (.v 3))))), (6, (.c (.s (.dat (.b (.int .i64)) (.v 4))))), (7, (.c (.s (.dat (.s1 (.mk true [(.flt .f32), (.flt .f32), (.flt .f32)])) (.v 0))))), (8, (.c (.s (.dat (.b (.int .i64)) (.v 5))))), (9, (.c (.s (.dat (.b .bool) (.v 6)))))] [])) (.n (some (.mk 2 0 [(1, (.c (.s (.dat (.b (.int .i64)) (.v 2))))), (5, (.c (.s (.dat (.b (.int .i64)) (.v 3)))))] [])) (.n none (.n none .e (.n none .e .e)) (.n none (.n none (.n none (.n none .e (.n none (.n none .e .e) .e)) (.n none .e (.n none (.n none .e (.n none (.n none .e .e) .e)) (.n none .e (.n none (.n none .e (.n none (.n none .e .e) .e)) .e))))) .e) .e)) .e) .e)) (.n none .e .e)))) noX Try.func26 (by kernel_rfl) (by kernel_rfl) run129 .nil
theorem s121 : SoundCall Try.prog 121 ⟨[.val true [.rd (.b f1), .rd (.b f1), .rd (.b f1)], .val true [.rd (.b f1), .rd (.b f1), .rd (.b f1)]], [rv f1]⟩ (G 14) := sound (l := []) (h := .e) noX Try.func121 (by kernel_rfl) (by kernel_rfl) run14 .nil
theorem s112 : SoundCall Try.prog 112 ⟨[.val true [.rd (.b f1), .rd (.b f1), .rd (.b f1)], .val true [.rd (.b f1), .rd (.b f1), .rd (.b f1)]], [rv f1]⟩ (G 14) := sound (l := []) (h := .e) noX Try.func112 (by kernel_rfl) (by kernel_rfl) run14 .nil
theorem s111 : SoundCall Try.prog 111 ⟨[.val true [.rd (.b f1), .rd (.b f1), .rd (.b f1)], pv f1], [(true, [.cell f1, .cell f1, .cell f1])]⟩ (G 31) := sound (l := []) (h := .e) noX Try.func111 (by kernel_rfl) (by kernel_rfl) run31 .nil
theorem s69 : SoundCall Try.prog 69 ⟨[.val true [.rd (.b f1), .rd (.b f1), .rd (.b f1)], pv f1], [(true, [.cell f1, .cell f1, .cell f1])]⟩ (G 31) := sound (l := []) (h := .e) noX Try.func69 (by kernel_rfl) (by kernel_rfl) run31 .nil
theorem s103 : SoundCall Try.prog 103 ⟨[.val true [.rd (.b f1), .rd (.b f1), .rd (.b f1)], .val true [.rd (.b f1), .rd (.b f1), .rd (.b f1)]], [(true, [.cell f1, .cell f1, .cell f1])]⟩ (G 13) := sound (l := []) (h := .e) noX Try.func103 (by kernel_rfl) (by kernel_rfl) run13 .nil
theorem s68 : SoundCall Try.prog 68 ⟨[.val true [.rd (.b f1), .rd (.b f1), .rd (.b f1)], .val true [.rd (.b f1), .rd (.b f1), .rd (.b f1)]], [(true, [.cell f1, .cell f1, .cell f1])]⟩ (G 13) := sound (l := []) (h := .e) noX Try.func68 (by kernel_rfl) (by kernel_rfl) run13 .nil
theorem s110 : SoundCall Try.prog 110 ⟨[p1 eV, p1 eV], [rv f1]⟩ (G 124) := sound (l := [(121, 14, ⟨[.val true [.rd (.b f1), .rd (.b f1), .rd (.b f1)], .val true [.rd (.b f1), .rd (.b f1), .rd (.b f1)]], [rv f1]⟩)]) (h := (.n none .e (.n none .e (.n none (.n none .e (.n (some (.mk 3 0 [(5, (.c (.s (.dat (.b (.flt .f32)) (.v 3))))), (9, (.c (.s (.dat (.b (.int .i64)) (.v 4))))), (10, (.c (.s (.dat (.b .bool) (.v 5)))))] [])) (.n (some (.mk 2 0 [(5, (.c (.s (.dat (.b (.flt .f32)) (.v 3))))), (9, (.c (.s (.dat (.b (.int .i64)) (.v 4)))))] [])) (.n none .e (.n none (.n none .e .e) (.n none (.n none (.n none .e .e) .e) .e))) .e) .e)) (.n none .e .e))))) noX Try.func110 (by kernel_rfl) (by kernel_rfl) (run124 rfl) (.cons s121 .nil)
theorem s67 : SoundCall Try.prog 67 ⟨[p1 eV, p1 eV], [rv f1]⟩ (G 124) := sound (l := [(112, 14, ⟨[.val true [.rd (.b f1), .rd (.b f1), .rd (.b f1)], .val true [.rd (.b f1), .rd (.b f1), .rd (.b f1)]], [rv f1]⟩)]) (h := (.n none .e (.n none .e (.n none (.n none .e (.n (some (.mk 3 0 [(5, (.c (.s (.dat (.b (.flt .f32)) (.v 3))))), (10, (.c (.s (.dat (.b (.int .i64)) (.v 4))))), (11, (.c (.s (.dat (.b .bool) (.v 5)))))] [])) (.n (some (.mk 2 0 [(5, (.c (.s (.dat (.b (.flt .f32)) (.v 3))))), (10, (.c (.s (.dat (.b (.int .i64)) (.v 4)))))] [])) (.n none .e (.n none (.n none .e .e) (.n none (.n none (.n none .e .e) .e) .e))) .e) .e)) (.n none .e .e))))) noX Try.func67 (by kernel_rfl) (by kernel_rfl) (run124 rfl) (.cons s112 .nil)
theorem s66 : SoundCall Try.prog 66 ⟨[p1 eV, p1 eV], [rv f1, rv .bool]⟩ (G 125) := sound (l := [(67, 124, ⟨[p1 eV, p1 eV], [rv f1]⟩)]) (h := (.n none .e (.n none (.n none .e (.n none (.n none .e .e) .e)) (.n none .e .e)))) noX Try.func66 (by kernel_rfl) (by kernel_rfl) (run125 rfl) (.cons s67 .nil)
theorem s109 : SoundCall Try.prog 109 ⟨[pv f1, pv f1], [rv f1]⟩ (G 126) := sound (l := []) (h := (.n none .e (.n none (.n none .e (.n none (.n none .e .e) .e)) (.n none .e .e)))) noX Try.func109 (by kernel_rfl) (by kernel_rfl) run126 .nil
theorem s64 : SoundCall Try.prog 64 ⟨[p1 eV, p1 eV], [r1 eV 69]⟩ (G 123) := sound (l := [(110, 124, ⟨[p1 eV, p1 eV], [rv f1]⟩), (109, 126, ⟨[pv f1, pv f1], [rv f1]⟩), (111, 31, ⟨[.val true [.rd (.b f1), .rd (.b f1), .rd (.b f1)], pv f1], [(true, [.cell f1, .cell f1, .cell f1])]⟩), (103, 13, ⟨[.val true [.rd (.b f1), .rd (.b f1), .rd (.b f1)], .val true [.rd (.b f1), .rd (.b f1), .rd (.b f1)]], [(true, [.cell f1, .cell f1, .cell f1])]⟩)]) (h := (.n none .e (.n none .e (.n none .e (.n none (.n none .e (.n (some (.mk 3 1 [(6, (.c (.s (.own 1)))), (18, (.c (.s (.dat (.b (.int .i64)) (.v 8))))), (19, (.c (.s (.dat (.b .bool) (.v 9)))))] [(0, .dead), (1, (.row (.s1 (.mk true [(.flt .f32), (.flt .f32), (.flt .f32)])) 69 (.v 7)))])) (.n (some (.mk 2 1 [(6, (.c (.s (.own 1)))), (18, (.c (.s (.dat (.b (.int .i64)) (.v 8)))))] [(0, .dead), (1, (.row (.s1 (.mk true [(.flt .f32), (.flt .f32), (.flt .f32)])) 69 (.v 7)))])) (.n none .e (.n none (.n none .e .e) (.n none (.n none (.n none .e .e) .e) .e))) .e) .e)) (.n none .e .e)))))) noX Try.func64 (by kernel_rfl) (by kernel_rfl) (run123 rfl rfl rfl rfl) (.cons s110 (.cons s109 (.cons s111 (.cons s103 .nil))))
theorem s23 : SoundCall Try.prog 23 ⟨[p1 eV, p1 eV], [r1 eV 69, rv .bool]⟩ (G 122) := sound (l := [(66, 125, ⟨[p1 eV, p1 eV], [rv f1, rv .bool]⟩), (67, 124, ⟨[p1 eV, p1 eV], [rv f1]⟩), (69, 31, ⟨[.val true [.rd (.b f1), .rd (.b f1), .rd (.b f1)], pv f1], [(true, [.cell f1, .cell f1, .cell f1])]⟩), (68, 13, ⟨[.val true [.rd (.b f1), .rd (.b f1), .rd (.b f1)], .val true [.rd (.b f1), .rd (.b f1), .rd (.b f1)]], [(true, [.cell f1, .cell f1, .cell f1])]⟩)]) (h := (.n none .e (.n none .e (.n none (.n none .e (.n none (.n none .e .e) .e)) (.n none .e (.n none (.n none .e (.n none .e (.n (some (.mk 1 0 [(8, (.c (.s (.dat (.b (.flt .f32)) (.v 7)))))] [])) .e .e))) (.n none .e (.n none (.n none .e (.n (some (.mk 3 1 [(10, (.c (.s (.own 1)))), (32, (.c (.s (.dat (.b (.int .i64)) (.v 11))))), (33, (.c (.s (.dat (.b .bool) (.v 12)))))] [(0, .dead), (1, (.row (.s1 (.mk true [(.flt .f32), (.flt .f32), (.flt .f32)])) 69 (.v 10)))])) (.n (some (.mk 2 1 [(10, (.c (.s (.own 1)))), (32, (.c (.s (.dat (.b (.int .i64)) (.v 11)))))] [(0, .dead), (1, (.row (.s1 (.mk true [(.flt .f32), (.flt .f32), (.flt .f32)])) 69 (.v 10)))])) (.n none .e (.n none (.n none .e .e) (.n none (.n none (.n none .e .e) .e) .e))) .e) .e)) (.n none .e .e))))))))) noX Try.func23 (by kernel_rfl) (by kernel_rfl) (run122 rfl rfl rfl rfl) (.cons s66 (.cons s67 (.cons s69 (.cons s68 .nil))))
theorem s21 : SoundCall Try.prog 21 ⟨[p1 eV, p1 eV], [r1 eV 69, rv .bool]⟩ (G 122) := sound (l := [(64, 123, ⟨[p1 eV, p1 eV], [r1 eV 69]⟩)]) (h := (.n none .e (.n none (.n none .e (.n none (.n none .e .e) .e)) (.n none .e .e)))) noX Try.func21 (by kernel_rfl) (by kernel_rfl) (run122s rfl) (.cons s64 .nil)
theorem s4 : SoundCall Try.prog 4 ⟨[p1 eV, p1 eV], [rv .bool]⟩ (G 130) := sound (l := [(20, 120, ⟨[p1 eV, pv i8], [rv i8]⟩), (22, 121, ⟨[p1 eV], [r1 eV 69]⟩), (21, 122, ⟨[p1 eV, p1 eV], [r1 eV 69, rv .bool]⟩), (23, 122, ⟨[p1 eV, p1 eV], [r1 eV 69, rv .bool]⟩), (24, 127, ⟨[p1 eV, p1 eV], [rv .bool]⟩), (25, 128, ⟨[m1 eV 69 true, pv i8], [rv i8]⟩), (26, 129, ⟨[p1 eV, pv i8], [rv i8]⟩)]) (h := (.n none .e (.n none .e (.n none .e (.n none (.n none .e (.n none (.n none .e .e) .e)) (.n none .e (.n none (.n none .e (.n none (.n none .e .e) .e)) (.n none .e (.n none .e (.n none .e (.n none .e (.n none (.n none .e (.n none (.n none .e .e) .e)) (.n none (.n none .e (.n none (.n none .e .e) .e)) (.n none (.n none .e (.n none (.n none .e .e) .e)) (.n none .e (.n none .e (.n none .e (.n none (.n none .e (.n none (.n none .e .e) .e)) (.n none .e (.n none .e (.n none .e (.n none .e (.n none (.n none .e (.n none (.n none .e .e) .e)) (.n none (.n none .e (.n none (.n none .e .e) .e)) (.n none .e (.n none (.n none .e (.n none (.n none .e .e) .e)) (.n none .e (.n none .e (.n none (.n none .e (.n none (.n none .e .e) .e)) (.n none (.n none .e (.n none (.n none .e .e) .e)) (.n none .e .e))))))))))))))))))))))))))))))) noX Try.func4 (by kernel_rfl) (by kernel_rfl) (run130 rfl rfl rfl rfl rfl rfl) (.cons s20 (.cons s22 (.cons s21 (.cons s23 (.cons s24 (.cons s25 (.cons s26 .nil)))))))

theorem own : ownKnob Try.prog.godebug = none := by kernel_rfl
theorem laidOut : laidOutB Try.prog = true := by kernel_rfl
theorem mapsRow : mapsRowed Try.prog = true := by kernel_rfl
theorem slicesFull : ((List.range Try.prog.types.size).all fun t => match Try.prog.underlying t with | some (.slice e) => decide (0 < Try.prog.cellsOf e) | _ => true) = true := by kernel_rfl

set_option maxRecDepth 100000 in
theorem withoutPart_lifted (os : Os) (started : os.Started) (H : Type) (enc : TypeId × Value → H) :
    ReturnsInHanded {} Try.checked os 4 .any (Rows.fnExactWithoutPartSpec.pre6 enc Try.prog Try.f4 Rows.fnExactWithoutPartRow.domain false) (Rows.fnExactWithoutPartSpec.post enc Try.prog Try.f4 false true false false) := by
  refine returnsInHanded_of_change (C := Try.checked) own started (by kernel_rfl) Try.func4
    (ChangeSpec.witness6 (enc := enc) (C := Try.checked) false ⟨#[], #[.slice none 0 0, .slice none 0 0], []⟩ 8 (by kernel_rfl) (by kernel_rfl) (by kernel_rfl) (by kernel_rfl)) ?_
  intro W base args ds gs before hval0 hW hcnd _
  have hval : ∀ (j : Nat) t v, Try.f4.params.toList[j]? = some t → args.toList[j]? = some v → Value.okWide Try.prog W .any base t v := fun j t v h1 h2 => hval0 j t v (by simpa using h1) (by simpa using h2)
  obtain ⟨p, q, hA, hV, _⟩ := id hW
  obtain ⟨xs, hX, hF0, hl0⟩ := args_cells (cts := [.s1 eV, .s1 eV]) (by kernel_rfl) hA hval
  rw [← Fm_nil] at hX
  obtain ⟨x0, ys0, rfl, hb0, hF1⟩ := fitsc_vl hF0
  obtain ⟨x1, ys1, rfl, hb1, hF2⟩ := fitsc_vl hF1
  obtain rfl := fitsc_nil hF2
  rw [Try.params4] at hl0
  obtain ⟨d0, es0, rfl, hl1⟩ := len_cons hl0
  obtain ⟨d1, es1, rfl, hl2⟩ := len_cons hl1
  obtain rfl := len_nil hl2
  exact law_of_sound (bT := true) (tb := 4) laidOut mapsRow slicesFull (by kernel_rfl) (by kernel_rfl) (by kernel_rfl) rfl ⟨rfl, rfl, rfl⟩ s4 rfl hW ⟨_, hX, by show F130 _ = _; unfold F130; rw [on2_vl]; exact if_pos ⟨hb0, hb1⟩⟩

theorem withoutPart_holds : Rows.FnExactWithoutPartSaid :=
  OpenClaim.holds_of_wide 4 Try.f4 rfl rfl rfl rfl rfl rfl rfl ⟨rfl, rfl, rfl, rfl, rfl⟩ rfl rfl rfl rfl rfl (by kernel_rfl) Try.func4 (by kernel_rfl)
    (of_decide_eq_true (by kernel_rfl)) (by unfold Func.isWrapper; first | (rw [if_pos (by decide +kernel)]; kernel_rfl) | (rw [if_neg (by decide +kernel)]; exact ⟨rfl, rfl⟩))
    (fun os started H enc _ => withoutPart_lifted os started H enc)

end Go.Proofs.Ytfpmhmngebnphaa
