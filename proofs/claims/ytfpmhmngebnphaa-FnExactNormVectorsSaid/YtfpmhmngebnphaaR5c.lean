/-
  Proved: for all arguments the program's NormVectors returns what the reference's returns, in memory of its own, and leaves its arguments as they were (the law answers true). Conditions: none.
-/
import Derived.Test.YtfpmhmngebnphaaRows
import Derived.Test.YtfpmhmngebnphaaK5
namespace Go.Proofs.Ytfpmhmngebnphaa
open Vs Go Go.RowKit Go.ChangeShapes Go.WideShapes Go.ChangeAt

noncomputable def G : Vs.Told
  | 1 => F1
  | 2 => F2
  | 4 => F4
  | 9 => F9
  | 10 => F10
  | 11 => F11
  | 14 => F14
  | 16 => F16
  | 31 => F31
  | 40 => F40
  | 120 => F120
  | 121 => F121
  | 124 => F124
  | 125 => F125
  | 127 => F127
  | 128 => F128
  | 129 => F129
  | 131 => F131
  | 132 => F132
  | 133 => F133
  | _ => fun _ => none

theorem noX : ∀ x ∈ ([] : List (FuncId × Ext)), ∀ args w, (callFunc x.1 args).run Try.prog w = ((extFn x.2 args).run Try.prog w).andThen fun v w' => .ok (.value v) w' := by
  intro x hx; cases hx
theorem sqrtX : ∀ x ∈ ([(132, .sqrt)] : List (FuncId × Ext)), ∀ args w, (callFunc x.1 args).run Try.prog w = ((extFn x.2 args).run Try.prog w).andThen fun v w' => .ok (.value v) w' := by
  intro x hx
  simp only [List.mem_cons, List.not_mem_nil, or_false] at hx
  subst hx
  exact fun args w => run_callFunc_extern Try.func132 (by kernel_rfl) (by kernel_rfl) (by kernel_rfl) (by kernel_rfl) args w

theorem s65 : SoundCall Try.prog 65 ⟨[.val true [.rd (.b f1), .rd (.b f1), .rd (.b f1)]], [(true, [.cell f1, .cell f1, .cell f1])]⟩ (G 16) := sound (l := []) (h := .e) noX Try.func65 (by kernel_rfl) (by kernel_rfl) run16 .nil
theorem s42 : SoundCall Try.prog 42 ⟨[pv f8, pv f8], [rv .bool]⟩ (G 4) := sound (l := []) (h := .e) noX Try.func42 (by kernel_rfl) (by kernel_rfl) run4 .nil
theorem s70 : SoundCall Try.prog 70 ⟨[.val true [.rd (.b f1), .rd (.b f1), .rd (.b f1)], .val true [.rd (.b f1), .rd (.b f1), .rd (.b f1)]], [rv .bool]⟩ (G 40) := sound (l := [(42, 4, ⟨[pv f8, pv f8], [rv .bool]⟩)]) (h := .e) noX Try.func70 (by kernel_rfl) (by kernel_rfl) (run40 rfl) (.cons s42 .nil)
theorem s20 : SoundCall Try.prog 20 ⟨[p1 eV, pv i8], [rv i8]⟩ (G 120) := sound (l := []) (h := (.n none .e (.n none .e (.n none (.n none .e (.n none (.n none .e .e) .e)) (.n none .e .e))))) noX Try.func20 (by kernel_rfl) (by kernel_rfl) run120 .nil
theorem s22 : SoundCall Try.prog 22 ⟨[p1 eV], [r1 eV 69]⟩ (G 121) := sound (l := [(65, 16, ⟨[.val true [.rd (.b f1), .rd (.b f1), .rd (.b f1)]], [(true, [.cell f1, .cell f1, .cell f1])]⟩)]) (h := (.n none .e (.n none .e (.n none (.n none .e (.n (some (.mk 5 0 [(4, (.c (.s (.dat (.b (.int .i64)) (.v 4))))), (8, (.c (.s (.dat (.b (.int .i64)) (.v 5))))), (9, (.c (.s (.dat (.s1 (.mk true [(.flt .f32), (.flt .f32), (.flt .f32)])) (.v 0))))), (10, (.c (.s (.dat (.b (.int .i64)) (.v 6))))), (11, (.c (.s (.dat (.b .bool) (.v 7)))))] [(0, (.row (.s1 (.mk true [(.flt .f32), (.flt .f32), (.flt .f32)])) 69 (.v 3)))])) (.n (some (.mk 2 0 [(4, (.c (.s (.dat (.b (.int .i64)) (.v 4)))))] [(0, (.row (.s1 (.mk true [(.flt .f32), (.flt .f32), (.flt .f32)])) 69 (.v 3)))])) (.n none (.n none .e (.n none .e .e)) (.n none (.n none .e .e) .e)) .e) .e)) (.n none .e .e))))) noX Try.func22 (by kernel_rfl) (by kernel_rfl) (run121 rfl) (.cons s65 .nil)
theorem s24 : SoundCall Try.prog 24 ⟨[p1 eV, p1 eV], [rv .bool]⟩ (G 127) := sound (l := [(70, 40, ⟨[.val true [.rd (.b f1), .rd (.b f1), .rd (.b f1)], .val true [.rd (.b f1), .rd (.b f1), .rd (.b f1)]], [rv .bool]⟩)]) (h := (.n none .e (.n none (.n none .e (.n none (.n none .e .e) .e)) (.n none (.n none .e (.n (some (.mk 4 0 [(5, (.c (.s (.dat (.b (.int .i64)) (.v 5))))), (11, (.c (.s (.dat (.b (.int .i64)) (.v 6))))), (12, (.c (.s (.dat (.s1 (.mk true [(.flt .f32), (.flt .f32), (.flt .f32)])) (.v 0))))), (13, (.c (.s (.dat (.b (.int .i64)) (.v 7))))), (14, (.c (.s (.dat (.b .bool) (.v 8)))))] [])) (.n (some (.mk 1 0 [(5, (.c (.s (.dat (.b (.int .i64)) (.v 5)))))] [])) (.n none (.n none .e (.n none .e .e)) (.n none (.n none (.n none .e (.n none (.n none .e .e) .e)) .e) .e)) .e) .e)) (.n none .e .e))))) noX Try.func24 (by kernel_rfl) (by kernel_rfl) (run127 rfl) (.cons s70 .nil)
theorem s25 : SoundCall Try.prog 25 ⟨[m1 eV 69 true, pv i8], [rv i8]⟩ (G 128) := sound (l := []) (h := (.n none .e (.n none (.n none .e (.n (some (.mk 6 0 [(1, (.c (.s (.dat (.b (.int .i64)) (.v 3))))), (5, (.c (.s (.dat (.b (.int .i64)) (.v 4))))), (6, (.c (.s (.dat (.b (.int .i64)) (.v 5))))), (7, (.c (.s (.own 0)))), (8, (.c (.s (.dat (.b (.int .i64)) (.v 6))))), (9, (.c (.s (.dat (.b .bool) (.v 7)))))] [(0, (.row (.s1 (.mk true [(.flt .f32), (.flt .f32), (.flt .f32)])) 69 (.v 2)))])) (.n (some (.mk 3 0 [(1, (.c (.s (.dat (.b (.int .i64)) (.v 3))))), (5, (.c (.s (.dat (.b (.int .i64)) (.v 4)))))] [(0, (.row (.s1 (.mk true [(.flt .f32), (.flt .f32), (.flt .f32)])) 69 (.v 2)))])) (.n none (.n none .e (.n none .e .e)) (.n none (.n none (.n none .e (.n none .e (.n none .e (.n none .e (.n none .e .e))))) .e) .e)) .e) .e)) (.n none .e .e)))) noX Try.func25 (by kernel_rfl) (by kernel_rfl) run128 .nil
theorem s26 : SoundCall Try.prog 26 ⟨[p1 eV, pv i8], [rv i8]⟩ (G 129) := sound (l := []) (h := (.n none .e (.n none (.n none .e (.n (some (.mk 5 0 [(1, (.c (.s (.dat (.b (.int .i64)) (.v 2))))), (5, (.c (.s (.dat (.b (.int .i64)) (.v 3))))), (6, (.c (.s (.dat (.b (.int .i64)) (.v 4))))), (7, (.c (.s (.dat (.s1 (.mk true [(.flt .f32), (.flt .f32), (.flt .f32)])) (.v 0))))), (8, (.c (.s (.dat (.b (.int .i64)) (.v 5))))), (9, (.c (.s (.dat (.b .bool) (.v 6)))))] [])) (.n (some (.mk 2 0 [(1, (.c (.s (.dat (.b (.int .i64)) (.v 2))))), (5, (.c (.s (.dat (.b (.int .i64)) (.v 3)))))] [])) (.n none (.n none .e (.n none .e .e)) (.n none (.n none (.n none (.n none .e (.n none (.n none .e .e) .e)) (.n none .e (.n none (.n none .e (.n none (.n none .e .e) .e)) (.n none .e (.n none (.n none .e (.n none (.n none .e .e) .e)) .e))))) .e) .e)) .e) .e)) (.n none .e .e)))) noX Try.func26 (by kernel_rfl) (by kernel_rfl) run129 .nil
theorem s121 : SoundCall Try.prog 121 ⟨[.val true [.rd (.b f1), .rd (.b f1), .rd (.b f1)], .val true [.rd (.b f1), .rd (.b f1), .rd (.b f1)]], [rv f1]⟩ (G 14) := sound (l := []) (h := .e) noX Try.func121 (by kernel_rfl) (by kernel_rfl) run14 .nil
theorem s112 : SoundCall Try.prog 112 ⟨[.val true [.rd (.b f1), .rd (.b f1), .rd (.b f1)], .val true [.rd (.b f1), .rd (.b f1), .rd (.b f1)]], [rv f1]⟩ (G 14) := sound (l := []) (h := .e) noX Try.func112 (by kernel_rfl) (by kernel_rfl) run14 .nil
theorem s111 : SoundCall Try.prog 111 ⟨[.val true [.rd (.b f1), .rd (.b f1), .rd (.b f1)], pv f1], [(true, [.cell f1, .cell f1, .cell f1])]⟩ (G 31) := sound (l := []) (h := .e) noX Try.func111 (by kernel_rfl) (by kernel_rfl) run31 .nil
theorem s69 : SoundCall Try.prog 69 ⟨[.val true [.rd (.b f1), .rd (.b f1), .rd (.b f1)], pv f1], [(true, [.cell f1, .cell f1, .cell f1])]⟩ (G 31) := sound (l := []) (h := .e) noX Try.func69 (by kernel_rfl) (by kernel_rfl) run31 .nil
theorem s110 : SoundCall Try.prog 110 ⟨[p1 eV, p1 eV], [rv f1]⟩ (G 124) := sound (l := [(121, 14, ⟨[.val true [.rd (.b f1), .rd (.b f1), .rd (.b f1)], .val true [.rd (.b f1), .rd (.b f1), .rd (.b f1)]], [rv f1]⟩)]) (h := (.n none .e (.n none .e (.n none (.n none .e (.n (some (.mk 3 0 [(5, (.c (.s (.dat (.b (.flt .f32)) (.v 3))))), (9, (.c (.s (.dat (.b (.int .i64)) (.v 4))))), (10, (.c (.s (.dat (.b .bool) (.v 5)))))] [])) (.n (some (.mk 2 0 [(5, (.c (.s (.dat (.b (.flt .f32)) (.v 3))))), (9, (.c (.s (.dat (.b (.int .i64)) (.v 4)))))] [])) (.n none .e (.n none (.n none .e .e) (.n none (.n none (.n none .e .e) .e) .e))) .e) .e)) (.n none .e .e))))) noX Try.func110 (by kernel_rfl) (by kernel_rfl) (run124 rfl) (.cons s121 .nil)
theorem s67 : SoundCall Try.prog 67 ⟨[p1 eV, p1 eV], [rv f1]⟩ (G 124) := sound (l := [(112, 14, ⟨[.val true [.rd (.b f1), .rd (.b f1), .rd (.b f1)], .val true [.rd (.b f1), .rd (.b f1), .rd (.b f1)]], [rv f1]⟩)]) (h := (.n none .e (.n none .e (.n none (.n none .e (.n (some (.mk 3 0 [(5, (.c (.s (.dat (.b (.flt .f32)) (.v 3))))), (10, (.c (.s (.dat (.b (.int .i64)) (.v 4))))), (11, (.c (.s (.dat (.b .bool) (.v 5)))))] [])) (.n (some (.mk 2 0 [(5, (.c (.s (.dat (.b (.flt .f32)) (.v 3))))), (10, (.c (.s (.dat (.b (.int .i64)) (.v 4)))))] [])) (.n none .e (.n none (.n none .e .e) (.n none (.n none (.n none .e .e) .e) .e))) .e) .e)) (.n none .e .e))))) noX Try.func67 (by kernel_rfl) (by kernel_rfl) (run124 rfl) (.cons s112 .nil)
theorem s66 : SoundCall Try.prog 66 ⟨[p1 eV, p1 eV], [rv f1, rv .bool]⟩ (G 125) := sound (l := [(67, 124, ⟨[p1 eV, p1 eV], [rv f1]⟩)]) (h := (.n none .e (.n none (.n none .e (.n none (.n none .e .e) .e)) (.n none .e .e)))) noX Try.func66 (by kernel_rfl) (by kernel_rfl) (run125 rfl) (.cons s67 .nil)
theorem s116 : SoundCall Try.prog 116 ⟨[pv f8], [rv f8]⟩ (G 9) := sound (X := [(132, .sqrt)]) (l := []) (h := (.n none .e (.n none .e .e))) sqrtX Try.func116 (by kernel_rfl) (by kernel_rfl) run9 .nil
theorem s131 : SoundCall Try.prog 131 ⟨[pv f8], [rv f1]⟩ (G 10) := sound (l := []) (h := (.n none .e (.n none .e .e))) noX Try.func131 (by kernel_rfl) (by kernel_rfl) run10 .nil
theorem s113 : SoundCall Try.prog 113 ⟨[pv f1], [rv f1]⟩ (G 11) := sound (l := [(116, 9, ⟨[pv f8], [rv f8]⟩), (131, 10, ⟨[pv f8], [rv f1]⟩)]) (h := (.n none .e (.n none .e .e))) noX Try.func113 (by kernel_rfl) (by kernel_rfl) (run11' rfl rfl) (.cons s116 (.cons s131 .nil))
theorem s73 : SoundCall Try.prog 73 ⟨[pv f1], [rv f1]⟩ (G 11) := sound (l := [(116, 9, ⟨[pv f8], [rv f8]⟩)]) (h := (.n none .e (.n none .e .e))) noX Try.func73 (by kernel_rfl) (by kernel_rfl) (run11 rfl) (.cons s116 .nil)
theorem s115 : SoundCall Try.prog 115 ⟨[pv f1], [rv .bool]⟩ (G 1) := sound (l := []) (h := (.n none .e (.n none .e .e))) noX Try.func115 (by kernel_rfl) (by kernel_rfl) run1 .nil
theorem s74 : SoundCall Try.prog 74 ⟨[pv f1], [rv .bool]⟩ (G 1) := sound (l := []) (h := (.n none .e (.n none .e .e))) noX Try.func74 (by kernel_rfl) (by kernel_rfl) run1 .nil
theorem s114 : SoundCall Try.prog 114 ⟨[pv f1], [rv .bool]⟩ (G 2) := sound (l := [(115, 1, ⟨[pv f1], [rv .bool]⟩)]) (h := (.n none .e (.n none .e .e))) noX Try.func114 (by kernel_rfl) (by kernel_rfl) (run2 rfl) (.cons s115 .nil)
theorem s72 : SoundCall Try.prog 72 ⟨[pv f1], [rv .bool]⟩ (G 2) := sound (l := [(74, 1, ⟨[pv f1], [rv .bool]⟩)]) (h := (.n none .e (.n none .e .e))) noX Try.func72 (by kernel_rfl) (by kernel_rfl) (run2 rfl) (.cons s74 .nil)
theorem s71 : SoundCall Try.prog 71 ⟨[p1 eV], [r1 eV 69, rv .bool]⟩ (G 132) := sound (l := [(110, 124, ⟨[p1 eV, p1 eV], [rv f1]⟩), (113, 11, ⟨[pv f1], [rv f1]⟩), (114, 2, ⟨[pv f1], [rv .bool]⟩), (115, 1, ⟨[pv f1], [rv .bool]⟩), (111, 31, ⟨[.val true [.rd (.b f1), .rd (.b f1), .rd (.b f1)], pv f1], [(true, [.cell f1, .cell f1, .cell f1])]⟩)]) (h := (.n none .e (.n none .e (.n none .e (.n none (.n none .e (.n none (.n none .e .e) .e)) (.n none .e (.n none (.n none .e (.n (some (.mk 3 1 [(6, (.c (.s (.own 1)))), (18, (.c (.s .undef))), (19, (.c (.s .undef))), (20, (.c (.s .undef))), (25, (.c (.s (.dat (.b (.int .i64)) (.v 13))))), (26, (.c (.s (.dat (.b .bool) (.v 14)))))] [(0, .dead), (1, (.row (.s1 (.mk true [(.flt .f32), (.flt .f32), (.flt .f32)])) 69 (.v 12)))])) (.n (some (.mk 2 1 [(6, (.c (.s (.own 1)))), (18, (.c (.s .undef))), (19, (.c (.s .undef))), (20, (.c (.s .undef))), (25, (.c (.s (.dat (.b (.int .i64)) (.v 13)))))] [(0, .dead), (1, (.row (.s1 (.mk true [(.flt .f32), (.flt .f32), (.flt .f32)])) 69 (.v 12)))])) (.n none .e (.n none (.n none .e .e) (.n none (.n none (.n none .e .e) .e) .e))) .e) .e)) (.n none .e .e)))))))) noX Try.func71 (by kernel_rfl) (by kernel_rfl) (run132 rfl rfl rfl rfl rfl) (.cons s110 (.cons s113 (.cons s114 (.cons s115 (.cons s111 .nil)))))
theorem s28 : SoundCall Try.prog 28 ⟨[p1 eV], [r1 eV 69, rv .bool]⟩ (G 131) := sound (l := [(66, 125, ⟨[p1 eV, p1 eV], [rv f1, rv .bool]⟩), (72, 2, ⟨[pv f1], [rv .bool]⟩), (73, 11, ⟨[pv f1], [rv f1]⟩), (74, 1, ⟨[pv f1], [rv .bool]⟩), (69, 31, ⟨[.val true [.rd (.b f1), .rd (.b f1), .rd (.b f1)], pv f1], [(true, [.cell f1, .cell f1, .cell f1])]⟩)]) (h := (.n none .e (.n none .e (.n none (.n none .e (.n none (.n none .e .e) .e)) (.n none .e (.n none (.n none .e (.n none (.n none .e .e) .e)) (.n none .e (.n none (.n none .e (.n (some (.mk 3 1 [(7, (.c (.s (.own 1)))), (19, (.c (.s .undef))), (20, (.c (.s .undef))), (21, (.c (.s .undef))), (32, (.c (.s (.dat (.b (.int .i64)) (.v 15))))), (33, (.c (.s (.dat (.b .bool) (.v 16)))))] [(0, .dead), (1, (.row (.s1 (.mk true [(.flt .f32), (.flt .f32), (.flt .f32)])) 69 (.v 14)))])) (.n (some (.mk 2 1 [(7, (.c (.s (.own 1)))), (19, (.c (.s .undef))), (20, (.c (.s .undef))), (21, (.c (.s .undef))), (32, (.c (.s (.dat (.b (.int .i64)) (.v 15)))))] [(0, .dead), (1, (.row (.s1 (.mk true [(.flt .f32), (.flt .f32), (.flt .f32)])) 69 (.v 14)))])) (.n none .e (.n none (.n none .e .e) (.n none (.n none (.n none .e .e) .e) .e))) .e) .e)) (.n none .e .e))))))))) noX Try.func28 (by kernel_rfl) (by kernel_rfl) (run131 rfl rfl rfl rfl rfl) (.cons s66 (.cons s72 (.cons s73 (.cons s74 (.cons s69 .nil)))))
theorem s27 : SoundCall Try.prog 27 ⟨[p1 eV], [r1 eV 69, rv .bool]⟩ (G 131) := sound (l := [(71, 132, ⟨[p1 eV], [r1 eV 69, rv .bool]⟩)]) (h := (.n none .e (.n none (.n none .e (.n none (.n none .e .e) .e)) (.n none .e .e)))) noX Try.func27 (by kernel_rfl) (by kernel_rfl) (run131s rfl) (.cons s71 .nil)
theorem s5 : SoundCall Try.prog 5 ⟨[p1 eV], [rv .bool]⟩ (G 133) := sound (l := [(20, 120, ⟨[p1 eV, pv i8], [rv i8]⟩), (22, 121, ⟨[p1 eV], [r1 eV 69]⟩), (27, 131, ⟨[p1 eV], [r1 eV 69, rv .bool]⟩), (28, 131, ⟨[p1 eV], [r1 eV 69, rv .bool]⟩), (24, 127, ⟨[p1 eV, p1 eV], [rv .bool]⟩), (25, 128, ⟨[m1 eV 69 true, pv i8], [rv i8]⟩), (26, 129, ⟨[p1 eV, pv i8], [rv i8]⟩)]) (h := (.n none .e (.n none .e (.n none .e (.n none (.n none .e (.n none (.n none .e .e) .e)) (.n none .e (.n none .e (.n none .e (.n none (.n none .e (.n none (.n none .e .e) .e)) (.n none (.n none .e (.n none (.n none .e .e) .e)) (.n none .e (.n none .e (.n none (.n none .e (.n none (.n none .e .e) .e)) (.n none .e (.n none .e (.n none .e (.n none .e (.n none (.n none .e (.n none (.n none .e .e) .e)) (.n none (.n none .e (.n none (.n none .e .e) .e)) (.n none .e (.n none (.n none .e (.n none (.n none .e .e) .e)) (.n none .e (.n none .e (.n none (.n none .e (.n none (.n none .e .e) .e)) (.n none (.n none .e (.n none (.n none .e .e) .e)) (.n none .e .e)))))))))))))))))))))))))) noX Try.func5 (by kernel_rfl) (by kernel_rfl) (run133 rfl rfl rfl rfl rfl rfl) (.cons s20 (.cons s22 (.cons s27 (.cons s28 (.cons s24 (.cons s25 (.cons s26 .nil)))))))

theorem own : ownKnob Try.prog.godebug = none := by kernel_rfl
theorem laidOut : laidOutB Try.prog = true := by kernel_rfl
theorem mapsRow : mapsRowed Try.prog = true := by kernel_rfl
theorem slicesFull : ((List.range Try.prog.types.size).all fun t => match Try.prog.underlying t with | some (.slice e) => decide (0 < Try.prog.cellsOf e) | _ => true) = true := by kernel_rfl

set_option maxRecDepth 100000 in
theorem normVectors_lifted (os : Os) (started : os.Started) (H : Type) (enc : TypeId × Value → H) :
    ReturnsInHanded {} Try.checked os 5 .any (Rows.fnExactNormVectorsSpec.pre6 enc Try.prog Try.f5 Rows.fnExactNormVectorsRow.domain false) (Rows.fnExactNormVectorsSpec.post enc Try.prog Try.f5 false true false false) := by
  refine returnsInHanded_of_change (C := Try.checked) own started (by kernel_rfl) Try.func5
    (ChangeSpec.witness6 (enc := enc) (C := Try.checked) false ⟨#[], #[.slice none 0 0], []⟩ 8 (by kernel_rfl) (by kernel_rfl) (by kernel_rfl) (by kernel_rfl)) ?_
  intro W base args ds gs before hval0 hW hcnd _
  have hval : ∀ (j : Nat) t v, Try.f5.params.toList[j]? = some t → args.toList[j]? = some v → Value.okWide Try.prog W .any base t v := fun j t v h1 h2 => hval0 j t v (by simpa using h1) (by simpa using h2)
  obtain ⟨p, q, hA, hV, _⟩ := id hW
  obtain ⟨xs, hX, hF0, hl0⟩ := args_cells (cts := [.s1 eV]) (by kernel_rfl) hA hval
  rw [← Fm_nil] at hX
  obtain ⟨x0, ys0, rfl, hb0, hF1⟩ := fitsc_vl hF0
  obtain rfl := fitsc_nil hF1
  rw [Try.params5] at hl0
  obtain ⟨d0, es0, rfl, hl1⟩ := len_cons hl0
  obtain rfl := len_nil hl1
  exact law_of_sound (bT := true) (tb := 4) laidOut mapsRow slicesFull (by kernel_rfl) (by kernel_rfl) (by kernel_rfl) rfl ⟨rfl, rfl, rfl⟩ s5 rfl hW ⟨_, hX, by show F133 _ = _; unfold F133; rw [on1_vl]; exact if_pos hb0⟩

theorem normVectors_holds : Rows.FnExactNormVectorsSaid :=
  OpenClaim.holds_of_wide 5 Try.f5 rfl rfl rfl rfl rfl rfl rfl ⟨rfl, rfl, rfl, rfl, rfl⟩ rfl rfl rfl rfl rfl (by kernel_rfl) Try.func5 (by kernel_rfl)
    (of_decide_eq_true (by kernel_rfl)) (by unfold Func.isWrapper; first | (rw [if_pos (by decide +kernel)]; kernel_rfl) | (rw [if_neg (by decide +kernel)]; exact ⟨rfl, rfl⟩))
    (fun os started H enc _ => normVectors_lifted os started H enc)

end Go.Proofs.Ytfpmhmngebnphaa
