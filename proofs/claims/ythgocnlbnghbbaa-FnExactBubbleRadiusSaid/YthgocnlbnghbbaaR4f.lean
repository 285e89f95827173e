/-
  Proved: for all arguments the program's BubbleRadius returns what the reference's returns (the law answers true). Conditions: none.
-/
import Derived.Test.YthgocnlbnghbbaaRows
import Derived.Test.YthgocnlbnghbbaaK8
import Derived.Test.YthgocnlbnghbbaaK18
import Derived.Test.YthgocnlbnghbbaaK19
namespace Go.Proofs.Ythgocnlbnghbbaa
open Vs Go Go.RowKit Go.ChangeShapes Go.WideShapes Go.ChangeAt

noncomputable def G : Vs.Told
  | 1 => F1
  | 2 => F2
  | 4 => F4
  | 10 => F10
  | 310 => F310
  | 311 => F311
  | 312 => F312
  | 325 => F325
  | 326 => F326
  | 327 => F327
  | 328 => F328
  | 329 => F329
  | 330 => F330
  | 331 => F331
  | 332 => F332
  | 333 => F333
  | _ => fun _ => none

theorem noX : ∀ x ∈ ([] : List (FuncId × Ext)), ∀ args w, (callFunc x.1 args).run Try.prog w = ((extFn x.2 args).run Try.prog w).andThen fun v w' => .ok (.value v) w' := by
  intro x hx; cases hx
theorem f64bitsX : ∀ x ∈ ([(88, .f64bits)] : List (FuncId × Ext)), ∀ args w, (callFunc x.1 args).run Try.prog w = ((extFn x.2 args).run Try.prog w).andThen fun v w' => .ok (.value v) w' := by
  intro x hx
  simp only [List.mem_cons, List.not_mem_nil, or_false] at hx
  subst hx
  exact fun args w => run_callFunc_extern Try.func88 (by kernel_rfl) (by kernel_rfl) (by kernel_rfl) (by kernel_rfl) args w

theorem f64frombitsX : ∀ x ∈ ([(87, .f64frombits)] : List (FuncId × Ext)), ∀ args w, (callFunc x.1 args).run Try.prog w = ((extFn x.2 args).run Try.prog w).andThen fun v w' => .ok (.value v) w' := by
  intro x hx
  simp only [List.mem_cons, List.not_mem_nil, or_false] at hx
  subst hx
  exact fun args w => run_callFunc_extern Try.func87 (by kernel_rfl) (by kernel_rfl) (by kernel_rfl) (by kernel_rfl) args w

theorem extX : ∀ x ∈ ([(88, .f64bits), (87, .f64frombits)] : List (FuncId × Ext)), ∀ args w, (callFunc x.1 args).run Try.prog w = ((extFn x.2 args).run Try.prog w).andThen fun v w' => .ok (.value v) w' := by
  intro x hx
  simp only [List.mem_cons, List.not_mem_nil, or_false] at hx
  rcases hx with rfl | rfl
  · exact fun args w => run_callFunc_extern Try.func88 (by kernel_rfl) (by kernel_rfl) (by kernel_rfl) (by kernel_rfl) args w
  · exact fun args w => run_callFunc_extern Try.func87 (by kernel_rfl) (by kernel_rfl) (by kernel_rfl) (by kernel_rfl) args w

theorem s79 : SoundCall Try.prog 79 ⟨[pv f1], [rv .bool]⟩ (G 1) := sound (l := []) (h := .e) noX Try.func79 (by kernel_rfl) (by kernel_rfl) run1 .nil
theorem s68 : SoundCall Try.prog 68 ⟨[pv f1], [rv .bool]⟩ (G 2) := sound (l := [(79, 1, ⟨[pv f1], [rv .bool]⟩)]) (h := .e) noX Try.func68 (by kernel_rfl) (by kernel_rfl) (run2 rfl) (.cons s79 .nil)
theorem s61 : SoundCall Try.prog 61 ⟨[], [rv f8]⟩ (G 331) := sound (X := [(87, .f64frombits)]) (l := []) (h := (.n none .e (.n none .e .e))) f64frombitsX Try.func61 (by kernel_rfl) (by kernel_rfl) run331 .nil
theorem s85 : SoundCall Try.prog 85 ⟨[pv i8], [rv f8]⟩ (G 330) := sound (X := [(87, .f64frombits)]) (l := []) (h := (.n none .e (.n none .e (.n none (.n none .e (.n (some (.mk 1 0 [(3, (.c (.s (.dat (.b (.int .u64)) (.v 2)))))] [])) .e .e)) (.n none .e .e))))) f64frombitsX Try.func85 (by kernel_rfl) (by kernel_rfl) run330 .nil
theorem s62 : SoundCall Try.prog 62 ⟨[pv f8], [rv f8]⟩ (G 332) := sound (X := [(88, .f64bits), (87, .f64frombits)]) (l := []) (h := (.n none .e (.n none .e .e))) extX Try.func62 (by kernel_rfl) (by kernel_rfl) run332 .nil
theorem s99 : SoundCall Try.prog 99 ⟨[pv f8, pv i8], [rv .bool]⟩ (G 333) := sound (l := [(62, 332, ⟨[pv f8], [rv f8]⟩)]) (h := (.n none .e (.n none (.n none .e (.n (some (.mk 1 0 [(0, (.c (.s (.dat (.b (.flt .f64)) (.v 3)))))] [])) .e (.n none .e (.n (some (.mk 1 0 [(0, (.c (.s (.dat (.b (.flt .f64)) (.v 4)))))] [])) .e .e)))) (.n none .e .e)))) noX Try.func99 (by kernel_rfl) (by kernel_rfl) run333 (.cons s62 .nil)
theorem s95 : SoundCall Try.prog 95 ⟨[pv f8], [rv f8]⟩ (G 325) := sound (l := [(61, 331, ⟨[], [rv f8]⟩), (85, 330, ⟨[pv i8], [rv f8]⟩), (99, 333, ⟨[pv f8, pv i8], [rv .bool]⟩)]) (h := (.n none .e (.n none (.n none (.n none .e (.n none (.n none .e .e) (.n none .e (.n none (.n none .e .e) (.n none .e (.n none (.n none .e .e) .e)))))) .e) (.n none .e (.n none (.n (some (.mk 4 0 [(0, (.c (.s (.dat (.b (.flt .f64)) (.v 7))))), (3, (.c (.s (.dat (.b (.int .i64)) (.v 8))))), (13, (.c (.s .undef))), (14, (.c (.s .undef))), (25, (.c (.s (.dat (.b (.flt .f64)) (.v 9))))), (26, (.c (.s (.dat (.b .bool) (.v 10)))))] [])) (.n (some (.mk 2 0 [(0, (.c (.s (.dat (.b (.flt .f64)) (.v 7))))), (3, (.c (.s (.dat (.b (.int .i64)) (.v 8))))), (13, (.c (.s .undef))), (14, (.c (.s .undef)))] [])) (.n none (.n none .e (.n none .e .e)) (.n none (.n none .e .e) .e)) .e) .e) (.n none (.n (some (.mk 4 0 [(0, (.c (.s (.dat (.b (.flt .f64)) (.v 11))))), (3, (.c (.s (.dat (.b (.int .i64)) (.v 12))))), (31, (.c (.s (.dat (.b (.flt .f64)) (.v 13))))), (32, (.c (.s (.dat (.b .bool) (.v 14)))))] [])) (.n (some (.mk 2 0 [(0, (.c (.s (.dat (.b (.flt .f64)) (.v 11))))), (3, (.c (.s (.dat (.b (.int .i64)) (.v 12)))))] [])) (.n none (.n none .e (.n none .e .e)) (.n none (.n none .e .e) .e)) .e) .e) (.n none .e (.n none .e (.n none .e (.n none (.n none .e (.n (some (.mk 4 0 [(6, (.c (.s (.dat (.b (.flt .f64)) (.v 19))))), (7, (.c (.s (.dat (.b (.int .i64)) (.v 20))))), (45, (.c (.s (.dat (.b (.int .i64)) (.v 21))))), (46, (.c (.s (.dat (.b .bool) (.v 22)))))] [])) (.n (some (.mk 2 0 [(6, (.c (.s (.dat (.b (.flt .f64)) (.v 19))))), (7, (.c (.s (.dat (.b (.int .i64)) (.v 20)))))] [])) (.n none (.n none .e (.n none .e .e)) (.n none (.n none .e .e) .e)) .e) .e)) (.n none .e .e))))))))))) noX Try.func95 (by kernel_rfl) (by kernel_rfl) (run325 rfl rfl) (.cons s61 (.cons s85 (.cons s99 .nil)))
theorem s90 : SoundCall Try.prog 90 ⟨[pv f8], [rv f1]⟩ (G 10) := sound (l := []) (h := .e) noX Try.func90 (by kernel_rfl) (by kernel_rfl) run10 .nil
theorem s75 : SoundCall Try.prog 75 ⟨[pv f1], [rv f1]⟩ (G 327) := sound (l := [(95, 325, ⟨[pv f8], [rv f8]⟩), (90, 10, ⟨[pv f8], [rv f1]⟩)]) (h := (.n none .e (.n none .e .e))) noX Try.func75 (by kernel_rfl) (by kernel_rfl) (run327s rfl rfl) (.cons s95 (.cons s90 .nil))
theorem s94 : SoundCall Try.prog 94 ⟨[pv f8], [rv f8]⟩ (G 310) := sound (l := [(85, 330, ⟨[pv i8], [rv f8]⟩)]) (h := (.n none .e (.n none (.n none .e (.n none (.n none .e .e) .e)) (.n none (.n none .e (.n none (.n none .e .e) .e)) (.n none (.n none .e (.n none (.n none .e .e) .e)) (.n none .e (.n none .e (.n none (.n none .e (.n (some (.mk 4 0 [(4, (.c (.s (.dat (.b (.flt .f64)) (.v 5))))), (5, (.c (.s (.dat (.b (.int .i64)) (.v 6))))), (18, (.c (.s (.dat (.b (.int .i64)) (.v 7))))), (19, (.c (.s (.dat (.b .bool) (.v 8)))))] [])) (.n (some (.mk 2 0 [(4, (.c (.s (.dat (.b (.flt .f64)) (.v 5))))), (5, (.c (.s (.dat (.b (.int .i64)) (.v 6)))))] [])) (.n none (.n none .e (.n none .e .e)) (.n none (.n none .e .e) .e)) .e) .e)) (.n none (.n none .e (.n (some (.mk 4 0 [(4, (.c (.s (.dat (.b (.flt .f64)) (.v 9))))), (6, (.c (.s (.dat (.b (.int .i64)) (.v 10))))), (29, (.c (.s (.dat (.b (.int .i64)) (.v 11))))), (30, (.c (.s (.dat (.b .bool) (.v 12)))))] [])) (.n (some (.mk 2 0 [(4, (.c (.s (.dat (.b (.flt .f64)) (.v 9))))), (6, (.c (.s (.dat (.b (.int .i64)) (.v 10)))))] [])) (.n none (.n none .e (.n none .e .e)) (.n none (.n none .e .e) .e)) .e) .e)) (.n none .e .e)))))))))) noX Try.func94 (by kernel_rfl) (by kernel_rfl) (run310s rfl) (.cons s85 .nil)
theorem s74 : SoundCall Try.prog 74 ⟨[pv f1], [rv f1]⟩ (G 312) := sound (l := [(94, 310, ⟨[pv f8], [rv f8]⟩), (90, 10, ⟨[pv f8], [rv f1]⟩)]) (h := (.n none .e (.n none .e .e))) noX Try.func74 (by kernel_rfl) (by kernel_rfl) (run312s rfl rfl) (.cons s94 (.cons s90 .nil))
theorem s44 : SoundCall Try.prog 44 ⟨[pv f1], [rv f1, rv .bool]⟩ (G 328) := sound (l := [(68, 2, ⟨[pv f1], [rv .bool]⟩), (75, 327, ⟨[pv f1], [rv f1]⟩), (74, 312, ⟨[pv f1], [rv f1]⟩)]) (h := (.n none .e (.n none (.n none .e (.n none (.n none .e .e) .e)) (.n none .e (.n none .e .e))))) noX Try.func44 (by kernel_rfl) (by kernel_rfl) (run328s rfl rfl rfl) (.cons s68 (.cons s75 (.cons s74 .nil)))
theorem s56 : SoundCall Try.prog 56 ⟨[pv f1], [rv .bool]⟩ (G 1) := sound (l := []) (h := (.n none .e (.n none .e .e))) noX Try.func56 (by kernel_rfl) (by kernel_rfl) run1 .nil
theorem s47 : SoundCall Try.prog 47 ⟨[pv f1], [rv .bool]⟩ (G 2) := sound (l := [(56, 1, ⟨[pv f1], [rv .bool]⟩)]) (h := (.n none .e (.n none .e .e))) noX Try.func47 (by kernel_rfl) (by kernel_rfl) (run2 rfl) (.cons s56 .nil)
theorem s86 : SoundCall Try.prog 86 ⟨[pv f8], [rv f8]⟩ (G 326) := sound (l := []) (h := (.n none .e (.n none .e (.n none (.n (some (.mk 4 0 [(0, (.c (.s (.dat (.b (.flt .f64)) (.v 1))))), (3, (.c (.s (.dat (.b (.flt .f64)) (.v 2))))), (8, (.c (.s (.dat (.b (.flt .f64)) (.v 3))))), (9, (.c (.s (.dat (.b .bool) (.v 4)))))] [])) (.n (some (.mk 2 0 [(0, (.c (.s (.dat (.b (.flt .f64)) (.v 1))))), (3, (.c (.s (.dat (.b (.flt .f64)) (.v 2)))))] [])) (.n none (.n none .e (.n none .e .e)) (.n none (.n none .e .e) .e)) .e) .e) (.n none (.n (some (.mk 4 0 [(0, (.c (.s (.dat (.b (.flt .f64)) (.v 5))))), (3, (.c (.s (.dat (.b (.flt .f64)) (.v 6))))), (14, (.c (.s (.dat (.b (.flt .f64)) (.v 7))))), (15, (.c (.s (.dat (.b .bool) (.v 8)))))] [])) (.n (some (.mk 2 0 [(0, (.c (.s (.dat (.b (.flt .f64)) (.v 5))))), (3, (.c (.s (.dat (.b (.flt .f64)) (.v 6)))))] [])) (.n none (.n none .e (.n none .e .e)) (.n none (.n none .e .e) .e)) .e) .e) (.n none .e (.n none .e (.n none .e (.n none (.n none .e (.n (some (.mk 4 0 [(6, (.c (.s (.dat (.b (.flt .f64)) (.v 13))))), (7, (.c (.s (.dat (.b (.flt .f64)) (.v 14))))), (28, (.c (.s (.dat (.b (.flt .f64)) (.v 15))))), (29, (.c (.s (.dat (.b .bool) (.v 16)))))] [])) (.n (some (.mk 2 0 [(6, (.c (.s (.dat (.b (.flt .f64)) (.v 13))))), (7, (.c (.s (.dat (.b (.flt .f64)) (.v 14)))))] [])) (.n none (.n none .e (.n none .e .e)) (.n none (.n none .e .e) .e)) .e) .e)) (.n none .e .e)))))))))) noX Try.func86 (by kernel_rfl) (by kernel_rfl) run326 .nil
theorem s55 : SoundCall Try.prog 55 ⟨[pv f1], [rv f1]⟩ (G 327) := sound (l := [(85, 330, ⟨[pv i8], [rv f8]⟩), (61, 331, ⟨[], [rv f8]⟩), (56, 1, ⟨[pv f1], [rv .bool]⟩), (86, 326, ⟨[pv f8], [rv f8]⟩)]) (h := (.n none .e (.n none (.n none (.n none .e (.n none (.n none .e .e) (.n none .e (.n none (.n none .e .e) (.n none .e (.n none (.n none .e .e) .e)))))) .e) (.n none .e .e)))) noX Try.func55 (by kernel_rfl) (by kernel_rfl) (run327 rfl rfl rfl) (.cons s85 (.cons s61 (.cons s56 (.cons s86 .nil))))
theorem s97 : SoundCall Try.prog 97 ⟨[pv f8], [rv f8]⟩ (G 310) := sound (l := [(85, 330, ⟨[pv i8], [rv f8]⟩)]) (h := (.n none .e (.n none (.n none (.n none .e (.n none (.n none .e .e) (.n none .e (.n none (.n none .e .e) .e)))) .e) (.n none .e (.n none .e (.n none (.n none .e (.n (some (.mk 4 0 [(4, (.c (.s (.dat (.b (.flt .f64)) (.v 4))))), (5, (.c (.s (.dat (.b (.flt .f64)) (.v 5))))), (15, (.c (.s (.dat (.b (.flt .f64)) (.v 6))))), (16, (.c (.s (.dat (.b .bool) (.v 7)))))] [])) (.n (some (.mk 2 0 [(4, (.c (.s (.dat (.b (.flt .f64)) (.v 4))))), (5, (.c (.s (.dat (.b (.flt .f64)) (.v 5)))))] [])) (.n none (.n none .e (.n none .e .e)) (.n none (.n none .e .e) .e)) .e) .e)) (.n none (.n none .e (.n (some (.mk 3 0 [(4, (.c (.s (.dat (.b (.flt .f64)) (.v 8))))), (25, (.c (.s (.dat (.b (.int .i64)) (.v 9))))), (26, (.c (.s (.dat (.b .bool) (.v 10)))))] [])) (.n (some (.mk 2 0 [(4, (.c (.s (.dat (.b (.flt .f64)) (.v 8))))), (25, (.c (.s (.dat (.b (.int .i64)) (.v 9)))))] [])) (.n none .e (.n none (.n none .e .e) (.n none (.n none .e .e) .e))) .e) .e)) (.n none .e .e)))))))) noX Try.func97 (by kernel_rfl) (by kernel_rfl) (run310 rfl) (.cons s85 .nil)
theorem s84 : SoundCall Try.prog 84 ⟨[pv f1], [rv f8]⟩ (G 311) := sound (l := [(97, 310, ⟨[pv f8], [rv f8]⟩)]) (h := (.n none .e (.n none .e .e))) noX Try.func84 (by kernel_rfl) (by kernel_rfl) (run311 rfl) (.cons s97 .nil)
theorem s54 : SoundCall Try.prog 54 ⟨[pv f1], [rv f1]⟩ (G 312) := sound (l := [(84, 311, ⟨[pv f1], [rv f8]⟩)]) (h := (.n none .e (.n none .e .e))) noX Try.func54 (by kernel_rfl) (by kernel_rfl) (run312 rfl) (.cons s84 .nil)
theorem s26 : SoundCall Try.prog 26 ⟨[pv f1], [rv f1, rv .bool]⟩ (G 328) := sound (l := [(47, 2, ⟨[pv f1], [rv .bool]⟩), (55, 327, ⟨[pv f1], [rv f1]⟩), (54, 312, ⟨[pv f1], [rv f1]⟩)]) (h := (.n none .e (.n none (.n none .e (.n none (.n none .e .e) .e)) (.n none .e (.n none .e .e))))) noX Try.func26 (by kernel_rfl) (by kernel_rfl) (run328 rfl rfl rfl) (.cons s47 (.cons s55 (.cons s54 .nil)))
theorem s38 : SoundCall Try.prog 38 ⟨[pv f8, pv f8], [rv .bool]⟩ (G 4) := sound (l := []) (h := .e) noX Try.func38 (by kernel_rfl) (by kernel_rfl) run4 .nil
theorem s11 : SoundCall Try.prog 11 ⟨[pv f1], [rv .bool]⟩ (G 329) := sound (l := [(44, 328, ⟨[pv f1], [rv f1, rv .bool]⟩), (26, 328, ⟨[pv f1], [rv f1, rv .bool]⟩), (38, 4, ⟨[pv f8, pv f8], [rv .bool]⟩)]) (h := (.n none .e (.n none .e (.n none .e (.n none (.n none .e (.n none (.n none .e .e) .e)) (.n none .e .e)))))) noX Try.func11 (by kernel_rfl) (by kernel_rfl) (run329 rfl rfl) (.cons s44 (.cons s26 (.cons s38 .nil)))

theorem own : ownKnob Try.prog.godebug = none := by kernel_rfl
theorem laidOut : laidOutB Try.prog = true := by kernel_rfl
theorem mapsRow : mapsRowed Try.prog = true := by kernel_rfl
theorem slicesFull : ((List.range Try.prog.types.size).all fun t => match Try.prog.underlying t with | some (.slice e) => decide (0 < Try.prog.cellsOf e) | _ => true) = true := by kernel_rfl

set_option maxRecDepth 100000 in
theorem bubbleRadius_lifted (os : Os) (started : os.Started) (H : Type) (enc : TypeId × Value → H) :
    ReturnsInHanded {} Try.checked os 11 .any (Rows.fnExactBubbleRadiusSpec.pre6 enc Try.prog Try.f11 Rows.fnExactBubbleRadiusRow.domain false) (Rows.fnExactBubbleRadiusSpec.post enc Try.prog Try.f11 false true false false) := by
  refine returnsInHanded_of_change (C := Try.checked) own started (by kernel_rfl) Try.func11
    (ChangeSpec.witness6 (enc := enc) (C := Try.checked) false ⟨#[], #[.float .f32 0], []⟩ 8 (by kernel_rfl) (by kernel_rfl) (by kernel_rfl) (by kernel_rfl)) ?_
  intro W base args ds gs before hval0 hW hcnd _
  have hval : ∀ (j : Nat) t v, Try.f11.params.toList[j]? = some t → args.toList[j]? = some v → Value.okWide Try.prog W .any base t v := fun j t v h1 h2 => hval0 j t v (by simpa using h1) (by simpa using h2)
  obtain ⟨p, q, hA, hV, _⟩ := id hW
  obtain ⟨xs, hX, hF0, hl0⟩ := args_mix (ps := [(false, [.b f1])]) (by kernel_rfl) hA hval
  rw [← Fm_nil] at hX
  obtain ⟨x0, ys0, rfl, hF1⟩ := fitsd_flt hF0
  obtain rfl := fitsd_nil hF1
  rw [Try.params11] at hl0
  obtain ⟨d0, es0, rfl, hl1⟩ := len_cons hl0
  obtain rfl := len_nil hl1
  exact law_of_sound (bT := true) (tb := 4) laidOut mapsRow slicesFull (by kernel_rfl) (by kernel_rfl) (by kernel_rfl) rfl ⟨rfl, rfl, rfl⟩ s11 rfl hW ⟨_, hX, rfl⟩

theorem bubbleRadius_holds : Rows.FnExactBubbleRadiusSaid :=
  OpenClaim.holds_of_wide 11 Try.f11 rfl rfl rfl rfl rfl rfl rfl ⟨rfl, rfl, rfl, rfl, rfl⟩ rfl rfl rfl rfl rfl (by kernel_rfl) Try.func11 (by kernel_rfl)
    (of_decide_eq_true (by kernel_rfl)) (by unfold Func.isWrapper; first | (rw [if_pos (by decide +kernel)]; kernel_rfl) | (rw [if_neg (by decide +kernel)]; exact ⟨rfl, rfl⟩))
    (fun os started H enc _ => bubbleRadius_lifted os started H enc)

end Go.Proofs.Ythgocnlbnghbbaa
