/-
  Proved: for all arguments the program's IsHolding returns what the reference's returns (the law answers true). Conditions: none.
-/
import Derived.Test.YthgocnlbnghbbaaRows
import Derived.Test.YthgocnlbnghbbaaK8
import Derived.Test.YthgocnlbnghbbaaK18
namespace Go.Proofs.Ythgocnlbnghbbaa
open Vs Go Go.RowKit Go.ChangeShapes Go.WideShapes Go.ChangeAt

noncomputable def G : Vs.Told
  | 1 => F1
  | 2 => F2
  | 6 => F6
  | 7 => F7
  | 10 => F10
  | 310 => F310
  | 311 => F311
  | 312 => F312
  | 313 => F313
  | 314 => F314
  | 315 => F315
  | 316 => F316
  | 317 => F317
  | 318 => F318
  | 319 => F319
  | 320 => F320
  | 321 => F321
  | 323 => F323
  | 330 => F330
  | _ => fun _ => none

theorem noX : ∀ x ∈ ([] : List (FuncId × Ext)), ∀ args w, (callFunc x.1 args).run Try.prog w = ((extFn x.2 args).run Try.prog w).andThen fun v w' => .ok (.value v) w' := by
  intro x hx; cases hx
theorem f64frombitsX : ∀ x ∈ ([(87, .f64frombits)] : List (FuncId × Ext)), ∀ args w, (callFunc x.1 args).run Try.prog w = ((extFn x.2 args).run Try.prog w).andThen fun v w' => .ok (.value v) w' := by
  intro x hx
  simp only [List.mem_cons, List.not_mem_nil, or_false] at hx
  subst hx
  exact fun args w => run_callFunc_extern Try.func87 (by kernel_rfl) (by kernel_rfl) (by kernel_rfl) (by kernel_rfl) args w

theorem s79 : SoundCall Try.prog 79 ⟨[pv f1], [rv .bool]⟩ (G 1) := sound (l := []) (h := .e) noX Try.func79 (by kernel_rfl) (by kernel_rfl) run1 .nil
theorem s68 : SoundCall Try.prog 68 ⟨[pv f1], [rv .bool]⟩ (G 2) := sound (l := [(79, 1, ⟨[pv f1], [rv .bool]⟩)]) (h := .e) noX Try.func68 (by kernel_rfl) (by kernel_rfl) (run2 rfl) (.cons s79 .nil)
theorem s85 : SoundCall Try.prog 85 ⟨[pv i8], [rv f8]⟩ (G 330) := sound (X := [(87, .f64frombits)]) (l := []) (h := (.n none .e (.n none .e (.n none (.n none .e (.n (some (.mk 1 0 [(3, (.c (.s (.dat (.b (.int .u64)) (.v 2)))))] [])) .e .e)) (.n none .e .e))))) f64frombitsX Try.func85 (by kernel_rfl) (by kernel_rfl) run330 .nil
theorem s94 : SoundCall Try.prog 94 ⟨[pv f8], [rv f8]⟩ (G 310) := sound (l := [(85, 330, ⟨[pv i8], [rv f8]⟩)]) (h := (.n none .e (.n none (.n none .e (.n none (.n none .e .e) .e)) (.n none (.n none .e (.n none (.n none .e .e) .e)) (.n none (.n none .e (.n none (.n none .e .e) .e)) (.n none .e (.n none .e (.n none (.n none .e (.n (some (.mk 4 0 [(4, (.c (.s (.dat (.b (.flt .f64)) (.v 5))))), (5, (.c (.s (.dat (.b (.int .i64)) (.v 6))))), (18, (.c (.s (.dat (.b (.int .i64)) (.v 7))))), (19, (.c (.s (.dat (.b .bool) (.v 8)))))] [])) (.n (some (.mk 2 0 [(4, (.c (.s (.dat (.b (.flt .f64)) (.v 5))))), (5, (.c (.s (.dat (.b (.int .i64)) (.v 6)))))] [])) (.n none (.n none .e (.n none .e .e)) (.n none (.n none .e .e) .e)) .e) .e)) (.n none (.n none .e (.n (some (.mk 4 0 [(4, (.c (.s (.dat (.b (.flt .f64)) (.v 9))))), (6, (.c (.s (.dat (.b (.int .i64)) (.v 10))))), (29, (.c (.s (.dat (.b (.int .i64)) (.v 11))))), (30, (.c (.s (.dat (.b .bool) (.v 12)))))] [])) (.n (some (.mk 2 0 [(4, (.c (.s (.dat (.b (.flt .f64)) (.v 9))))), (6, (.c (.s (.dat (.b (.int .i64)) (.v 10)))))] [])) (.n none (.n none .e (.n none .e .e)) (.n none (.n none .e .e) .e)) .e) .e)) (.n none .e .e)))))))))) noX Try.func94 (by kernel_rfl) (by kernel_rfl) (run310s rfl) (.cons s85 .nil)
theorem s90 : SoundCall Try.prog 90 ⟨[pv f8], [rv f1]⟩ (G 10) := sound (l := []) (h := .e) noX Try.func90 (by kernel_rfl) (by kernel_rfl) run10 .nil
theorem s74 : SoundCall Try.prog 74 ⟨[pv f1], [rv f1]⟩ (G 312) := sound (l := [(94, 310, ⟨[pv f8], [rv f8]⟩), (90, 10, ⟨[pv f8], [rv f1]⟩)]) (h := (.n none .e (.n none .e .e))) noX Try.func74 (by kernel_rfl) (by kernel_rfl) (run312s rfl rfl) (.cons s94 (.cons s90 .nil))
theorem s98 : SoundCall Try.prog 98 ⟨[pv f1], [rv f1]⟩ (G 313) := sound (l := [(74, 312, ⟨[pv f1], [rv f1]⟩)]) (h := (.n none .e (.n none .e .e))) noX Try.func98 (by kernel_rfl) (by kernel_rfl) (run313s rfl) (.cons s74 .nil)
theorem s92 : SoundCall Try.prog 92 ⟨[pv f1, pv f1], [rv f1]⟩ (G 316) := sound (l := [(98, 313, ⟨[pv f1], [rv f1]⟩)]) (h := (.n none .e (.n none .e .e))) noX Try.func92 (by kernel_rfl) (by kernel_rfl) (run316 rfl) (.cons s98 .nil)
theorem s69 : SoundCall Try.prog 69 ⟨[pv f1, pv f1], [rv f1, rv .bool]⟩ (G 318) := sound (l := [(92, 316, ⟨[pv f1, pv f1], [rv f1]⟩)]) (h := (.n none .e (.n none .e (.n none .e (.n none .e (.n none (.n none .e (.n none (.n none .e .e) .e)) (.n none (.n none .e (.n (some (.mk 5 0 [(7, (.c (.s (.dat (.b (.flt .f32)) (.v 11))))), (8, (.c (.s (.dat (.b (.flt .f32)) (.v 12))))), (9, (.c (.s (.dat (.b (.int .i64)) (.v 13))))), (23, (.c (.s .undef))), (24, (.c (.s .undef))), (25, (.c (.s .undef))), (27, (.c (.s (.dat (.b (.int .i64)) (.v 14))))), (28, (.c (.s (.dat (.b .bool) (.v 15)))))] [])) (.n (some (.mk 3 0 [(7, (.c (.s (.dat (.b (.flt .f32)) (.v 11))))), (8, (.c (.s (.dat (.b (.flt .f32)) (.v 12))))), (9, (.c (.s (.dat (.b (.int .i64)) (.v 13))))), (23, (.c (.s .undef))), (24, (.c (.s .undef))), (25, (.c (.s .undef)))] [])) (.n none (.n none .e (.n none .e .e)) (.n none (.n none (.n none .e (.n none .e (.n (some (.mk 2 0 [(7, (.c (.s (.dat (.b (.flt .f32)) (.v 19))))), (8, (.c (.s (.dat (.b (.flt .f32)) (.v 20)))))] [])) .e .e))) .e) .e)) .e) .e)) (.n none .e .e)))))))) noX Try.func69 (by kernel_rfl) (by kernel_rfl) (run318 rfl) (.cons s92 .nil)
theorem s93 : SoundCall Try.prog 93 ⟨[pv f1], [rv f1]⟩ (G 314) := sound (l := [(74, 312, ⟨[pv f1], [rv f1]⟩)]) (h := (.n none .e (.n none .e .e))) noX Try.func93 (by kernel_rfl) (by kernel_rfl) (run314s rfl) (.cons s74 .nil)
theorem s70 : SoundCall Try.prog 70 ⟨[pv f1, pv f1], [rv f1]⟩ (G 320) := sound (l := [(93, 314, ⟨[pv f1], [rv f1]⟩)]) (h := (.n none .e (.n none .e .e))) noX Try.func70 (by kernel_rfl) (by kernel_rfl) (run320 rfl) (.cons s93 .nil)
theorem s71 : SoundCall Try.prog 71 ⟨[pv f1], [rv f1]⟩ (G 6) := sound (l := []) (h := (.n none .e (.n none .e .e))) noX Try.func71 (by kernel_rfl) (by kernel_rfl) run6 .nil
theorem s42 : SoundCall Try.prog 42 ⟨[pv f1, pv f1], [rv .bool]⟩ (G 321) := sound (l := [(68, 2, ⟨[pv f1], [rv .bool]⟩), (69, 318, ⟨[pv f1, pv f1], [rv f1, rv .bool]⟩), (70, 320, ⟨[pv f1, pv f1], [rv f1]⟩), (71, 6, ⟨[pv f1], [rv f1]⟩)]) (h := (.n none .e (.n none (.n none .e (.n none (.n none .e .e) .e)) (.n none .e (.n none .e .e))))) noX Try.func42 (by kernel_rfl) (by kernel_rfl) (run321s rfl rfl rfl rfl) (.cons s68 (.cons s69 (.cons s70 (.cons s71 .nil))))
theorem s56 : SoundCall Try.prog 56 ⟨[pv f1], [rv .bool]⟩ (G 1) := sound (l := []) (h := (.n none .e (.n none .e .e))) noX Try.func56 (by kernel_rfl) (by kernel_rfl) run1 .nil
theorem s47 : SoundCall Try.prog 47 ⟨[pv f1], [rv .bool]⟩ (G 2) := sound (l := [(56, 1, ⟨[pv f1], [rv .bool]⟩)]) (h := (.n none .e (.n none .e .e))) noX Try.func47 (by kernel_rfl) (by kernel_rfl) (run2 rfl) (.cons s56 .nil)
theorem s97 : SoundCall Try.prog 97 ⟨[pv f8], [rv f8]⟩ (G 310) := sound (l := [(85, 330, ⟨[pv i8], [rv f8]⟩)]) (h := (.n none .e (.n none (.n none (.n none .e (.n none (.n none .e .e) (.n none .e (.n none (.n none .e .e) .e)))) .e) (.n none .e (.n none .e (.n none (.n none .e (.n (some (.mk 4 0 [(4, (.c (.s (.dat (.b (.flt .f64)) (.v 4))))), (5, (.c (.s (.dat (.b (.flt .f64)) (.v 5))))), (15, (.c (.s (.dat (.b (.flt .f64)) (.v 6))))), (16, (.c (.s (.dat (.b .bool) (.v 7)))))] [])) (.n (some (.mk 2 0 [(4, (.c (.s (.dat (.b (.flt .f64)) (.v 4))))), (5, (.c (.s (.dat (.b (.flt .f64)) (.v 5)))))] [])) (.n none (.n none .e (.n none .e .e)) (.n none (.n none .e .e) .e)) .e) .e)) (.n none (.n none .e (.n (some (.mk 3 0 [(4, (.c (.s (.dat (.b (.flt .f64)) (.v 8))))), (25, (.c (.s (.dat (.b (.int .i64)) (.v 9))))), (26, (.c (.s (.dat (.b .bool) (.v 10)))))] [])) (.n (some (.mk 2 0 [(4, (.c (.s (.dat (.b (.flt .f64)) (.v 8))))), (25, (.c (.s (.dat (.b (.int .i64)) (.v 9)))))] [])) (.n none .e (.n none (.n none .e .e) (.n none (.n none .e .e) .e))) .e) .e)) (.n none .e .e)))))))) noX Try.func97 (by kernel_rfl) (by kernel_rfl) (run310 rfl) (.cons s85 .nil)
theorem s84 : SoundCall Try.prog 84 ⟨[pv f1], [rv f8]⟩ (G 311) := sound (l := [(97, 310, ⟨[pv f8], [rv f8]⟩)]) (h := (.n none .e (.n none .e .e))) noX Try.func84 (by kernel_rfl) (by kernel_rfl) (run311 rfl) (.cons s97 .nil)
theorem s54 : SoundCall Try.prog 54 ⟨[pv f1], [rv f1]⟩ (G 312) := sound (l := [(84, 311, ⟨[pv f1], [rv f8]⟩)]) (h := (.n none .e (.n none .e .e))) noX Try.func54 (by kernel_rfl) (by kernel_rfl) (run312 rfl) (.cons s84 .nil)
theorem s29 : SoundCall Try.prog 29 ⟨[pv f1], [rv f1]⟩ (G 313) := sound (l := [(54, 312, ⟨[pv f1], [rv f1]⟩)]) (h := (.n none .e (.n none .e .e))) noX Try.func29 (by kernel_rfl) (by kernel_rfl) (run313 rfl) (.cons s54 .nil)
theorem s18 : SoundCall Try.prog 18 ⟨[pv f1, pv f1], [rv f1, rv .bool]⟩ (G 315) := sound (l := [(47, 2, ⟨[pv f1], [rv .bool]⟩), (29, 313, ⟨[pv f1], [rv f1]⟩)]) (h := (.n none .e (.n none (.n none .e (.n none (.n none .e .e) .e)) (.n none .e .e)))) noX Try.func18 (by kernel_rfl) (by kernel_rfl) (run315 rfl rfl) (.cons s47 (.cons s29 .nil))
theorem s15 : SoundCall Try.prog 15 ⟨[pv f1, pv f1], [rv f1, rv .bool]⟩ (G 317) := sound (l := [(47, 2, ⟨[pv f1], [rv .bool]⟩), (18, 315, ⟨[pv f1, pv f1], [rv f1, rv .bool]⟩)]) (h := (.n none .e (.n none (.n none .e (.n none (.n none .e .e) .e)) (.n none .e (.n none .e (.n none (.n none .e (.n none .e (.n none (.n none .e .e) .e))) (.n none (.n none .e (.n (some (.mk 4 0 [(7, (.c (.s (.dat (.b (.flt .f32)) (.v 22))))), (8, (.c (.s (.dat (.b (.flt .f32)) (.v 23))))), (18, (.c (.s .undef))), (19, (.c (.s .undef))), (20, (.c (.s .undef))), (36, (.c (.s .undef))), (37, (.c (.s .undef))), (38, (.c (.s .undef))), (39, (.c (.s .undef))), (42, (.c (.s .undef))), (43, (.c (.s .undef))), (44, (.c (.s .undef))), (46, (.c (.s (.dat (.b (.int .i64)) (.v 24))))), (47, (.c (.s (.dat (.b .bool) (.v 25)))))] [])) (.n (some (.mk 3 0 [(7, (.c (.s (.dat (.b (.flt .f32)) (.v 22))))), (8, (.c (.s (.dat (.b (.flt .f32)) (.v 23))))), (18, (.c (.s .undef))), (19, (.c (.s .undef))), (20, (.c (.s .undef))), (36, (.c (.s .undef))), (37, (.c (.s .undef))), (38, (.c (.s .undef))), (39, (.c (.s .undef))), (42, (.c (.s .undef))), (43, (.c (.s .undef))), (44, (.c (.s .undef))), (46, (.c (.s (.dat (.b (.int .i64)) (.v 24)))))] [])) (.n none .e (.n none (.n none .e .e) (.n none (.n none (.n none .e (.n none .e (.n none .e (.n (some (.mk 2 0 [(7, (.c (.s (.dat (.b (.flt .f32)) (.v 34))))), (8, (.c (.s (.dat (.b (.flt .f32)) (.v 35))))), (60, (.c (.s .undef))), (61, (.c (.s .undef))), (62, (.c (.s .undef)))] [])) .e .e)))) .e) .e))) .e) .e)) (.n none .e .e)))))))) noX Try.func15 (by kernel_rfl) (by kernel_rfl) (run317 rfl rfl) (.cons s47 (.cons s18 .nil))
theorem s30 : SoundCall Try.prog 30 ⟨[pv f1], [rv f1]⟩ (G 314) := sound (l := [(54, 312, ⟨[pv f1], [rv f1]⟩)]) (h := (.n none .e (.n none .e .e))) noX Try.func30 (by kernel_rfl) (by kernel_rfl) (run314 rfl) (.cons s54 .nil)
theorem s19 : SoundCall Try.prog 19 ⟨[pv f1, pv f1], [rv f1, rv .bool]⟩ (G 319) := sound (l := [(47, 2, ⟨[pv f1], [rv .bool]⟩), (30, 314, ⟨[pv f1], [rv f1]⟩)]) (h := (.n none .e (.n none (.n none .e (.n none (.n none .e .e) .e)) (.n none .e .e)))) noX Try.func19 (by kernel_rfl) (by kernel_rfl) (run319 rfl rfl) (.cons s47 (.cons s30 .nil))
theorem s20 : SoundCall Try.prog 20 ⟨[pv f1], [rv f1, rv .bool]⟩ (G 7) := sound (l := [(47, 2, ⟨[pv f1], [rv .bool]⟩)]) (h := (.n none .e (.n none (.n none .e (.n none (.n none .e .e) .e)) (.n none .e (.n none .e .e))))) noX Try.func20 (by kernel_rfl) (by kernel_rfl) (run7' rfl) (.cons s47 .nil)
theorem s17 : SoundCall Try.prog 17 ⟨[pv f1, pv f1], [rv .bool]⟩ (G 321) := sound (l := [(15, 317, ⟨[pv f1, pv f1], [rv f1, rv .bool]⟩), (19, 319, ⟨[pv f1, pv f1], [rv f1, rv .bool]⟩), (20, 7, ⟨[pv f1], [rv f1, rv .bool]⟩)]) (h := (.n none .e (.n none .e (.n none (.n none .e (.n none (.n none .e .e) .e)) (.n none .e (.n none .e (.n none .e .e))))))) noX Try.func17 (by kernel_rfl) (by kernel_rfl) (run321 rfl rfl rfl) (.cons s15 (.cons s19 (.cons s20 .nil)))
theorem s9 : SoundCall Try.prog 9 ⟨[pv f1, pv f1], [rv .bool]⟩ (G 323) := sound (l := [(42, 321, ⟨[pv f1, pv f1], [rv .bool]⟩), (17, 321, ⟨[pv f1, pv f1], [rv .bool]⟩)]) (h := (.n none .e (.n none .e (.n none .e (.n none (.n none .e (.n none (.n none .e .e) .e)) (.n none .e .e)))))) noX Try.func9 (by kernel_rfl) (by kernel_rfl) (run323 rfl) (.cons s42 (.cons s17 .nil))

theorem own : ownKnob Try.prog.godebug = none := by kernel_rfl
theorem laidOut : laidOutB Try.prog = true := by kernel_rfl
theorem mapsRow : mapsRowed Try.prog = true := by kernel_rfl
theorem slicesFull : ((List.range Try.prog.types.size).all fun t => match Try.prog.underlying t with | some (.slice e) => decide (0 < Try.prog.cellsOf e) | _ => true) = true := by kernel_rfl

set_option maxRecDepth 100000 in
theorem isHolding_lifted (os : Os) (started : os.Started) (H : Type) (enc : TypeId × Value → H) :
    ReturnsInHanded {} Try.checked os 9 .any (Rows.fnExactIsHoldingSpec.pre6 enc Try.prog Try.f9 Rows.fnExactIsHoldingRow.domain false) (Rows.fnExactIsHoldingSpec.post enc Try.prog Try.f9 false true false false) := by
  refine returnsInHanded_of_change (C := Try.checked) own started (by kernel_rfl) Try.func9
    (ChangeSpec.witness6 (enc := enc) (C := Try.checked) false ⟨#[], #[.float .f32 0, .float .f32 0], []⟩ 8 (by kernel_rfl) (by kernel_rfl) (by kernel_rfl) (by kernel_rfl)) ?_
  intro W base args ds gs before hval0 hW hcnd _
  have hval : ∀ (j : Nat) t v, Try.f9.params.toList[j]? = some t → args.toList[j]? = some v → Value.okWide Try.prog W .any base t v := fun j t v h1 h2 => hval0 j t v (by simpa using h1) (by simpa using h2)
  obtain ⟨p, q, hA, hV, _⟩ := id hW
  obtain ⟨xs, hX, hF0, hl0⟩ := args_mix (ps := [(false, [.b f1]), (false, [.b f1])]) (by kernel_rfl) hA hval
  rw [← Fm_nil] at hX
  obtain ⟨x0, ys0, rfl, hF1⟩ := fitsd_flt hF0
  obtain ⟨x1, ys1, rfl, hF2⟩ := fitsd_flt hF1
  obtain rfl := fitsd_nil hF2
  rw [Try.params9] at hl0
  obtain ⟨d0, es0, rfl, hl1⟩ := len_cons hl0
  obtain ⟨d1, es1, rfl, hl2⟩ := len_cons hl1
  obtain rfl := len_nil hl2
  exact law_of_sound (bT := true) (tb := 4) laidOut mapsRow slicesFull (by kernel_rfl) (by kernel_rfl) (by kernel_rfl) rfl ⟨rfl, rfl, rfl⟩ s9 rfl hW ⟨_, hX, rfl⟩

theorem isHolding_holds : Rows.FnExactIsHoldingSaid :=
  OpenClaim.holds_of_wide 9 Try.f9 rfl rfl rfl rfl rfl rfl rfl ⟨rfl, rfl, rfl, rfl, rfl⟩ rfl rfl rfl rfl rfl (by kernel_rfl) Try.func9 (by kernel_rfl)
    (of_decide_eq_true (by kernel_rfl)) (by unfold Func.isWrapper; first | (rw [if_pos (by decide +kernel)]; kernel_rfl) | (rw [if_neg (by decide +kernel)]; exact ⟨rfl, rfl⟩))
    (fun os started H enc _ => isHolding_lifted os started H enc)

end Go.Proofs.Ythgocnlbnghbbaa
