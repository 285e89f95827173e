/-
  Proved: a bubble has its volume, nearly, and the wall between two bubbles holds the difference of their pressures, nearly (the law answers true for all inputs). Conditions: none.
-/
import Derived.Test.YthgocnlbnghbbaaRows
import Derived.Test.YthgocnlbnghbbaaB4
namespace Go.Proofs.Ythgocnlbnghbbaa
open Vs Go Go.RowKit Go.ChangeShapes Go.WideShapes Go.ChangeAt

noncomputable def G : Vs.Told
  | 1 => F1
  | 2 => F2
  | 5 => F5
  | 8 => F8
  | 220 => F220
  | 221 => F221
  | 222 => F222
  | 223 => F223
  | 225 => F225
  | 226 => F226
  | 227 => F227
  | 228 => F228
  | 229 => F229
  | 230 => F230
  | 231 => F231
  | 232 => F232
  | 233 => F233
  | 234 => F234
  | _ => fun _ => none

theorem noX : ∀ x ∈ ([] : List (FuncId × Ext)), ∀ args w, (callFunc x.1 args).run Try.prog w = ((extFn x.2 args).run Try.prog w).andThen fun v w' => .ok (.value v) w' := by
  intro x hx; cases hx
theorem f64frombitsX : ∀ x ∈ ([(87, .f64frombits)] : List (FuncId × Ext)), ∀ args w, (callFunc x.1 args).run Try.prog w = ((extFn x.2 args).run Try.prog w).andThen fun v w' => .ok (.value v) w' := by
  intro x hx
  simp only [List.mem_cons, List.not_mem_nil, or_false] at hx
  subst hx
  exact fun args w => run_callFunc_extern Try.func87 (by kernel_rfl) (by kernel_rfl) (by kernel_rfl) (by kernel_rfl) args w

theorem s13 : SoundCall Try.prog 13 ⟨[p1 ⟨false, [.int .u8]⟩, p1 ⟨false, [.int .u8]⟩], [rv .bool]⟩ (G 220) := sound (l := []) (h := (.n none .e (.n none .e .e))) noX Try.func13 (by kernel_rfl) (by kernel_rfl) run220 .nil
theorem s14 : SoundCall Try.prog 14 ⟨[p1 ⟨false, [.int .u8]⟩, pv i8, pv i8], [rv i8]⟩ (G 221) := sound (l := []) (h := (.n none .e (.n none (.n none .e (.n none (.n none .e .e) .e)) (.n none .e .e)))) noX Try.func14 (by kernel_rfl) (by kernel_rfl) run221 .nil
theorem s56 : SoundCall Try.prog 56 ⟨[pv f1], [rv .bool]⟩ (G 1) := sound (l := []) (h := (.n none .e (.n none .e .e))) noX Try.func56 (by kernel_rfl) (by kernel_rfl) run1 .nil
theorem s47 : SoundCall Try.prog 47 ⟨[pv f1], [rv .bool]⟩ (G 2) := sound (l := [(56, 1, ⟨[pv f1], [rv .bool]⟩)]) (h := (.n none .e (.n none .e .e))) noX Try.func47 (by kernel_rfl) (by kernel_rfl) (run2 rfl) (.cons s56 .nil)
theorem s85 : SoundCall Try.prog 85 ⟨[pv i8], [rv f8]⟩ (G 222) := sound (X := [(87, .f64frombits)]) (l := []) (h := (.n none .e (.n none .e (.n none (.n none .e (.n (some (.mk 1 0 [(3, (.c (.s (.dat (.b (.int .u64)) (.v 2)))))] [])) .e .e)) (.n none .e .e))))) f64frombitsX Try.func85 (by kernel_rfl) (by kernel_rfl) run222 .nil
theorem s61 : SoundCall Try.prog 61 ⟨[], [rv f8]⟩ (G 223) := sound (X := [(87, .f64frombits)]) (l := []) (h := (.n none .e (.n none .e .e))) f64frombitsX Try.func61 (by kernel_rfl) (by kernel_rfl) run223 .nil
theorem s86 : SoundCall Try.prog 86 ⟨[pv f8], [rv f8]⟩ (G 225) := sound (l := []) (h := (.n none .e (.n none .e (.n none (.n (some (.mk 4 0 [(0, (.c (.s (.dat (.b (.flt .f64)) (.v 1))))), (3, (.c (.s (.dat (.b (.flt .f64)) (.v 2))))), (8, (.c (.s (.dat (.b (.flt .f64)) (.v 3))))), (9, (.c (.s (.dat (.b .bool) (.v 4)))))] [])) (.n (some (.mk 2 0 [(0, (.c (.s (.dat (.b (.flt .f64)) (.v 1))))), (3, (.c (.s (.dat (.b (.flt .f64)) (.v 2)))))] [])) (.n none (.n none .e (.n none .e .e)) (.n none (.n none .e .e) .e)) .e) .e) (.n none (.n (some (.mk 4 0 [(0, (.c (.s (.dat (.b (.flt .f64)) (.v 5))))), (3, (.c (.s (.dat (.b (.flt .f64)) (.v 6))))), (14, (.c (.s (.dat (.b (.flt .f64)) (.v 7))))), (15, (.c (.s (.dat (.b .bool) (.v 8)))))] [])) (.n (some (.mk 2 0 [(0, (.c (.s (.dat (.b (.flt .f64)) (.v 5))))), (3, (.c (.s (.dat (.b (.flt .f64)) (.v 6)))))] [])) (.n none (.n none .e (.n none .e .e)) (.n none (.n none .e .e) .e)) .e) .e) (.n none .e (.n none .e (.n none .e (.n none (.n none .e (.n (some (.mk 4 0 [(6, (.c (.s (.dat (.b (.flt .f64)) (.v 13))))), (7, (.c (.s (.dat (.b (.flt .f64)) (.v 14))))), (28, (.c (.s (.dat (.b (.flt .f64)) (.v 15))))), (29, (.c (.s (.dat (.b .bool) (.v 16)))))] [])) (.n (some (.mk 2 0 [(6, (.c (.s (.dat (.b (.flt .f64)) (.v 13))))), (7, (.c (.s (.dat (.b (.flt .f64)) (.v 14)))))] [])) (.n none (.n none .e (.n none .e .e)) (.n none (.n none .e .e) .e)) .e) .e)) (.n none .e .e)))))))))) noX Try.func86 (by kernel_rfl) (by kernel_rfl) run225 .nil
theorem s55 : SoundCall Try.prog 55 ⟨[pv f1], [rv f1]⟩ (G 226) := sound (l := [(85, 222, ⟨[pv i8], [rv f8]⟩), (61, 223, ⟨[], [rv f8]⟩), (56, 1, ⟨[pv f1], [rv .bool]⟩), (86, 225, ⟨[pv f8], [rv f8]⟩)]) (h := (.n none .e (.n none (.n none (.n none .e (.n none (.n none .e .e) (.n none .e (.n none (.n none .e .e) (.n none .e (.n none (.n none .e .e) .e)))))) .e) (.n none .e .e)))) noX Try.func55 (by kernel_rfl) (by kernel_rfl) (run226 rfl rfl rfl rfl) (.cons s85 (.cons s61 (.cons s56 (.cons s86 .nil))))
theorem s97 : SoundCall Try.prog 97 ⟨[pv f8], [rv f8]⟩ (G 227) := sound (l := [(85, 222, ⟨[pv i8], [rv f8]⟩)]) (h := (.n none .e (.n none (.n none (.n none .e (.n none (.n none .e .e) (.n none .e (.n none (.n none .e .e) .e)))) .e) (.n none .e (.n none .e (.n none (.n none .e (.n (some (.mk 4 0 [(4, (.c (.s (.dat (.b (.flt .f64)) (.v 4))))), (5, (.c (.s (.dat (.b (.flt .f64)) (.v 5))))), (15, (.c (.s (.dat (.b (.flt .f64)) (.v 6))))), (16, (.c (.s (.dat (.b .bool) (.v 7)))))] [])) (.n (some (.mk 2 0 [(4, (.c (.s (.dat (.b (.flt .f64)) (.v 4))))), (5, (.c (.s (.dat (.b (.flt .f64)) (.v 5)))))] [])) (.n none (.n none .e (.n none .e .e)) (.n none (.n none .e .e) .e)) .e) .e)) (.n none (.n none .e (.n (some (.mk 3 0 [(4, (.c (.s (.dat (.b (.flt .f64)) (.v 8))))), (25, (.c (.s (.dat (.b (.int .i64)) (.v 9))))), (26, (.c (.s (.dat (.b .bool) (.v 10)))))] [])) (.n (some (.mk 2 0 [(4, (.c (.s (.dat (.b (.flt .f64)) (.v 8))))), (25, (.c (.s (.dat (.b (.int .i64)) (.v 9)))))] [])) (.n none .e (.n none (.n none .e .e) (.n none (.n none .e .e) .e))) .e) .e)) (.n none .e .e)))))))) noX Try.func97 (by kernel_rfl) (by kernel_rfl) (run227 rfl) (.cons s85 .nil)
theorem s84 : SoundCall Try.prog 84 ⟨[pv f1], [rv f8]⟩ (G 228) := sound (l := [(97, 227, ⟨[pv f8], [rv f8]⟩)]) (h := (.n none .e (.n none .e .e))) noX Try.func84 (by kernel_rfl) (by kernel_rfl) (run228 rfl) (.cons s97 .nil)
theorem s54 : SoundCall Try.prog 54 ⟨[pv f1], [rv f1]⟩ (G 229) := sound (l := [(84, 228, ⟨[pv f1], [rv f8]⟩)]) (h := (.n none .e (.n none .e .e))) noX Try.func54 (by kernel_rfl) (by kernel_rfl) (run229 rfl) (.cons s84 .nil)
theorem s26 : SoundCall Try.prog 26 ⟨[pv f1], [rv f1, rv .bool]⟩ (G 230) := sound (l := [(47, 2, ⟨[pv f1], [rv .bool]⟩), (55, 226, ⟨[pv f1], [rv f1]⟩), (54, 229, ⟨[pv f1], [rv f1]⟩)]) (h := (.n none .e (.n none (.n none .e (.n none (.n none .e .e) .e)) (.n none .e (.n none .e .e))))) noX Try.func26 (by kernel_rfl) (by kernel_rfl) (run230 rfl rfl rfl) (.cons s47 (.cons s55 (.cons s54 .nil)))
theorem s27 : SoundCall Try.prog 27 ⟨[pv f1, pv f1], [rv f1, rv .bool]⟩ (G 8) := sound (l := [(47, 2, ⟨[pv f1], [rv .bool]⟩)]) (h := (.n none .e (.n none (.n none .e (.n none (.n none .e .e) .e)) (.n none .e (.n none (.n none .e (.n (some (.mk 1 0 [(6, (.c (.s (.dat (.b (.flt .f32)) (.v 14))))), (11, (.c (.s .undef))), (12, (.c (.s .undef))), (13, (.c (.s .undef))), (16, (.c (.s .undef))), (17, (.c (.s .undef))), (18, (.c (.s .undef)))] [])) .e .e)) (.n none .e .e)))))) noX Try.func27 (by kernel_rfl) (by kernel_rfl) (run8b rfl) (.cons s47 .nil)
theorem s28 : SoundCall Try.prog 28 ⟨[pv f1, pv f1], [rv f1, rv .bool]⟩ (G 5) := sound (l := [(56, 1, ⟨[pv f1], [rv .bool]⟩), (47, 2, ⟨[pv f1], [rv .bool]⟩)]) (h := (.n none .e (.n none (.n none .e (.n none (.n none .e .e) .e)) (.n none .e .e)))) noX Try.func28 (by kernel_rfl) (by kernel_rfl) (run5 rfl rfl) (.cons s56 (.cons s47 .nil))
theorem s21 : SoundCall Try.prog 21 ⟨[pv f8, pv f8], [rv f8]⟩ (G 231) := sound (l := []) (h := (.n none .e (.n none .e .e))) noX Try.func21 (by kernel_rfl) (by kernel_rfl) run231 .nil
theorem s29 : SoundCall Try.prog 29 ⟨[pv f1], [rv f1]⟩ (G 232) := sound (l := [(54, 229, ⟨[pv f1], [rv f1]⟩)]) (h := (.n none .e (.n none .e .e))) noX Try.func29 (by kernel_rfl) (by kernel_rfl) (run232 rfl) (.cons s54 .nil)
theorem s30 : SoundCall Try.prog 30 ⟨[pv f1], [rv f1]⟩ (G 233) := sound (l := [(54, 229, ⟨[pv f1], [rv f1]⟩)]) (h := (.n none .e (.n none .e .e))) noX Try.func30 (by kernel_rfl) (by kernel_rfl) (run233 rfl) (.cons s54 .nil)
theorem s4 : SoundCall Try.prog 4 ⟨[p1 ⟨false, [.int .u8]⟩, p1 ⟨false, [.int .u8]⟩], [rv .bool]⟩ (G 234) := sound (l := [(13, 220, ⟨[p1 ⟨false, [.int .u8]⟩, p1 ⟨false, [.int .u8]⟩], [rv .bool]⟩), (14, 221, ⟨[p1 ⟨false, [.int .u8]⟩, pv i8, pv i8], [rv i8]⟩), (26, 230, ⟨[pv f1], [rv f1, rv .bool]⟩), (27, 8, ⟨[pv f1, pv f1], [rv f1, rv .bool]⟩), (28, 5, ⟨[pv f1, pv f1], [rv f1, rv .bool]⟩), (21, 231, ⟨[pv f8, pv f8], [rv f8]⟩), (29, 232, ⟨[pv f1], [rv f1]⟩), (30, 233, ⟨[pv f1], [rv f1]⟩)]) (h := (.n none .e (.n none (.n none .e (.n none (.n none .e .e) .e)) (.n none .e (.n none .e (.n none .e (.n none .e (.n none .e (.n none .e (.n none .e (.n none .e (.n none .e (.n none (.n none .e (.n none (.n none .e .e) .e)) (.n none (.n none .e (.n none (.n none .e .e) .e)) (.n none .e (.n none .e (.n none .e (.n none .e .e)))))))))))))))))) noX Try.func4 (by kernel_rfl) (by kernel_rfl) (run234 rfl rfl rfl rfl rfl rfl rfl rfl) (.cons s13 (.cons s14 (.cons s26 (.cons s27 (.cons s28 (.cons s21 (.cons s29 (.cons s30 .nil))))))))

theorem own : ownKnob Try.prog.godebug = none := by kernel_rfl
theorem laidOut : laidOutB Try.prog = true := by kernel_rfl
theorem mapsRow : mapsRowed Try.prog = true := by kernel_rfl
theorem slicesFull : ((List.range Try.prog.types.size).all fun t => match Try.prog.underlying t with | some (.slice e) => decide (0 < Try.prog.cellsOf e) | _ => true) = true := by kernel_rfl

set_option maxRecDepth 100000 in
theorem bubbles_lifted (os : Os) (started : os.Started) (H : Type) (enc : TypeId × Value → H) :
    ReturnsInHanded {} Try.checked os 4 .any (Rows.fnBubblesSpec.pre6 enc Try.prog Try.f4 Rows.fnBubblesRow.domain false) (Rows.fnBubblesSpec.post enc Try.prog Try.f4 false true false false) := by
  refine returnsInHanded_of_change (C := Try.checked) own started (by kernel_rfl) Try.func4
    (ChangeSpec.witness6 (enc := enc) (C := Try.checked) false ⟨#[], #[.slice none 0 0, .slice none 0 0], []⟩ 8 (by kernel_rfl) (by kernel_rfl) (by kernel_rfl) (by kernel_rfl)) ?_
  intro W base args ds gs before hval0 hW hcnd _
  have hval : ∀ (j : Nat) t v, Try.f4.params.toList[j]? = some t → args.toList[j]? = some v → Value.okWide Try.prog W .any base t v := fun j t v h1 h2 => hval0 j t v (by simpa using h1) (by simpa using h2)
  obtain ⟨p, q, hA, hV, _⟩ := id hW
  obtain ⟨x0, x1, hX, hb0, hl0⟩ := args_bytes (by kernel_rfl) (by kernel_rfl) (by kernel_rfl) (by kernel_rfl) hA hval
  rw [← Fm_nil] at hX
  obtain ⟨d0, es0, rfl, hl1⟩ := len_cons hl0
  obtain ⟨d1, es1, rfl, hl2⟩ := len_cons hl1
  obtain rfl := len_nil hl2
  exact law_of_sound (bT := true) (tb := 4) laidOut mapsRow slicesFull (by kernel_rfl) (by kernel_rfl) (by kernel_rfl) rfl ⟨rfl, rfl, rfl⟩ s4 rfl hW ⟨_, hX, by show F234 [il x0, il x1] = _; simp only [F234, dI_il, Option.bind_some]; exact if_pos hb0⟩

theorem bubbles_holds : Rows.FnBubblesSaid :=
  OpenClaim.holds_of_wide 4 Try.f4 rfl rfl rfl rfl rfl rfl rfl ⟨rfl, rfl, rfl, rfl, rfl⟩ rfl rfl rfl rfl rfl (by kernel_rfl) Try.func4 (by kernel_rfl)
    (of_decide_eq_true (by kernel_rfl)) (by unfold Func.isWrapper; first | (rw [if_pos (by decide +kernel)]; kernel_rfl) | (rw [if_neg (by decide +kernel)]; exact ⟨rfl, rfl⟩))
    (fun os started H enc _ => bubbles_lifted os started H enc)

end Go.Proofs.Ythgocnlbnghbbaa
