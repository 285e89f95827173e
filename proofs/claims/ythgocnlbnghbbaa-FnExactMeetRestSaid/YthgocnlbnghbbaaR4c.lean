/-
  Proved: for all arguments the program's MeetRest returns what the reference's returns (the law answers true). Conditions: none.
-/
import Derived.Test.YthgocnlbnghbbaaRows
import Derived.Test.YthgocnlbnghbbaaK8
import Derived.Test.YthgocnlbnghbbaaK17
namespace Go.Proofs.Ythgocnlbnghbbaa
open Vs Go Go.RowKit Go.ChangeShapes Go.WideShapes Go.ChangeAt

noncomputable def G : Vs.Told
  | 1 => F1
  | 4 => F4
  | 9 => F9
  | 10 => F10
  | 11 => F11
  | 14 => F14
  | 15 => F15
  | 16 => F16
  | 18 => F18
  | 30 => F30
  | 31 => F31
  | 300 => F300
  | 301 => F301
  | 302 => F302
  | _ => fun _ => none

theorem noX : ∀ x ∈ ([] : List (FuncId × Ext)), ∀ args w, (callFunc x.1 args).run Try.prog w = ((extFn x.2 args).run Try.prog w).andThen fun v w' => .ok (.value v) w' := by
  intro x hx; cases hx
theorem sqrtX : ∀ x ∈ ([(96, .sqrt)] : List (FuncId × Ext)), ∀ args w, (callFunc x.1 args).run Try.prog w = ((extFn x.2 args).run Try.prog w).andThen fun v w' => .ok (.value v) w' := by
  intro x hx
  simp only [List.mem_cons, List.not_mem_nil, or_false] at hx
  subst hx
  exact fun args w => run_callFunc_extern Try.func96 (by kernel_rfl) (by kernel_rfl) (by kernel_rfl) (by kernel_rfl) args w

theorem s40 : SoundCall Try.prog 40 ⟨[pV], [rV]⟩ (G 16) := sound (l := []) (h := .e) noX Try.func40 (by kernel_rfl) (by kernel_rfl) run16 .nil
theorem s91 : SoundCall Try.prog 91 ⟨[pV, pV], [rv f1]⟩ (G 14) := sound (l := []) (h := .e) noX Try.func91 (by kernel_rfl) (by kernel_rfl) run14 .nil
theorem s83 : SoundCall Try.prog 83 ⟨[pv f8], [rv f8]⟩ (G 9) := sound (X := [(96, .sqrt)]) (l := []) (h := .e) sqrtX Try.func83 (by kernel_rfl) (by kernel_rfl) run9 .nil
theorem s90 : SoundCall Try.prog 90 ⟨[pv f8], [rv f1]⟩ (G 10) := sound (l := []) (h := .e) noX Try.func90 (by kernel_rfl) (by kernel_rfl) run10 .nil
theorem s65 : SoundCall Try.prog 65 ⟨[pv f1], [rv f1]⟩ (G 11) := sound (l := [(83, 9, ⟨[pv f8], [rv f8]⟩), (90, 10, ⟨[pv f8], [rv f1]⟩)]) (h := .e) noX Try.func65 (by kernel_rfl) (by kernel_rfl) (run11' rfl rfl) (.cons s83 (.cons s90 .nil))
theorem s66 : SoundCall Try.prog 66 ⟨[pV], [rv f1]⟩ (G 15) := sound (l := [(91, 14, ⟨[pV, pV], [rv f1]⟩), (65, 11, ⟨[pv f1], [rv f1]⟩)]) (h := .e) noX Try.func66 (by kernel_rfl) (by kernel_rfl) (run15 rfl rfl) (.cons s91 (.cons s65 .nil))
theorem s79 : SoundCall Try.prog 79 ⟨[pv f1], [rv .bool]⟩ (G 1) := sound (l := []) (h := .e) noX Try.func79 (by kernel_rfl) (by kernel_rfl) run1 .nil
theorem s76 : SoundCall Try.prog 76 ⟨[pV], [rv .bool]⟩ (G 18) := sound (l := [(79, 1, ⟨[pv f1], [rv .bool]⟩)]) (h := .e) noX Try.func76 (by kernel_rfl) (by kernel_rfl) (run18 rfl) (.cons s79 .nil)
theorem s78 : SoundCall Try.prog 78 ⟨[pV, pv f1], [rV]⟩ (G 31) := sound (l := []) (h := .e) noX Try.func78 (by kernel_rfl) (by kernel_rfl) run31 .nil
theorem s72 : SoundCall Try.prog 72 ⟨[pV], [rV, rv .bool]⟩ (G 300) := sound (l := [(66, 15, ⟨[pV], [rv f1]⟩), (76, 18, ⟨[pV], [rv .bool]⟩), (78, 31, ⟨[pV, pv f1], [rV]⟩)]) (h := (.n none .e (.n none .e (.n none (.n none .e (.n none (.n none .e .e) .e)) (.n none .e .e))))) noX Try.func72 (by kernel_rfl) (by kernel_rfl) (run300 rfl rfl rfl) (.cons s66 (.cons s76 (.cons s78 .nil)))
theorem s73 : SoundCall Try.prog 73 ⟨[pV, pV], [rV]⟩ (G 30) := sound (l := []) (h := .e) noX Try.func73 (by kernel_rfl) (by kernel_rfl) run30 .nil
theorem s43 : SoundCall Try.prog 43 ⟨[pV, pV, pV], [rv f1, rv .bool]⟩ (G 301) := sound (l := [(72, 300, ⟨[pV], [rV, rv .bool]⟩), (73, 30, ⟨[pV, pV], [rV]⟩), (66, 15, ⟨[pV], [rv f1]⟩)]) (h := (.n none .e (.n none .e (.n none .e (.n none .e (.n none (.n none .e (.n none (.n none .e .e) .e)) (.n none .e .e))))))) noX Try.func43 (by kernel_rfl) (by kernel_rfl) (run301s rfl rfl rfl) (.cons s72 (.cons s73 (.cons s66 .nil)))
theorem s56 : SoundCall Try.prog 56 ⟨[pv f1], [rv .bool]⟩ (G 1) := sound (l := []) (h := (.n none .e (.n none .e .e))) noX Try.func56 (by kernel_rfl) (by kernel_rfl) run1 .nil
theorem s57 : SoundCall Try.prog 57 ⟨[pV], [rv .bool]⟩ (G 18) := sound (l := [(56, 1, ⟨[pv f1], [rv .bool]⟩)]) (h := .e) noX Try.func57 (by kernel_rfl) (by kernel_rfl) (run18 rfl) (.cons s56 .nil)
theorem s53 : SoundCall Try.prog 53 ⟨[pV, pV], [rv f1]⟩ (G 14) := sound (l := []) (h := .e) noX Try.func53 (by kernel_rfl) (by kernel_rfl) run14 .nil
theorem s52 : SoundCall Try.prog 52 ⟨[pv f1], [rv f1]⟩ (G 11) := sound (l := [(83, 9, ⟨[pv f8], [rv f8]⟩)]) (h := .e) noX Try.func52 (by kernel_rfl) (by kernel_rfl) (run11 rfl) (.cons s83 .nil)
theorem s25 : SoundCall Try.prog 25 ⟨[pV], [rv f1]⟩ (G 15) := sound (l := [(53, 14, ⟨[pV, pV], [rv f1]⟩), (52, 11, ⟨[pv f1], [rv f1]⟩)]) (h := .e) noX Try.func25 (by kernel_rfl) (by kernel_rfl) (run15 rfl rfl) (.cons s53 (.cons s52 .nil))
theorem s58 : SoundCall Try.prog 58 ⟨[pV, pv f1], [rV]⟩ (G 31) := sound (l := []) (h := .e) noX Try.func58 (by kernel_rfl) (by kernel_rfl) run31 .nil
theorem s59 : SoundCall Try.prog 59 ⟨[pV, pV], [rV]⟩ (G 30) := sound (l := []) (h := .e) noX Try.func59 (by kernel_rfl) (by kernel_rfl) run30 .nil
theorem s35 : SoundCall Try.prog 35 ⟨[pV, pV, pV], [rv f1, rv .bool]⟩ (G 301) := sound (l := [(57, 18, ⟨[pV], [rv .bool]⟩), (25, 15, ⟨[pV], [rv f1]⟩), (58, 31, ⟨[pV, pv f1], [rV]⟩), (59, 30, ⟨[pV, pV], [rV]⟩)]) (h := (.n none .e (.n none .e (.n none (.n none .e (.n (some (.mk 3 1 [(8, (.c (.s (.own 5)))), (17, (.c (.s (.dat (.b (.int .i64)) (.v 16))))), (18, (.c (.s (.dat (.b .bool) (.v 17)))))] [(3, .dead), (5, (.row (.s1 (.mk true [(.flt .f32), (.flt .f32), (.flt .f32)])) 40 (.v 15)))])) (.n (some (.mk 2 1 [(8, (.c (.s (.own 5)))), (17, (.c (.s (.dat (.b (.int .i64)) (.v 16)))))] [(3, .dead), (5, (.row (.s1 (.mk true [(.flt .f32), (.flt .f32), (.flt .f32)])) 40 (.v 15)))])) (.n none .e (.n none (.n none .e .e) (.n none (.n none (.n none .e (.n none (.n none .e (.n none (.n none .e .e) .e)) .e)) .e) .e))) .e) .e)) (.n none .e .e))))) noX Try.func35 (by kernel_rfl) (by kernel_rfl) (run301 rfl rfl rfl rfl) (.cons s57 (.cons s25 (.cons s58 (.cons s59 .nil))))
theorem s38 : SoundCall Try.prog 38 ⟨[pv f8, pv f8], [rv .bool]⟩ (G 4) := sound (l := []) (h := .e) noX Try.func38 (by kernel_rfl) (by kernel_rfl) run4 .nil
theorem s10 : SoundCall Try.prog 10 ⟨[pV, pV, pV], [rv .bool]⟩ (G 302) := sound (l := [(40, 16, ⟨[pV], [rV]⟩), (43, 301, ⟨[pV, pV, pV], [rv f1, rv .bool]⟩), (35, 301, ⟨[pV, pV, pV], [rv f1, rv .bool]⟩), (38, 4, ⟨[pv f8, pv f8], [rv .bool]⟩)]) (h := (.n none .e (.n none .e (.n none .e (.n none (.n none .e (.n none (.n none .e .e) .e)) (.n none .e .e)))))) noX Try.func10 (by kernel_rfl) (by kernel_rfl) (run302 rfl rfl rfl) (.cons s40 (.cons s43 (.cons s35 (.cons s38 .nil))))

theorem own : ownKnob Try.prog.godebug = none := by kernel_rfl
theorem laidOut : laidOutB Try.prog = true := by kernel_rfl
theorem mapsRow : mapsRowed Try.prog = true := by kernel_rfl
theorem slicesFull : ((List.range Try.prog.types.size).all fun t => match Try.prog.underlying t with | some (.slice e) => decide (0 < Try.prog.cellsOf e) | _ => true) = true := by kernel_rfl

set_option maxRecDepth 100000 in
theorem meetRest_lifted (os : Os) (started : os.Started) (H : Type) (enc : TypeId × Value → H) :
    ReturnsInHanded {} Try.checked os 10 .any (Rows.fnExactMeetRestSpec.pre6 enc Try.prog Try.f10 Rows.fnExactMeetRestRow.domain false) (Rows.fnExactMeetRestSpec.post enc Try.prog Try.f10 false true false false) := by
  refine returnsInHanded_of_change (C := Try.checked) own started (by kernel_rfl) Try.func10
    (ChangeSpec.witness6 (enc := enc) (C := Try.checked) false ⟨#[], #[.agg #[.float .f32 0, .float .f32 0, .float .f32 0], .agg #[.float .f32 0, .float .f32 0, .float .f32 0], .agg #[.float .f32 0, .float .f32 0, .float .f32 0]], []⟩ 8 (by kernel_rfl) (by kernel_rfl) (by kernel_rfl) (by kernel_rfl)) ?_
  intro W base args ds gs before hval0 hW hcnd _
  have hval : ∀ (j : Nat) t v, Try.f10.params.toList[j]? = some t → args.toList[j]? = some v → Value.okWide Try.prog W .any base t v := fun j t v h1 h2 => hval0 j t v (by simpa using h1) (by simpa using h2)
  obtain ⟨p, q, hA, hV, _⟩ := id hW
  obtain ⟨xs, hX, hF0, hl0⟩ := args_mix (ps := [(true, [.b f1, .b f1, .b f1]), (true, [.b f1, .b f1, .b f1]), (true, [.b f1, .b f1, .b f1])]) (by kernel_rfl) hA hval
  rw [← Fm_nil] at hX
  obtain ⟨x0, ys0, rfl, hF1⟩ := fitsd_flt hF0
  obtain ⟨x1, ys1, rfl, hF2⟩ := fitsd_flt hF1
  obtain ⟨x2, ys2, rfl, hF3⟩ := fitsd_flt hF2
  obtain ⟨x3, ys3, rfl, hF4⟩ := fitsd_flt hF3
  obtain ⟨x4, ys4, rfl, hF5⟩ := fitsd_flt hF4
  obtain ⟨x5, ys5, rfl, hF6⟩ := fitsd_flt hF5
  obtain ⟨x6, ys6, rfl, hF7⟩ := fitsd_flt hF6
  obtain ⟨x7, ys7, rfl, hF8⟩ := fitsd_flt hF7
  obtain ⟨x8, ys8, rfl, hF9⟩ := fitsd_flt hF8
  obtain rfl := fitsd_nil hF9
  rw [Try.params10] at hl0
  obtain ⟨d0, es0, rfl, hl1⟩ := len_cons hl0
  obtain ⟨d1, es1, rfl, hl2⟩ := len_cons hl1
  obtain ⟨d2, es2, rfl, hl3⟩ := len_cons hl2
  obtain rfl := len_nil hl3
  exact law_of_sound (bT := true) (tb := 4) laidOut mapsRow slicesFull (by kernel_rfl) (by kernel_rfl) (by kernel_rfl) rfl ⟨rfl, rfl, rfl⟩ s10 rfl hW ⟨_, hX, rfl⟩

theorem meetRest_holds : Rows.FnExactMeetRestSaid :=
  OpenClaim.holds_of_wide 10 Try.f10 rfl rfl rfl rfl rfl rfl rfl ⟨rfl, rfl, rfl, rfl, rfl⟩ rfl rfl rfl rfl rfl (by kernel_rfl) Try.func10 (by kernel_rfl)
    (of_decide_eq_true (by kernel_rfl)) (by unfold Func.isWrapper; first | (rw [if_pos (by decide +kernel)]; kernel_rfl) | (rw [if_neg (by decide +kernel)]; exact ⟨rfl, rfl⟩))
    (fun os started H enc _ => meetRest_lifted os started H enc)

end Go.Proofs.Ythgocnlbnghbbaa
