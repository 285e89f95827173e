/-
  Proved: for all arguments the program's SwingOf, PathLong and MeetPoint return what the reference's return (the laws answer true). Conditions: none.
-/
import Derived.Test.YthgocnlbnghbbaaRows
import Derived.Test.YthgocnlbnghbbaaL5
import Derived.Test.YthgocnlbnghbbaaVs21
namespace Go.Proofs.Ythgocnlbnghbbaa
open Vs Go Go.RowKit Go.ChangeShapes Go.WideShapes Go.ChangeAt

def G : Vs.Told
  | 1 => F1 | 2 => F2 | 4 => F4 | 9 => F9 | 10 => F10 | 11 => F11 | 12 => F12 | 13 => F13 | 14 => F14 | 15 => F15 | 16 => F16 | 17 => F17 | 21 => F21 | 22 => F22
  | 18 => F18 | 19 => F19 | 30 => F30 | 31 => F31 | 32 => F32 | 40 => F40 | 41 => F41
  | _ => fun _ => none

theorem noX : ∀ x ∈ ([] : List (FuncId × Ext)), ∀ args w, (callFunc x.1 args).run Try.prog w = ((extFn x.2 args).run Try.prog w).andThen fun v w' => .ok (.value v) w' := by
  intro x hx; cases hx
theorem sqrtX : ∀ x ∈ ([(96, .sqrt)] : List (FuncId × Ext)), ∀ args w, (callFunc x.1 args).run Try.prog w = ((extFn x.2 args).run Try.prog w).andThen fun v w' => .ok (.value v) w' := by
  intro x hx
  simp only [List.mem_cons, List.not_mem_nil, or_false] at hx
  subst hx
  exact fun args w => run_callFunc_extern Try.func96 (by kernel_rfl) (by kernel_rfl) (by kernel_rfl) (by kernel_rfl) args w

theorem s79 : SoundCall Try.prog 79 sgB (G 1) := sound (l := []) (h := .e) noX Try.func79 (by kernel_rfl) (by kernel_rfl) run1 .nil
theorem s56 : SoundCall Try.prog 56 sgB (G 1) := sound (l := []) (h := .e) noX Try.func56 (by kernel_rfl) (by kernel_rfl) run1 .nil
theorem s64 : SoundCall Try.prog 64 sgB (G 2) := sound (l := [(79, 1, sgB)]) (h := .e) noX Try.func64 (by kernel_rfl) (by kernel_rfl) (run2 rfl) (.cons s79 .nil)
theorem s47 : SoundCall Try.prog 47 sgB (G 2) := sound (l := [(56, 1, sgB)]) (h := .e) noX Try.func47 (by kernel_rfl) (by kernel_rfl) (run2 rfl) (.cons s56 .nil)
theorem s38 : SoundCall Try.prog 38 sgSame (G 4) := sound (l := []) (h := .e) noX Try.func38 (by kernel_rfl) (by kernel_rfl) run4 .nil
theorem s83 : SoundCall Try.prog 83 sg8 (G 9) := sound (X := [(96, .sqrt)]) (l := []) (h := .e) sqrtX Try.func83 (by kernel_rfl) (by kernel_rfl) run9 .nil
theorem s90 : SoundCall Try.prog 90 sg81 (G 10) := sound (l := []) (h := .e) noX Try.func90 (by kernel_rfl) (by kernel_rfl) run10 .nil
theorem s52 : SoundCall Try.prog 52 sgF (G 11) := sound (l := [(83, 9, sg8)]) (h := .e) noX Try.func52 (by kernel_rfl) (by kernel_rfl) (run11 rfl) (.cons s83 .nil)
theorem s65 : SoundCall Try.prog 65 sgF (G 11) := sound (l := [(83, 9, sg8), (90, 10, sg81)]) (h := .e) noX Try.func65 (by kernel_rfl) (by kernel_rfl) (run11' rfl rfl) (.cons s83 (.cons s90 .nil))
theorem s37 : SoundCall Try.prog 37 sg2FB (G 12) := sound (l := [(47, 2, sgB), (52, 11, sgF)]) (h := .e) noX Try.func37 (by kernel_rfl) (by kernel_rfl) (run12 rfl rfl) (.cons s47 (.cons s52 .nil))
theorem s36 : SoundCall Try.prog 36 sg2FB (G 12) := sound (l := [(64, 2, sgB), (65, 11, sgF)]) (h := .e) noX Try.func36 (by kernel_rfl) (by kernel_rfl) (run12 rfl rfl) (.cons s64 (.cons s65 .nil))
theorem s6 : SoundCall Try.prog 6 sg2B (G 21) := sound (t := TL2 12) (l := [(36, 12, sg2FB), (37, 12, sg2FB), (38, 4, sgSame)]) (h := .e) noX Try.func6 (by kernel_rfl) (by kernel_rfl) (runL2 rfl 12 two12) (.cons s36 (.cons s37 (.cons s38 .nil)))

theorem s60 : SoundCall Try.prog 60 sgVV (G 13) := sound (l := []) (h := .e) noX Try.func60 (by kernel_rfl) (by kernel_rfl) run13 .nil
theorem s67 : SoundCall Try.prog 67 sgVV (G 13) := sound (l := []) (h := .e) noX Try.func67 (by kernel_rfl) (by kernel_rfl) run13 .nil
theorem s53 : SoundCall Try.prog 53 sgVVf (G 14) := sound (l := []) (h := .e) noX Try.func53 (by kernel_rfl) (by kernel_rfl) run14 .nil
theorem s91 : SoundCall Try.prog 91 sgVVf (G 14) := sound (l := []) (h := .e) noX Try.func91 (by kernel_rfl) (by kernel_rfl) run14 .nil
theorem s25 : SoundCall Try.prog 25 sgVf (G 15) := sound (l := [(53, 14, sgVVf), (52, 11, sgF)]) (h := .e) noX Try.func25 (by kernel_rfl) (by kernel_rfl) (run15 rfl rfl) (.cons s53 (.cons s52 .nil))
theorem s66 : SoundCall Try.prog 66 sgVf (G 15) := sound (l := [(91, 14, sgVVf), (65, 11, sgF)]) (h := .e) noX Try.func66 (by kernel_rfl) (by kernel_rfl) (run15 rfl rfl) (.cons s91 (.cons s65 .nil))
theorem s40 : SoundCall Try.prog 40 sgV (G 16) := sound (l := []) (h := .e) noX Try.func40 (by kernel_rfl) (by kernel_rfl) run16 .nil
theorem s33 : SoundCall Try.prog 33 sg4f (G 17) := sound (l := [(60, 13, sgVV), (25, 15, sgVf)]) (h := .e) noX Try.func33 (by kernel_rfl) (by kernel_rfl) (run17 rfl rfl) (.cons s60 (.cons s25 .nil))
theorem s39 : SoundCall Try.prog 39 sg4f (G 17) := sound (l := [(67, 13, sgVV), (66, 15, sgVf)]) (h := .e) noX Try.func39 (by kernel_rfl) (by kernel_rfl) (run17 rfl rfl) (.cons s67 (.cons s66 .nil))
theorem s7 : SoundCall Try.prog 7 sg4B (G 22) := sound (l := [(39, 17, sg4f), (33, 17, sg4f), (40, 16, sgV), (38, 4, sgSame)]) (h := .e) noX Try.func7 (by kernel_rfl) (by kernel_rfl) (run22 rfl rfl rfl) (.cons s39 (.cons s33 (.cons s40 (.cons s38 .nil))))

theorem own : ownKnob Try.prog.godebug = none := by kernel_rfl
theorem laidOut : laidOutB Try.prog = true := by kernel_rfl
theorem mapsRow : mapsRowed Try.prog = true := by kernel_rfl
theorem slicesFull : ((List.range Try.prog.types.size).all fun t => match Try.prog.underlying t with | some (.slice e) => decide (0 < Try.prog.cellsOf e) | _ => true) = true := by kernel_rfl

set_option maxRecDepth 100000 in
theorem swingOf_lifted (os : Os) (started : os.Started) (H : Type) (enc : TypeId × Value → H) :
    ReturnsInHanded {} Try.checked os 6 .any (Rows.fnExactSwingOfSpec.pre6 enc Try.prog Try.f6 Rows.fnExactSwingOfRow.domain false) (Rows.fnExactSwingOfSpec.post enc Try.prog Try.f6 false true false false) := by
  refine returnsInHanded_of_change (C := Try.checked) own started (by kernel_rfl) Try.func6
    (ChangeSpec.witness6 (enc := enc) (C := Try.checked) false ⟨#[], #[.float .f32 0, .float .f32 0], []⟩ 8 (by kernel_rfl) (by kernel_rfl) (by kernel_rfl) (by kernel_rfl)) ?_
  intro W base args ds gs before hval0 hW hcnd _
  have hval : ∀ (j : Nat) t v, Try.f6.params.toList[j]? = some t → args.toList[j]? = some v → Value.okWide Try.prog W .any base t v := fun j t v h1 h2 => hval0 j t v (by simpa using h1) (by simpa using h2)
  obtain ⟨p, q, hA, hV, _⟩ := id hW
  obtain ⟨xs, hX, hF0⟩ := args_plain (F := fun b => b < W.heap.size) (bts := [f1, f1]) (by kernel_rfl) hA hval
  obtain ⟨x0, ys0, rfl, hF1⟩ := fits_flt hF0
  obtain ⟨x1, ys1, rfl, hF2⟩ := fits_flt hF1
  obtain rfl := fits_nil hF2
  rw [Try.params6] at hA
  obtain ⟨v0, v1, d0, d1, p0, p1, h1, rfl, rfl, h2, h3⟩ := trodAll_two hA
  exact law_of_sound (bT := true) (tb := 4) laidOut mapsRow slicesFull (by kernel_rfl) (by kernel_rfl) (by kernel_rfl) rfl ⟨rfl, rfl, rfl⟩ s6 rfl hW ⟨_, hX, rfl⟩

theorem swingOf_holds : Rows.FnExactSwingOfSaid :=
  OpenClaim.holds_of_wide 6 Try.f6 rfl rfl rfl rfl rfl rfl rfl ⟨rfl, rfl, rfl, rfl, rfl⟩ rfl rfl rfl rfl rfl (by kernel_rfl) Try.func6 (by kernel_rfl)
    (of_decide_eq_true (by kernel_rfl)) (by unfold Func.isWrapper; first | (rw [if_pos (by decide +kernel)]; kernel_rfl) | (rw [if_neg (by decide +kernel)]; exact ⟨rfl, rfl⟩))
    (fun os started H enc _ => swingOf_lifted os started H enc)

set_option maxRecDepth 100000 in
theorem pathLong_lifted (os : Os) (started : os.Started) (H : Type) (enc : TypeId × Value → H) :
    ReturnsInHanded {} Try.checked os 7 .any (Rows.fnExactPathLongSpec.pre6 enc Try.prog Try.f7 Rows.fnExactPathLongRow.domain false) (Rows.fnExactPathLongSpec.post enc Try.prog Try.f7 false true false false) := by
  refine returnsInHanded_of_change (C := Try.checked) own started (by kernel_rfl) Try.func7
    (ChangeSpec.witness6 (enc := enc) (C := Try.checked) false ⟨#[], #[.agg #[.float .f32 0, .float .f32 0, .float .f32 0], .agg #[.float .f32 0, .float .f32 0, .float .f32 0], .agg #[.float .f32 0, .float .f32 0, .float .f32 0], .agg #[.float .f32 0, .float .f32 0, .float .f32 0]], []⟩ 8 (by kernel_rfl) (by kernel_rfl) (by kernel_rfl) (by kernel_rfl)) ?_
  intro W base args ds gs before hval0 hW hcnd _
  have hval : ∀ (j : Nat) t v, Try.f7.params.toList[j]? = some t → args.toList[j]? = some v → Value.okWide Try.prog W .any base t v := fun j t v h1 h2 => hval0 j t v (by simpa using h1) (by simpa using h2)
  obtain ⟨p, q, hA, hV, _⟩ := id hW
  obtain ⟨xs, hX, hF0, hl0⟩ := args_any (F := fun b => b < W.heap.size) (ps := [(true, [f1, f1, f1]), (true, [f1, f1, f1]), (true, [f1, f1, f1]), (true, [f1, f1, f1])]) (by kernel_rfl) hA hval
  obtain ⟨x0, ys0, rfl, hF1⟩ := fits_flt hF0
  obtain ⟨x1, ys1, rfl, hF2⟩ := fits_flt hF1
  obtain ⟨x2, ys2, rfl, hF3⟩ := fits_flt hF2
  obtain ⟨x3, ys3, rfl, hF4⟩ := fits_flt hF3
  obtain ⟨x4, ys4, rfl, hF5⟩ := fits_flt hF4
  obtain ⟨x5, ys5, rfl, hF6⟩ := fits_flt hF5
  obtain ⟨x6, ys6, rfl, hF7⟩ := fits_flt hF6
  obtain ⟨x7, ys7, rfl, hF8⟩ := fits_flt hF7
  obtain ⟨x8, ys8, rfl, hF9⟩ := fits_flt hF8
  obtain ⟨x9, ys9, rfl, hF10⟩ := fits_flt hF9
  obtain ⟨x10, ys10, rfl, hF11⟩ := fits_flt hF10
  obtain ⟨x11, ys11, rfl, hF12⟩ := fits_flt hF11
  obtain rfl := fits_nil hF12
  rw [Try.params7] at hl0
  obtain ⟨d0, es0, rfl, hl1⟩ := len_cons hl0
  obtain ⟨d1, es1, rfl, hl2⟩ := len_cons hl1
  obtain ⟨d2, es2, rfl, hl3⟩ := len_cons hl2
  obtain ⟨d3, es3, rfl, hl4⟩ := len_cons hl3
  obtain rfl := len_nil hl4
  exact law_of_sound (bT := true) (tb := 4) laidOut mapsRow slicesFull (by kernel_rfl) (by kernel_rfl) (by kernel_rfl) rfl ⟨rfl, rfl, rfl⟩ s7 rfl hW ⟨_, hX, rfl⟩

theorem pathLong_holds : Rows.FnExactPathLongSaid :=
  OpenClaim.holds_of_wide 7 Try.f7 rfl rfl rfl rfl rfl rfl rfl ⟨rfl, rfl, rfl, rfl, rfl⟩ rfl rfl rfl rfl rfl (by kernel_rfl) Try.func7 (by kernel_rfl)
    (of_decide_eq_true (by kernel_rfl)) (by unfold Func.isWrapper; first | (rw [if_pos (by decide +kernel)]; kernel_rfl) | (rw [if_neg (by decide +kernel)]; exact ⟨rfl, rfl⟩))
    (fun os started H enc _ => pathLong_lifted os started H enc)

theorem s57 : SoundCall Try.prog 57 sgVB (G 18) := sound (l := [(56, 1, sgB)]) (h := .e) noX Try.func57 (by kernel_rfl) (by kernel_rfl) (run18 rfl) (.cons s56 .nil)
theorem s76 : SoundCall Try.prog 76 sgVB (G 18) := sound (l := [(79, 1, sgB)]) (h := .e) noX Try.func76 (by kernel_rfl) (by kernel_rfl) (run18 rfl) (.cons s79 .nil)
theorem s48 : SoundCall Try.prog 48 sgIII (G 19) := sound (l := []) (h := (.n none .e (.n none .e .e))) noX Try.func48 (by kernel_rfl) (by kernel_rfl) run19 .nil
theorem s77 : SoundCall Try.prog 77 sgIII (G 19) := sound (l := []) (h := .e) noX Try.func77 (by kernel_rfl) (by kernel_rfl) run19 .nil
theorem s59 : SoundCall Try.prog 59 sgVV (G 30) := sound (l := []) (h := .e) noX Try.func59 (by kernel_rfl) (by kernel_rfl) run30 .nil
theorem s73 : SoundCall Try.prog 73 sgVV (G 30) := sound (l := []) (h := .e) noX Try.func73 (by kernel_rfl) (by kernel_rfl) run30 .nil
theorem s58 : SoundCall Try.prog 58 sgVfV (G 31) := sound (l := []) (h := .e) noX Try.func58 (by kernel_rfl) (by kernel_rfl) run31 .nil
theorem s78 : SoundCall Try.prog 78 sgVfV (G 31) := sound (l := []) (h := .e) noX Try.func78 (by kernel_rfl) (by kernel_rfl) run31 .nil
theorem s32 : SoundCall Try.prog 32 sgMP (G 32) := sound (l := [(57, 18, sgVB), (48, 19, sgIII), (59, 30, sgVV), (58, 31, sgVfV), (60, 13, sgVV), (25, 15, sgVf), (56, 1, sgB)]) (h := (.n none .e (.n none (.n none .e (.n none (.n none .e .e) .e)) (.n none .e (.n none (.n none .e (.n (some (.mk 5 0 [(19, (.c (.s .undef))), (20, (.c (.s .undef))), (21, (.c (.s .undef))), (24, (.c (.s .undef))), (25, (.c (.s .undef))), (26, (.c (.s .undef))), (29, (.c (.s .undef))), (30, (.c (.s .undef))), (31, (.c (.s .undef))), (41, (.c (.s (.dat (.b (.int .i64)) (.v 34))))), (42, (.c (.s (.dat (.b .bool) (.v 35)))))] [(4, (.var [(.s (.dat (.b (.flt .f32)) (.v 31))), (.s (.dat (.b (.flt .f32)) (.v 32))), (.s (.dat (.b (.flt .f32)) (.v 33)))]))])) (.n (some (.mk 4 0 [(19, (.c (.s .undef))), (20, (.c (.s .undef))), (21, (.c (.s .undef))), (24, (.c (.s .undef))), (25, (.c (.s .undef))), (26, (.c (.s .undef))), (29, (.c (.s .undef))), (30, (.c (.s .undef))), (31, (.c (.s .undef))), (41, (.c (.s (.dat (.b (.int .i64)) (.v 34)))))] [(4, (.var [(.s (.dat (.b (.flt .f32)) (.v 31))), (.s (.dat (.b (.flt .f32)) (.v 32))), (.s (.dat (.b (.flt .f32)) (.v 33)))]))])) (.n none .e (.n none (.n none .e .e) (.n none (.n none (.n none .e (.n none (.n none .e (.n none .e .e)) (.n none .e .e))) .e) .e))) .e) .e)) (.n none .e .e)))))) noX Try.func32 (by kernel_rfl) (by kernel_rfl) (run32 rfl rfl rfl rfl rfl rfl rfl) (.cons s57 (.cons s48 (.cons s59 (.cons s58 (.cons s60 (.cons s25 (.cons s56 .nil)))))))
theorem s45 : SoundCall Try.prog 45 sgMP (G 32) := sound (l := [(76, 18, sgVB), (77, 19, sgIII), (73, 30, sgVV), (78, 31, sgVfV), (67, 13, sgVV), (66, 15, sgVf), (79, 1, sgB)]) (h := (.n none .e (.n none (.n none .e (.n none (.n none .e .e) .e)) (.n none .e (.n none (.n none .e (.n (some (.mk 7 0 [(11, (.c (.s (.dat (.b (.int .i64)) (.v 34))))), (20, (.c (.s .undef))), (21, (.c (.s .undef))), (22, (.c (.s .undef))), (25, (.c (.s .undef))), (26, (.c (.s .undef))), (27, (.c (.s .undef))), (30, (.c (.s .undef))), (31, (.c (.s .undef))), (32, (.c (.s .undef))), (41, (.c (.s (.dat (.b (.int .i64)) (.v 35))))), (42, (.c (.s (.dat (.b (.int .i64)) (.v 36))))), (43, (.c (.s (.dat (.b .bool) (.v 37)))))] [(4, (.var [(.s (.dat (.b (.flt .f32)) (.v 31))), (.s (.dat (.b (.flt .f32)) (.v 32))), (.s (.dat (.b (.flt .f32)) (.v 33)))]))])) (.n (some (.mk 4 0 [(11, (.c (.s (.dat (.b (.int .i64)) (.v 34))))), (20, (.c (.s .undef))), (21, (.c (.s .undef))), (22, (.c (.s .undef))), (25, (.c (.s .undef))), (26, (.c (.s .undef))), (27, (.c (.s .undef))), (30, (.c (.s .undef))), (31, (.c (.s .undef))), (32, (.c (.s .undef)))] [(4, (.var [(.s (.dat (.b (.flt .f32)) (.v 31))), (.s (.dat (.b (.flt .f32)) (.v 32))), (.s (.dat (.b (.flt .f32)) (.v 33)))]))])) (.n none (.n none .e (.n none .e .e)) (.n none (.n none (.n none .e (.n none .e (.n none .e (.n none (.n none .e (.n none .e .e)) (.n none .e .e))))) .e) .e)) .e) .e)) (.n none .e .e)))))) noX Try.func45 (by kernel_rfl) (by kernel_rfl) (run32s rfl rfl rfl rfl rfl rfl rfl) (.cons s76 (.cons s77 (.cons s73 (.cons s78 (.cons s67 (.cons s66 (.cons s79 .nil)))))))
theorem s46 : SoundCall Try.prog 46 sgEqV (G 40) := sound (l := [(38, 4, sgSame)]) (h := (.n none .e (.n none (.n none .e (.n none (.n none .e .e) .e)) (.n none (.n none .e (.n none (.n none .e .e) .e)) (.n none (.n none .e (.n none (.n none .e .e) .e)) (.n none .e .e)))))) noX Try.func46 (by kernel_rfl) (by kernel_rfl) (run40 rfl) (.cons s38 .nil)
theorem s12 : SoundCall Try.prog 12 sgMPl (G 41) := sound (l := [(40, 16, sgV), (45, 32, sgMP), (32, 32, sgMP), (46, 40, sgEqV)]) (h := (.n none .e (.n none .e (.n none .e (.n none (.n none .e (.n none (.n none .e .e) .e)) (.n none .e .e)))))) noX Try.func12 (by kernel_rfl) (by kernel_rfl) (run41 rfl rfl rfl) (.cons s40 (.cons s45 (.cons s32 (.cons s46 .nil))))
set_option maxRecDepth 100000 in
theorem meetPoint_lifted (os : Os) (started : os.Started) (H : Type) (enc : TypeId × Value → H) :
    ReturnsInHanded {} Try.checked os 12 .any (Rows.fnExactMeetPointSpec.pre6 enc Try.prog Try.f12 Rows.fnExactMeetPointRow.domain false) (Rows.fnExactMeetPointSpec.post enc Try.prog Try.f12 false true false false) := by
  refine returnsInHanded_of_change (C := Try.checked) own started (by kernel_rfl) Try.func12
    (ChangeSpec.witness6 (enc := enc) (C := Try.checked) false ⟨#[], #[.agg #[.float .f32 0, .float .f32 0, .float .f32 0], .agg #[.float .f32 0, .float .f32 0, .float .f32 0], .agg #[.float .f32 0, .float .f32 0, .float .f32 0], .int .i64 0], []⟩ 8 (by kernel_rfl) (by kernel_rfl) (by kernel_rfl) (by kernel_rfl)) ?_
  intro W base args ds gs before hval0 hW hcnd _
  have hval : ∀ (j : Nat) t v, Try.f12.params.toList[j]? = some t → args.toList[j]? = some v → Value.okWide Try.prog W .any base t v := fun j t v h1 h2 => hval0 j t v (by simpa using h1) (by simpa using h2)
  obtain ⟨p, q, hA, hV, _⟩ := id hW
  obtain ⟨xs, hX, hF0, hl0⟩ := args_any (F := fun b => b < W.heap.size) (ps := [(true, [f1, f1, f1]), (true, [f1, f1, f1]), (true, [f1, f1, f1]), (false, [i8])]) (by kernel_rfl) hA hval
  obtain ⟨x0, ys0, rfl, hF1⟩ := fits_flt hF0
  obtain ⟨x1, ys1, rfl, hF2⟩ := fits_flt hF1
  obtain ⟨x2, ys2, rfl, hF3⟩ := fits_flt hF2
  obtain ⟨x3, ys3, rfl, hF4⟩ := fits_flt hF3
  obtain ⟨x4, ys4, rfl, hF5⟩ := fits_flt hF4
  obtain ⟨x5, ys5, rfl, hF6⟩ := fits_flt hF5
  obtain ⟨x6, ys6, rfl, hF7⟩ := fits_flt hF6
  obtain ⟨x7, ys7, rfl, hF8⟩ := fits_flt hF7
  obtain ⟨x8, ys8, rfl, hF9⟩ := fits_flt hF8
  obtain ⟨x9, ys9, rfl, hF10⟩ := fits_int hF9
  obtain rfl := fits_nil hF10
  rw [Try.params12] at hl0
  obtain ⟨d0, es0, rfl, hl1⟩ := len_cons hl0
  obtain ⟨d1, es1, rfl, hl2⟩ := len_cons hl1
  obtain ⟨d2, es2, rfl, hl3⟩ := len_cons hl2
  obtain ⟨d3, es3, rfl, hl4⟩ := len_cons hl3
  obtain rfl := len_nil hl4
  exact law_of_sound (bT := true) (tb := 4) laidOut mapsRow slicesFull (by kernel_rfl) (by kernel_rfl) (by kernel_rfl) rfl ⟨rfl, rfl, rfl⟩ s12 rfl hW ⟨_, hX, rfl⟩

theorem meetPoint_holds : Rows.FnExactMeetPointSaid :=
  OpenClaim.holds_of_wide 12 Try.f12 rfl rfl rfl rfl rfl rfl rfl ⟨rfl, rfl, rfl, rfl, rfl⟩ rfl rfl rfl rfl rfl (by kernel_rfl) Try.func12 (by kernel_rfl)
    (of_decide_eq_true (by kernel_rfl)) (by unfold Func.isWrapper; first | (rw [if_pos (by decide +kernel)]; kernel_rfl) | (rw [if_neg (by decide +kernel)]; exact ⟨rfl, rfl⟩))
    (fun os started H enc _ => meetPoint_lifted os started H enc)

end Go.Proofs.Ythgocnlbnghbbaa
