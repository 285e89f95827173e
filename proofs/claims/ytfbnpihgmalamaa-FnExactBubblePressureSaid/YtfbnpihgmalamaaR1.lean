/-
  Proved: for all arguments the program's BubblePressure, WidestGap, DiscsArea and WallRadius return what the reference's return (the four laws answer true). Conditions: none.
-/
import Derived.Test.YtfbnpihgmalamaaRows
import Derived.Test.YtfbnpihgmalamaaL1
import Derived.Test.YtfbnpihgmalamaaVs20
namespace Go.Proofs.Ytfbnpihgmalamaa
open Vs Go Go.RowKit Go.ChangeShapes Go.WideShapes Go.ChangeAt

theorem noX : ∀ x ∈ ([] : List (FuncId × Ext)), ∀ args w, (callFunc x.1 args).run Try.prog w = ((extFn x.2 args).run Try.prog w).andThen fun v w' => .ok (.value v) w' := by
  intro x hx; cases hx

theorem s22 : SoundCall Try.prog 22 sgB (G1 1) := sound (l := []) (h := .e) noX Try.func22 (by kernel_rfl) (by kernel_rfl) run1 .nil
theorem s24 : SoundCall Try.prog 24 sgB (G1 1) := sound (l := []) (h := .e) noX Try.func24 (by kernel_rfl) (by kernel_rfl) run1 .nil
theorem s23 : SoundCall Try.prog 23 sgB (G1 2) := sound (l := [(22, 1, sgB)]) (h := .e) noX Try.func23 (by kernel_rfl) (by kernel_rfl) run2 (.cons s22 .nil)
theorem s25 : SoundCall Try.prog 25 sgB (G1 2) := sound (l := [(24, 1, sgB)]) (h := .e) noX Try.func25 (by kernel_rfl) (by kernel_rfl) run2 (.cons s24 .nil)
theorem s11 : SoundCall Try.prog 11 sgSame (G1 4) := sound (l := []) (h := .e) noX Try.func11 (by kernel_rfl) (by kernel_rfl) run4 .nil
theorem s12 : SoundCall Try.prog 12 sgFB (G1 3) := sound (l := [(23, 2, sgB)]) (h := .e) noX Try.func12 (by kernel_rfl) (by kernel_rfl) run3 (.cons s23 .nil)
theorem s13 : SoundCall Try.prog 13 sgFB (G1 3) := sound (l := [(25, 2, sgB)]) (h := .e) noX Try.func13 (by kernel_rfl) (by kernel_rfl) run3 (.cons s25 .nil)
theorem s9 : SoundCall Try.prog 9 sg2FB (G1 5) := sound (l := [(22, 1, sgB), (23, 2, sgB)]) (h := .e) noX Try.func9 (by kernel_rfl) (by kernel_rfl) run5 (.cons s22 (.cons s23 .nil))
theorem s10 : SoundCall Try.prog 10 sg2FB (G1 5) := sound (l := [(24, 1, sgB), (25, 2, sgB)]) (h := .e) noX Try.func10 (by kernel_rfl) (by kernel_rfl) run5 (.cons s24 (.cons s25 .nil))
theorem s26 : SoundCall Try.prog 26 sgF (G1 6) := sound (l := []) (h := .e) noX Try.func26 (by kernel_rfl) (by kernel_rfl) run6 .nil
theorem s14 : SoundCall Try.prog 14 sgFB (G1 7) := sound (l := [(23, 2, sgB), (26, 6, sgF)]) (h := .e) noX Try.func14 (by kernel_rfl) (by kernel_rfl) run7 (.cons s23 (.cons s26 .nil))
theorem s15 : SoundCall Try.prog 15 sgFB (G1 7) := sound (l := [(25, 2, sgB)]) (h := .e) noX Try.func15 (by kernel_rfl) (by kernel_rfl) run7' (.cons s25 .nil)
theorem s16 : SoundCall Try.prog 16 sg2FB (G1 8) := sound (l := [(23, 2, sgB)]) (h := .e) noX Try.func16 (by kernel_rfl) (by kernel_rfl) run8 (.cons s23 .nil)
theorem s17 : SoundCall Try.prog 17 sg2FB (G1 8) := sound (l := [(25, 2, sgB)]) (h := .e) noX Try.func17 (by kernel_rfl) (by kernel_rfl) run8 (.cons s25 .nil)
theorem s3 : SoundCall Try.prog 3 sg2B (G1 21) := sound (t := TL2 5) (l := [(9, 5, sg2FB), (10, 5, sg2FB), (11, 4, sgSame)]) (h := .e) noX Try.func3 (by kernel_rfl) (by kernel_rfl) (runL2 5 two5) (.cons s9 (.cons s10 (.cons s11 .nil)))
theorem s4 : SoundCall Try.prog 4 sgB (G1 20) := sound (t := TL1 3) (l := [(12, 3, sgFB), (13, 3, sgFB), (11, 4, sgSame)]) (h := .e) noX Try.func4 (by kernel_rfl) (by kernel_rfl) (runL1 3 two3) (.cons s12 (.cons s13 (.cons s11 .nil)))
theorem s5 : SoundCall Try.prog 5 sgB (G1 20) := sound (t := TL1 7) (l := [(14, 7, sgFB), (15, 7, sgFB), (11, 4, sgSame)]) (h := .e) noX Try.func5 (by kernel_rfl) (by kernel_rfl) (runL1 7 two7) (.cons s14 (.cons s15 (.cons s11 .nil)))
theorem s6 : SoundCall Try.prog 6 sg2B (G1 21) := sound (t := TL2 8) (l := [(16, 8, sg2FB), (17, 8, sg2FB), (11, 4, sgSame)]) (h := .e) noX Try.func6 (by kernel_rfl) (by kernel_rfl) (runL2 8 two8) (.cons s16 (.cons s17 (.cons s11 .nil)))

theorem own : ownKnob Try.prog.godebug = none := by kernel_rfl
theorem laidOut : laidOutB Try.prog = true := by kernel_rfl
theorem mapsRow : mapsRowed Try.prog = true := by kernel_rfl
theorem slicesFull : ((List.range Try.prog.types.size).all fun t => match Try.prog.underlying t with | some (.slice e) => decide (0 < Try.prog.cellsOf e) | _ => true) = true := by kernel_rfl

set_option maxRecDepth 100000 in
theorem widestGap_lifted (os : Os) (started : os.Started) (H : Type) (enc : TypeId × Value → H) :
    ReturnsInHanded {} Try.checked os 4 .any (Rows.fnExactWidestGapSpec.pre6 enc Try.prog Try.f4 Rows.fnExactWidestGapRow.domain false) (Rows.fnExactWidestGapSpec.post enc Try.prog Try.f4 false true false false) := by
  refine returnsInHanded_of_change (C := Try.checked) own started (by kernel_rfl) Try.func4
    (ChangeSpec.witness6 (enc := enc) (C := Try.checked) false ⟨#[], #[.float .f32 0], []⟩ 8 (by kernel_rfl) (by kernel_rfl) (by kernel_rfl) (by kernel_rfl)) ?_
  intro W base args ds gs before hval0 hW hcnd _
  have hval : ∀ (j : Nat) t v, Try.f4.params.toList[j]? = some t → args.toList[j]? = some v → Value.okWide Try.prog W .any base t v := fun j t v h1 h2 => hval0 j t v (by simpa using h1) (by simpa using h2)
  obtain ⟨p, q, hA, hV, _⟩ := id hW
  obtain ⟨xs, hX, hF0⟩ := args_plain (F := fun b => b < W.heap.size) (bts := [f1]) (by kernel_rfl) hA hval
  obtain ⟨x0, ys0, rfl, hF1⟩ := fits_flt hF0
  obtain rfl := fits_nil hF1
  rw [Try.params4] at hA
  obtain ⟨v0, d0, h0, rfl, _⟩ := trodAll_one hA
  exact law_of_sound (bT := true) (tb := 4) laidOut mapsRow slicesFull (by kernel_rfl) (by kernel_rfl) (by kernel_rfl) rfl ⟨rfl, rfl, rfl⟩ s4 rfl hW ⟨_, hX, rfl⟩

theorem widestGap_holds : Rows.FnExactWidestGapSaid :=
  OpenClaim.holds_of_wide 4 Try.f4 rfl rfl rfl rfl rfl rfl rfl ⟨rfl, rfl, rfl, rfl, rfl⟩ rfl rfl rfl rfl rfl (by kernel_rfl) Try.func4 (by kernel_rfl)
    (of_decide_eq_true (by kernel_rfl)) (by unfold Func.isWrapper; first | (rw [if_pos (by decide +kernel)]; kernel_rfl) | (rw [if_neg (by decide +kernel)]; exact ⟨rfl, rfl⟩))
    (fun os started H enc _ => widestGap_lifted os started H enc)

set_option maxRecDepth 100000 in
theorem discsArea_lifted (os : Os) (started : os.Started) (H : Type) (enc : TypeId × Value → H) :
    ReturnsInHanded {} Try.checked os 5 .any (Rows.fnExactDiscsAreaSpec.pre6 enc Try.prog Try.f5 Rows.fnExactDiscsAreaRow.domain false) (Rows.fnExactDiscsAreaSpec.post enc Try.prog Try.f5 false true false false) := by
  refine returnsInHanded_of_change (C := Try.checked) own started (by kernel_rfl) Try.func5
    (ChangeSpec.witness6 (enc := enc) (C := Try.checked) false ⟨#[], #[.float .f32 0], []⟩ 8 (by kernel_rfl) (by kernel_rfl) (by kernel_rfl) (by kernel_rfl)) ?_
  intro W base args ds gs before hval0 hW hcnd _
  have hval : ∀ (j : Nat) t v, Try.f5.params.toList[j]? = some t → args.toList[j]? = some v → Value.okWide Try.prog W .any base t v := fun j t v h1 h2 => hval0 j t v (by simpa using h1) (by simpa using h2)
  obtain ⟨p, q, hA, hV, _⟩ := id hW
  obtain ⟨xs, hX, hF0⟩ := args_plain (F := fun b => b < W.heap.size) (bts := [f1]) (by kernel_rfl) hA hval
  obtain ⟨x0, ys0, rfl, hF1⟩ := fits_flt hF0
  obtain rfl := fits_nil hF1
  rw [Try.params5] at hA
  obtain ⟨v0, d0, h0, rfl, _⟩ := trodAll_one hA
  exact law_of_sound (bT := true) (tb := 4) laidOut mapsRow slicesFull (by kernel_rfl) (by kernel_rfl) (by kernel_rfl) rfl ⟨rfl, rfl, rfl⟩ s5 rfl hW ⟨_, hX, rfl⟩

theorem discsArea_holds : Rows.FnExactDiscsAreaSaid :=
  OpenClaim.holds_of_wide 5 Try.f5 rfl rfl rfl rfl rfl rfl rfl ⟨rfl, rfl, rfl, rfl, rfl⟩ rfl rfl rfl rfl rfl (by kernel_rfl) Try.func5 (by kernel_rfl)
    (of_decide_eq_true (by kernel_rfl)) (by unfold Func.isWrapper; first | (rw [if_pos (by decide +kernel)]; kernel_rfl) | (rw [if_neg (by decide +kernel)]; exact ⟨rfl, rfl⟩))
    (fun os started H enc _ => discsArea_lifted os started H enc)

set_option maxRecDepth 100000 in
theorem bubblePressure_lifted (os : Os) (started : os.Started) (H : Type) (enc : TypeId × Value → H) :
    ReturnsInHanded {} Try.checked os 3 .any (Rows.fnExactBubblePressureSpec.pre6 enc Try.prog Try.f3 Rows.fnExactBubblePressureRow.domain false) (Rows.fnExactBubblePressureSpec.post enc Try.prog Try.f3 false true false false) := by
  refine returnsInHanded_of_change (C := Try.checked) own started (by kernel_rfl) Try.func3
    (ChangeSpec.witness6 (enc := enc) (C := Try.checked) false ⟨#[], #[.float .f32 0, .float .f32 0], []⟩ 8 (by kernel_rfl) (by kernel_rfl) (by kernel_rfl) (by kernel_rfl)) ?_
  intro W base args ds gs before hval0 hW hcnd _
  have hval : ∀ (j : Nat) t v, Try.f3.params.toList[j]? = some t → args.toList[j]? = some v → Value.okWide Try.prog W .any base t v := fun j t v h1 h2 => hval0 j t v (by simpa using h1) (by simpa using h2)
  obtain ⟨p, q, hA, hV, _⟩ := id hW
  obtain ⟨xs, hX, hF0⟩ := args_plain (F := fun b => b < W.heap.size) (bts := [f1, f1]) (by kernel_rfl) hA hval
  obtain ⟨x0, ys0, rfl, hF1⟩ := fits_flt hF0
  obtain ⟨x1, ys1, rfl, hF2⟩ := fits_flt hF1
  obtain rfl := fits_nil hF2
  rw [Try.params3] at hA
  obtain ⟨v0, v1, d0, d1, p0, p1, h1, rfl, rfl, h2, h3⟩ := trodAll_two hA
  exact law_of_sound (bT := true) (tb := 4) laidOut mapsRow slicesFull (by kernel_rfl) (by kernel_rfl) (by kernel_rfl) rfl ⟨rfl, rfl, rfl⟩ s3 rfl hW ⟨_, hX, rfl⟩

theorem bubblePressure_holds : Rows.FnExactBubblePressureSaid :=
  OpenClaim.holds_of_wide 3 Try.f3 rfl rfl rfl rfl rfl rfl rfl ⟨rfl, rfl, rfl, rfl, rfl⟩ rfl rfl rfl rfl rfl (by kernel_rfl) Try.func3 (by kernel_rfl)
    (of_decide_eq_true (by kernel_rfl)) (by unfold Func.isWrapper; first | (rw [if_pos (by decide +kernel)]; kernel_rfl) | (rw [if_neg (by decide +kernel)]; exact ⟨rfl, rfl⟩))
    (fun os started H enc _ => bubblePressure_lifted os started H enc)

set_option maxRecDepth 100000 in
theorem wallRadius_lifted (os : Os) (started : os.Started) (H : Type) (enc : TypeId × Value → H) :
    ReturnsInHanded {} Try.checked os 6 .any (Rows.fnExactWallRadiusSpec.pre6 enc Try.prog Try.f6 Rows.fnExactWallRadiusRow.domain false) (Rows.fnExactWallRadiusSpec.post enc Try.prog Try.f6 false true false false) := by
  refine returnsInHanded_of_change (C := Try.checked) own started (by kernel_rfl) Try.func6
    (ChangeSpec.witness6 (enc := enc) (C := Try.checked) false ⟨#[], #[.float .f32 0, .float .f32 0], []⟩ 8 (by kernel_rfl) (by kernel_rfl) (by kernel_rfl) (by kernel_rfl)) ?_
  intro W base args ds gs before hval0 hW hcnd _
  have hval : ∀ (j : Nat) t v, Try.f6.params.toList[j]? = some t → args.toList[j]? = some v → Value.okWide Try.prog W .any base t v := fun j t v h1 h2 => hval0 j t v (by simpa using h1) (by simpa using h2)
  obtain ⟨p, q, hA, hV, _⟩ := id hW
  obtain ⟨xs, hX, hF0⟩ := args_plain (F := fun b => b < W.heap.size) (bts := [f1, f1]) (by kernel_rfl) hA hval
  obtain ⟨x0, ys0, rfl, hF1⟩ := fits_flt hF0
  obtain ⟨x1, ys1, rfl, hF2⟩ := fits_flt hF1
  obtain rfl := fits_nil hF2
  rw [Try.params6] at hA
  obtain ⟨v0, v1, d0, d1, p0, p1, h1, rfl, rfl, h2, h3⟩ := trodAll_two hA
  exact law_of_sound (bT := true) (tb := 4) laidOut mapsRow slicesFull (by kernel_rfl) (by kernel_rfl) (by kernel_rfl) rfl ⟨rfl, rfl, rfl⟩ s6 rfl hW ⟨_, hX, rfl⟩

theorem wallRadius_holds : Rows.FnExactWallRadiusSaid :=
  OpenClaim.holds_of_wide 6 Try.f6 rfl rfl rfl rfl rfl rfl rfl ⟨rfl, rfl, rfl, rfl, rfl⟩ rfl rfl rfl rfl rfl (by kernel_rfl) Try.func6 (by kernel_rfl)
    (of_decide_eq_true (by kernel_rfl)) (by unfold Func.isWrapper; first | (rw [if_pos (by decide +kernel)]; kernel_rfl) | (rw [if_neg (by decide +kernel)]; exact ⟨rfl, rfl⟩))
    (fun os started H enc _ => wallRadius_lifted os started H enc)


end Go.Proofs.Ytfbnpihgmalamaa
