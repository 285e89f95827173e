/-
  ProjectSpring: what the functions compute, and the law.
-/
import Derived.Test.YtjgbalnanfngjaaK15
import Derived.Test.YtjgbalnanfngjaaK14
namespace Vs
open Go

/-! ### Looking at the marks of a body -/
open Classical in
noncomputable def F241 : List D → Option (List D)
  | [c, .int m] => (dS c).bind fun ss => if ss = marksS m ss.length ∧ ss.length ≤ 1048576 ∧ 0 ≤ m ∧ m ≤ 1099511627776 then some [.int (m + 4 * ss.length)] else none
  | _ => none
open Classical in
noncomputable def F242 : List D → Option (List D)
  | [c, .int m] => (dW c).bind fun ws => if ws = marksW m ws.length ∧ ws.length ≤ 1048576 ∧ 0 ≤ m ∧ m ≤ 1099511627776 then some [.int (m + ws.length)] else none
  | _ => none
noncomputable def F243 : List D → Option (List D)
  | [a, b, c, _, _, w, _, _, _, .int m] => match F148 [a, b, .int m] with
    | some [.int k] => if 0 ≤ k then (match F241 [c, .int k] with
      | some [.int j] => if 0 ≤ j then (match F242 [w, .int j] with
        | some [.int i] => if 0 ≤ i then some [.int i] else none
        | _ => none) else none
      | _ => none) else none
    | _ => none
  | _ => none
theorem F193_full {B : Bd} (h : szB B ≤ 1048576) : F193 (bd B ++ [.int 1]) = some [.int (mkB B), vl (marksV 1 B.vs.length), marksT (1 + 3 * B.vs.length) B.ts, sl (marksS (1 + 3 * B.vs.length + totL B.ts) B.ss.length), fl (marksW (1 + 3 * B.vs.length + totL B.ts + 4 * B.ss.length) B.ws.length)] := by
  simp only [F193, dB_bd, Option.bind_some]
  exact if_pos ⟨trivial, h⟩
theorem F243_m {B : Bd} {d1 d2 d3 d4 d5 : D} (h : szB B ≤ 1048576) : F243 [vl (marksV 1 B.vs.length), marksT (1 + 3 * B.vs.length) B.ts, sl (marksS (1 + 3 * B.vs.length + totL B.ts) B.ss.length), d1, d2, fl (marksW (1 + 3 * B.vs.length + totL B.ts + 4 * B.ss.length) B.ws.length), d3, d4, d5, .int 1] = some [.int (mkB B)] := by
  have hz : szB B = szM B.vs B.ts + B.ss.length + B.ws.length := rfl
  have hz2 : szM B.vs B.ts = B.vs.length + B.ts.length + totL B.ts := rfl
  have h1 := F148_m (vs := B.vs) (ts := B.ts) (m := 1) (by omega) (by omega) (by omega)
  have h2 : F241 [sl (marksS (1 + 3 * B.vs.length + totL B.ts) B.ss.length), .int (1 + 3 * B.vs.length + totL B.ts)] = some [.int (1 + 3 * B.vs.length + totL B.ts + 4 * B.ss.length)] := by
    simp only [F241, dS_sl, Option.bind_some, marksS_length]
    exact if_pos ⟨trivial, by omega, by omega, by omega⟩
  have h3 : F242 [fl (marksW (1 + 3 * B.vs.length + totL B.ts + 4 * B.ss.length) B.ws.length), .int (1 + 3 * B.vs.length + totL B.ts + 4 * B.ss.length)] = some [.int (mkB B)] := by
    simp only [F242, dW_fl, Option.bind_some, marksW_length]
    exact if_pos ⟨trivial, by omega, by omega, by omega⟩
  have hk : 0 < mkB B := by unfold mkB; omega
  simp only [F243, h1]
  rw [if_pos (by omega)]
  simp only [h2]
  rw [if_pos (by omega)]
  simp only [h3]
  rw [if_pos (by omega)]

/-! ### Held places -/
def goodR (n : Nat) (h : List Int) (i : Nat) : Bool := inr n (h.getD i 0) && !(decide (0 < i) && decide (h.getD (i - 1) 0 ≥ h.getD i 0))
def heldP (n : Nat) (h : List Int) : Bool := (List.range h.length).all (goodR n h)
theorem held_ge {n : Nat} {h : List Int} : ∀ i, (∀ j, j ≤ i → goodR n h j = true) → (i : Int) ≤ h.getD i 0 ∧ h.getD i 0 ≤ n - 1
  | 0, hg => by
    have := hg 0 (by omega)
    unfold goodR inr at this
    simp only [Bool.and_eq_true, decide_eq_true_eq] at this
    omega
  | i + 1, hg => by
    obtain ⟨h1, h2⟩ := held_ge i (fun j hj => hg j (by omega))
    have := hg (i + 1) (by omega)
    unfold goodR inr at this
    simp only [Bool.and_eq_true, decide_eq_true_eq, Bool.not_eq_true', Bool.and_eq_false_imp, decide_eq_false_iff_not] at this
    obtain ⟨⟨h3, h4⟩, h5⟩ := this
    have h5 := h5 (by omega)
    rw [Nat.add_sub_cancel] at h5
    omega
theorem held_all {n : Nat} {h : List Int} (hh : heldP n h = true) : ∀ i, i < h.length → goodR n h i = true := fun i hi => List.all_eq_true.1 hh i (List.mem_range.2 hi)
theorem held_in {n : Nat} {h : List Int} (hh : heldP n h = true) : ∀ i, (hi : i < h.length) → inr n h[i] = true := fun i hi => by
  have := held_all hh i hi
  unfold goodR at this
  simp only [Bool.and_eq_true] at this
  rw [← getD_lt hi (d := 0)]
  exact this.1
theorem held_len {n : Nat} {h : List Int} (hh : heldP n h = true) : h.length ≤ n := by
  rcases Nat.eq_zero_or_pos h.length with e | e
  · omega
  · have := held_ge (n := n) (h := h) (h.length - 1) (fun j hj => held_all hh j (by omega))
    omega
/-- The first that is not good. -/
theorem first_bad {g : Nat → Bool} (n : Nat) : (∀ i, i < n → g i = true) ∨ ∃ m, m < n ∧ g m = false ∧ ∀ i, i < m → g i = true := by
  induction n with
  | zero => exact .inl fun i hi => by omega
  | succ n ih =>
    rcases ih with h | ⟨m, a, b, c⟩
    · cases hg : g n
      · exact .inr ⟨n, by omega, hg, h⟩
      · refine .inl fun i hi => ?_
        rcases Nat.lt_or_ge i n with h' | h'
        · exact h i h'
        · have : i = n := by omega
          subst this
          exact hg
    · exact .inr ⟨m, by omega, b, c⟩
theorem held_no {n m : Nat} {h : List Int} (hm : m < h.length) (hg : goodR n h m = false) : heldP n h = false := by
  unfold heldP
  rw [List.all_eq_false]
  exact ⟨m, List.mem_range.2 hm, by rw [hg]; simp⟩
open Classical in
noncomputable def onH (p : Bd → List Int → Option (List D)) (ds : List D) : Option (List D) := (dB ds).bind fun q => if h : ∃ l, q.2 = [il l] then p q.1 h.choose else none
theorem onH_m (p : Bd → List Int → Option (List D)) (B : Bd) (l : List Int) : onH p (bd B ++ [il l]) = p B l := by
  have hx : ∃ m, ([il l] : List D) = [il m] := ⟨l, rfl⟩
  simp only [onH, dB_bd, Option.bind_some]
  rw [dif_pos hx]
  have hs := hx.choose_spec
  generalize hx.choose = m at hs ⊢
  simp only [List.cons.injEq, and_true] at hs
  rw [il_inj hs]
theorem onH_inv {p : Bd → List Int → Option (List D)} {ds rs : List D} (h : onH p ds = some rs) : ∃ B l, ds = bd B ++ [il l] ∧ p B l = some rs := by
  unfold onH at h
  obtain ⟨⟨B, r⟩, hb, h⟩ := Option.bind_eq_some_iff.1 h
  dsimp only at h
  split at h
  · rename_i hc
    refine ⟨B, _, ?_, h⟩
    rw [dB_inv hb, ← hc.choose_spec]
  · cases h
open Classical in
noncomputable def onHI (p : Bd → List Int → Int → Option (List D)) (ds : List D) : Option (List D) := (dB ds).bind fun q => if h : ∃ l i, q.2 = [il l, .int i] then p q.1 h.choose h.choose_spec.choose else none
theorem onHI_m (p : Bd → List Int → Int → Option (List D)) (B : Bd) (l : List Int) (i : Int) : onHI p (bd B ++ [il l, .int i]) = p B l i := by
  have hx : ∃ m j, ([il l, .int i] : List D) = [il m, .int j] := ⟨l, i, rfl⟩
  simp only [onHI, dB_bd, Option.bind_some]
  rw [dif_pos hx]
  have hs := hx.choose_spec.choose_spec
  generalize hx.choose_spec.choose = j at hs ⊢
  generalize hx.choose = m at hs ⊢
  simp only [List.cons.injEq, D.int.injEq, and_true] at hs
  rw [il_inj hs.1, hs.2]
theorem onHI_inv {p : Bd → List Int → Int → Option (List D)} {ds rs : List D} (h : onHI p ds = some rs) : ∃ B l i, ds = bd B ++ [il l, .int i] ∧ p B l i = some rs := by
  unfold onHI at h
  obtain ⟨⟨B, r⟩, hb, h⟩ := Option.bind_eq_some_iff.1 h
  dsimp only at h
  split at h
  · rename_i hc
    refine ⟨B, _, _, ?_, h⟩
    rw [dB_inv hb, ← hc.choose_spec.choose_spec]
  · cases h
noncomputable def F244 : List D → Option (List D) := onH fun B h => if szB B ≤ 1048576 ∧ h.length ≤ 1048576 then some [.bool (validB B && heldP B.vs.length h)] else none
noncomputable def F245 : List D → Option (List D) := onH fun B h => if szB B ≤ 1048576 ∧ h.length ≤ 1048576 then some [.bool (heldP B.vs.length h)] else none
noncomputable def F246 : List D → Option (List D)
  | [a, .int lo, .int hi] => (dI a).bind fun h => if lo = 0 ∧ -1 ≤ hi ∧ hi ≤ 1048576 ∧ h.length ≤ 1048576 then some [.bool (heldP (hi + 1).toNat h)] else none
  | _ => none
noncomputable def F247 : List D → Option (List D) := onHI fun B h i => if szB B ≤ 1048576 ∧ h.length ≤ 1048576 then some [.bool (validB B && heldP B.vs.length h && inr B.ss.length i)] else none
noncomputable def F248 : List D → Option (List D) := F186
noncomputable def F249 : List D → Option (List D) := onH fun B h => if szB B ≤ 1048576 ∧ heldP B.vs.length h = true then some [bo ((List.range B.vs.length).map fun (c : Nat) => h.contains (c : Int))] else none

/-! ### Projecting -/
def projG (vs : List V3) (s : Sp) (p q : Bool) : Nat :=
  if (!p && !q) = true then fmul .f32 1056964608 (gainP (fsub .f32 (longV (lessV (plc vs s.b) (plc vs s.a))) s.l) (longV (lessV (plc vs s.b) (plc vs s.a)))) else gainP (fsub .f32 (longV (lessV (plc vs s.b) (plc vs s.a))) s.l) (longV (lessV (plc vs s.b) (plc vs s.a)))
def projV (vs : List V3) (s : Sp) (p q : Bool) : List V3 :=
  let d := lessV (plc vs s.b) (plc vs s.a)
  let g := projG vs s p q
  let us := if p = true then vs else vs.set s.a.toNat (V3.add (plc vs s.a) (V3.scale d g))
  if q = true then us else us.set s.b.toNat (V3.add (plc vs s.b) (V3.scale d (fneg .f32 g)))
theorem projV_len (vs : List V3) (s : Sp) (p q : Bool) : (projV vs s p q).length = vs.length := by
  unfold projV
  cases p <;> cases q <;> simp
open Classical in
noncomputable def F250 : List D → Option (List D)
  | [a, .int i, .int j, .flt l, .flt k, m] => (dV a).bind fun vs => if h : ∃ u : List Bool, m = bo u ∧ u.length = vs.length ∧ inr vs.length i = true ∧ inr vs.length j = true ∧ i ≠ j then
      some [vl (projV vs ⟨i, j, l, k⟩ (h.choose.getD i.toNat false) (h.choose.getD j.toNat false))] else none
  | _ => none
noncomputable def F251 : List D → Option (List D) := onHI fun B h i => if validB B = true ∧ heldP B.vs.length h = true ∧ inr B.ss.length i = true then
  some [vl (projV B.vs (B.ss.getD i.toNat ⟨0, 0, 0, 0⟩) (h.contains (B.ss.getD i.toNat ⟨0, 0, 0, 0⟩).a) (h.contains (B.ss.getD i.toNat ⟨0, 0, 0, 0⟩).b)), tl B.ts, sl B.ss, fl B.ws] else none
def projB (B : Bd) (h : List Int) (i : Int) : Bd :=
  ⟨projV B.vs (B.ss.getD i.toNat ⟨0, 0, 0, 0⟩) (h.contains (B.ss.getD i.toNat ⟨0, 0, 0, 0⟩).a) (h.contains (B.ss.getD i.toNat ⟨0, 0, 0, 0⟩).b), B.ts, B.ss, B.fm, B.bn, B.ws, B.x, B.y, B.z⟩
def noB : Bd := ⟨[], [], [], 0, 0, [], 0, 0, 0⟩
noncomputable def F252 : List D → Option (List D) := onHI fun B h i => if szB B ≤ 1048576 ∧ h.length ≤ 1048576 then
  some (if (validB B && heldP B.vs.length h && inr B.ss.length i) = true then bd (projB B h i) ++ [.bool true] else bd noB ++ [.bool false]) else none
open Classical in
noncomputable def F253 : List D → Option (List D) := onHI fun B h _ => if lawB B ∧ h.length < 9223372036854775808 then some [.bool true] else none
theorem bo_inj {a b : List Bool} (h : bo a = bo b) : a = b := by
  have key : ∀ l : List Bool, (l.map D.bool).map (fun d => match d with | .bool b => b | _ => false) = l := fun l => by
    rw [List.map_map]
    exact List.map_id'' (fun _ => rfl) l
  have h := D.lst.inj h
  rw [← key a, h, key]
theorem F250_m {vs : List V3} {s : Sp} {u : List Bool} (hu : u.length = vs.length) (ha : inr vs.length s.a = true) (hb : inr vs.length s.b = true) (hab : s.a ≠ s.b) :
    F250 [vl vs, .int s.a, .int s.b, .flt s.l, .flt s.k, bo u] = some [vl (projV vs s (u.getD s.a.toNat false) (u.getD s.b.toNat false))] := by
  have hx : ∃ v : List Bool, bo u = bo v ∧ v.length = vs.length ∧ inr vs.length s.a = true ∧ inr vs.length s.b = true ∧ s.a ≠ s.b := ⟨u, rfl, hu, ha, hb, hab⟩
  simp only [F250, dV_vl, Option.bind_some]
  rw [dif_pos hx]
  have hs := hx.choose_spec.1
  generalize hx.choose = v at hs ⊢
  rw [bo_inj hs]
theorem validB_spr {B : Bd} (h : validB B = true) : B.vs.length ≤ 64 ∧ B.ss.length ≤ 200 ∧ ∀ i, (hi : i < B.ss.length) → inr B.vs.length B.ss[i].a = true ∧ inr B.vs.length B.ss[i].b = true ∧ B.ss[i].a ≠ B.ss[i].b := by
  unfold validB validP at h
  simp only [Bool.and_eq_true, decide_eq_true_eq] at h
  refine ⟨h.1.1.1.1.1, h.1.1.2, fun i hi => ?_⟩
  have := List.all_eq_true.1 h.2 _ (List.getElem_mem hi)
  unfold sprP at this
  simp only [Bool.and_eq_true, Bool.not_eq_true', beq_eq_false_iff_ne] at this
  exact ⟨this.1.1.1, this.1.1.2, this.1.2⟩

def T241 : T :=
(.join 5
  (.loop [(.v 1), (.c (.int 0))]
    (.op none .len [(.v 0)] <|
    (.op none (.icm .lss) [(.v 3), (.v 4)] <|
    (.ite (.v 5)
      (.op none .idx [(.v 0), (.v 3)] <|
      (.op none (.proj 0) [(.v 6)] <|
      (.op none (.proj 1) [(.v 6)] <|
      (.op none (.proj 2) [(.v 6)] <|
      (.op none (.proj 3) [(.v 6)] <|
      (.op none (.icm .neq) [(.v 7), (.v 2)] <|
      (.ite (.v 11)
        (.out 2 [(.c (.int (-1)))])
        (.op none (.iar .add .i64) [(.v 2), (.c (.int 1))] <|
        (.op none .idx [(.v 0), (.v 3)] <|
        (.op none (.proj 0) [(.v 13)] <|
        (.op none (.proj 1) [(.v 13)] <|
        (.op none (.proj 2) [(.v 13)] <|
        (.op none (.proj 3) [(.v 13)] <|
        (.op none (.icm .neq) [(.v 15), (.v 12)] <|
        (.ite (.v 18)
          (.out 2 [(.c (.int (-1)))])
          (.op none (.iar .add .i64) [(.v 12), (.c (.int 1))] <|
          (.op none .idx [(.v 0), (.v 3)] <|
          (.op none (.proj 0) [(.v 20)] <|
          (.op none (.proj 1) [(.v 20)] <|
          (.op none (.proj 2) [(.v 20)] <|
          (.op none (.proj 3) [(.v 20)] <|
          (.op none (.i2f .f32) [(.v 19)] <|
          (.op none (.fcm .neq .f32) [(.v 23), (.v 25)] <|
          (.ite (.v 26)
            (.out 2 [(.c (.int (-1)))])
            (.op none (.iar .add .i64) [(.v 19), (.c (.int 1))] <|
            (.op none .idx [(.v 0), (.v 3)] <|
            (.op none (.proj 0) [(.v 28)] <|
            (.op none (.proj 1) [(.v 28)] <|
            (.op none (.proj 2) [(.v 28)] <|
            (.op none (.proj 3) [(.v 28)] <|
            (.op none (.i2f .f32) [(.v 27)] <|
            (.op none (.fcm .neq .f32) [(.v 32), (.v 33)] <|
            (.ite (.v 34)
              (.out 2 [(.c (.int (-1)))])
              (.op none (.iar .add .i64) [(.v 27), (.c (.int 1))] <|
              (.op none (.iar .add .i64) [(.v 3), (.c (.int 1))] <|
              (.out 0 [(.v 35), (.v 36)]))))))))))))))))))))))))))))))))))))
      (.out 1 [(.v 2), (.v 3), (.v 3), (.v 4), (.v 5)])))))
(.out 0 [(.v 2)]))
def S241L0 (_G : Told) (x0 : D) : List D → Option (Nat × List D) := fun e2 =>
      (gev none .len [x0]).bind fun x4 =>
      (gev none (.icm .lss) [(e2.getD 1 .undef), x4]).bind fun x5 =>
      tif x5 (
        (gev none .idx [x0, (e2.getD 1 .undef)]).bind fun x6 =>
        (gev none (.proj 0) [x6]).bind fun x7 =>
        (gev none (.proj 1) [x6]).bind fun _x8 =>
        (gev none (.proj 2) [x6]).bind fun _x9 =>
        (gev none (.proj 3) [x6]).bind fun _x10 =>
        (gev none (.icm .neq) [x7, (e2.getD 0 .undef)]).bind fun x11 =>
        tif x11 (
          some (2, [(.int (-1))])) (
          (gev none (.iar .add .i64) [(e2.getD 0 .undef), (.int 1)]).bind fun x12 =>
          (gev none .idx [x0, (e2.getD 1 .undef)]).bind fun x13 =>
          (gev none (.proj 0) [x13]).bind fun _x14 =>
          (gev none (.proj 1) [x13]).bind fun x15 =>
          (gev none (.proj 2) [x13]).bind fun _x16 =>
          (gev none (.proj 3) [x13]).bind fun _x17 =>
          (gev none (.icm .neq) [x15, x12]).bind fun x18 =>
          tif x18 (
            some (2, [(.int (-1))])) (
            (gev none (.iar .add .i64) [x12, (.int 1)]).bind fun x19 =>
            (gev none .idx [x0, (e2.getD 1 .undef)]).bind fun x20 =>
            (gev none (.proj 0) [x20]).bind fun _x21 =>
            (gev none (.proj 1) [x20]).bind fun _x22 =>
            (gev none (.proj 2) [x20]).bind fun x23 =>
            (gev none (.proj 3) [x20]).bind fun _x24 =>
            (gev none (.i2f .f32) [x19]).bind fun x25 =>
            (gev none (.fcm .neq .f32) [x23, x25]).bind fun x26 =>
            tif x26 (
              some (2, [(.int (-1))])) (
              (gev none (.iar .add .i64) [x19, (.int 1)]).bind fun x27 =>
              (gev none .idx [x0, (e2.getD 1 .undef)]).bind fun x28 =>
              (gev none (.proj 0) [x28]).bind fun _x29 =>
              (gev none (.proj 1) [x28]).bind fun _x30 =>
              (gev none (.proj 2) [x28]).bind fun _x31 =>
              (gev none (.proj 3) [x28]).bind fun x32 =>
              (gev none (.i2f .f32) [x27]).bind fun x33 =>
              (gev none (.fcm .neq .f32) [x32, x33]).bind fun x34 =>
              tif x34 (
                some (2, [(.int (-1))])) (
                (gev none (.iar .add .i64) [x27, (.int 1)]).bind fun x35 =>
                (gev none (.iar .add .i64) [(e2.getD 1 .undef), (.int 1)]).bind fun x36 =>
                some (0, [x35, x36])))))) (
        some (1, [(e2.getD 0 .undef), (e2.getD 1 .undef), (e2.getD 1 .undef), x4, x5]))
def S241 (G : Told) (fuel : Nat) (x0 x1 : D) : Option (Nat × List D) :=
  tjoin 5 (
    iter (tbody 2 (S241L0 G x0)) fuel [x1, (.int 0)]) fun e2 =>
  some (0, [(e2.getD 0 .undef)])
theorem eq241 {G : Told} {fuel : Nat} (x0 x1 : D) : run G fuel T241 [x0, x1] = S241 G fuel x0 x1 := by
  rw [run_eq]; kernel_rfl

def T242 : T :=
(.join 5
  (.loop [(.v 1), (.c (.int 0))]
    (.op none .len [(.v 0)] <|
    (.op none (.icm .lss) [(.v 3), (.v 4)] <|
    (.ite (.v 5)
      (.op none .idx [(.v 0), (.v 3)] <|
      (.op none (.i2f .f32) [(.v 2)] <|
      (.op none (.fcm .neq .f32) [(.v 6), (.v 7)] <|
      (.ite (.v 8)
        (.out 2 [(.c (.int (-1)))])
        (.op none (.iar .add .i64) [(.v 2), (.c (.int 1))] <|
        (.op none (.iar .add .i64) [(.v 3), (.c (.int 1))] <|
        (.out 0 [(.v 9), (.v 10)])))))))
      (.out 1 [(.v 2), (.v 3), (.v 3), (.v 4), (.v 5)])))))
(.out 0 [(.v 2)]))
def S242L0 (_G : Told) (x0 : D) : List D → Option (Nat × List D) := fun e2 =>
      (gev none .len [x0]).bind fun x4 =>
      (gev none (.icm .lss) [(e2.getD 1 .undef), x4]).bind fun x5 =>
      tif x5 (
        (gev none .idx [x0, (e2.getD 1 .undef)]).bind fun x6 =>
        (gev none (.i2f .f32) [(e2.getD 0 .undef)]).bind fun x7 =>
        (gev none (.fcm .neq .f32) [x6, x7]).bind fun x8 =>
        tif x8 (
          some (2, [(.int (-1))])) (
          (gev none (.iar .add .i64) [(e2.getD 0 .undef), (.int 1)]).bind fun x9 =>
          (gev none (.iar .add .i64) [(e2.getD 1 .undef), (.int 1)]).bind fun x10 =>
          some (0, [x9, x10]))) (
        some (1, [(e2.getD 0 .undef), (e2.getD 1 .undef), (e2.getD 1 .undef), x4, x5]))
def S242 (G : Told) (fuel : Nat) (x0 x1 : D) : Option (Nat × List D) :=
  tjoin 5 (
    iter (tbody 2 (S242L0 G x0)) fuel [x1, (.int 0)]) fun e2 =>
  some (0, [(e2.getD 0 .undef)])
theorem eq242 {G : Told} {fuel : Nat} (x0 x1 : D) : run G fuel T242 [x0, x1] = S242 G fuel x0 x1 := by
  rw [run_eq]; kernel_rfl

def T243 : T :=
(.call none 148 [(.v 0), (.v 1), (.v 9)] 1 <|
(.op none (.icm .lss) [(.v 10), (.c (.int 0))] <|
(.ite (.v 11)
  (.out 0 [(.c (.int (-1)))])
  (.call none 241 [(.v 2), (.v 10)] 1 <|
  (.op none (.icm .lss) [(.v 12), (.c (.int 0))] <|
  (.ite (.v 13)
    (.out 0 [(.c (.int (-1)))])
    (.call none 242 [(.v 5), (.v 12)] 1 <|
    (.op none (.icm .lss) [(.v 14), (.c (.int 0))] <|
    (.ite (.v 15)
      (.out 0 [(.c (.int (-1)))])
      (.out 0 [(.v 14)]))))))))))
def S243 (G : Told) (_fuel : Nat) (x0 x1 x2 _x3 _x4 x5 _x6 _x7 _x8 x9 : D) : Option (Nat × List D) :=
  (gcall G none 148 [x0, x1, x9] 1).bind fun e10 =>
  (gev none (.icm .lss) [(e10.getD 0 .undef), (.int 0)]).bind fun x11 =>
  tif x11 (
    some (0, [(.int (-1))])) (
    (gcall G none 241 [x2, (e10.getD 0 .undef)] 1).bind fun e12 =>
    (gev none (.icm .lss) [(e12.getD 0 .undef), (.int 0)]).bind fun x13 =>
    tif x13 (
      some (0, [(.int (-1))])) (
      (gcall G none 242 [x5, (e12.getD 0 .undef)] 1).bind fun e14 =>
      (gev none (.icm .lss) [(e14.getD 0 .undef), (.int 0)]).bind fun x15 =>
      tif x15 (
        some (0, [(.int (-1))])) (
        some (0, [(e14.getD 0 .undef)]))))
theorem eq243 {G : Told} {fuel : Nat} (x0 x1 x2 x3 x4 x5 x6 x7 x8 x9 : D) : run G fuel T243 [x0, x1, x2, x3, x4, x5, x6, x7, x8, x9] = S243 G fuel x0 x1 x2 x3 x4 x5 x6 x7 x8 x9 := by
  rw [run_eq]; kernel_rfl

def T244 : T :=
(.call none 195 [(.v 0), (.v 1), (.v 2), (.v 3), (.v 4), (.v 5), (.v 6), (.v 7), (.v 8)] 1 <|
(.op none .bnot [(.v 10)] <|
(.ite (.v 11)
  (.out 0 [(.c (.bool false))])
  (.op none .len [(.v 9)] <|
  (.join 3
    (.loop [(.c (.int (-1))), (.c (.int 0))]
      (.op none (.icm .lss) [(.v 14), (.v 12)] <|
      (.ite (.v 15)
        (.op none .idx [(.v 9), (.v 14)] <|
        (.op none (.iar .add .i64) [(.v 13), (.c (.int 1))] <|
        (.op none .len [(.v 0)] <|
        (.op none (.iar .sub .i64) [(.v 18), (.c (.int 1))] <|
        (.call none 19 [(.v 16), (.v 17), (.v 19)] 1 <|
        (.op none .bnot [(.v 20)] <|
        (.ite (.v 21)
          (.out 2 [(.c (.bool false))])
          (.op none (.iar .add .i64) [(.v 14), (.c (.int 1))] <|
          (.out 0 [(.v 16), (.v 22)])))))))))
        (.out 1 [(.v 13), (.v 14), (.v 15)]))))
  (.out 0 [(.c (.bool true))]))))))
def S244L0 (G : Told) (x0 : D) (x9 : D) (x12 : D) : List D → Option (Nat × List D) := fun e13 =>
        (gev none (.icm .lss) [(e13.getD 1 .undef), x12]).bind fun x15 =>
        tif x15 (
          (gev none .idx [x9, (e13.getD 1 .undef)]).bind fun x16 =>
          (gev none (.iar .add .i64) [(e13.getD 0 .undef), (.int 1)]).bind fun x17 =>
          (gev none .len [x0]).bind fun x18 =>
          (gev none (.iar .sub .i64) [x18, (.int 1)]).bind fun x19 =>
          (gcall G none 19 [x16, x17, x19] 1).bind fun e20 =>
          (gev none .bnot [(e20.getD 0 .undef)]).bind fun x21 =>
          tif x21 (
            some (2, [(.bool false)])) (
            (gev none (.iar .add .i64) [(e13.getD 1 .undef), (.int 1)]).bind fun x22 =>
            some (0, [x16, x22]))) (
          some (1, [(e13.getD 0 .undef), (e13.getD 1 .undef), x15]))
def S244 (G : Told) (fuel : Nat) (x0 x1 x2 x3 x4 x5 x6 x7 x8 x9 : D) : Option (Nat × List D) :=
  (gcall G none 195 [x0, x1, x2, x3, x4, x5, x6, x7, x8] 1).bind fun e10 =>
  (gev none .bnot [(e10.getD 0 .undef)]).bind fun x11 =>
  tif x11 (
    some (0, [(.bool false)])) (
    (gev none .len [x9]).bind fun x12 =>
    tjoin 3 (
      iter (tbody 2 (S244L0 G x0 x9 x12)) fuel [(.int (-1)), (.int 0)]) fun _e13 =>
    some (0, [(.bool true)]))
theorem eq244 {G : Told} {fuel : Nat} (x0 x1 x2 x3 x4 x5 x6 x7 x8 x9 : D) : run G fuel T244 [x0, x1, x2, x3, x4, x5, x6, x7, x8, x9] = S244 G fuel x0 x1 x2 x3 x4 x5 x6 x7 x8 x9 := by
  rw [run_eq]; kernel_rfl

def T245 : T :=
(.op none .len [(.v 0)] <|
(.op none (.iar .sub .i64) [(.v 10), (.c (.int 1))] <|
(.call none 246 [(.v 9), (.c (.int 0)), (.v 11)] 1 <|
(.out 0 [(.v 12)]))))
def S245 (G : Told) (_fuel : Nat) (x0 _x1 _x2 _x3 _x4 _x5 _x6 _x7 _x8 x9 : D) : Option (Nat × List D) :=
  (gev none .len [x0]).bind fun x10 =>
  (gev none (.iar .sub .i64) [x10, (.int 1)]).bind fun x11 =>
  (gcall G none 246 [x9, (.int 0), x11] 1).bind fun e12 =>
  some (0, [(e12.getD 0 .undef)])
theorem eq245 {G : Told} {fuel : Nat} (x0 x1 x2 x3 x4 x5 x6 x7 x8 x9 : D) : run G fuel T245 [x0, x1, x2, x3, x4, x5, x6, x7, x8, x9] = S245 G fuel x0 x1 x2 x3 x4 x5 x6 x7 x8 x9 := by
  rw [run_eq]; kernel_rfl

def T246 : T :=
(.join 4
  (.loop [(.c (.int 0))]
    (.op none .len [(.v 0)] <|
    (.op none (.icm .lss) [(.v 3), (.v 4)] <|
    (.ite (.v 5)
      (.op none .idx [(.v 0), (.v 3)] <|
      (.call none 19 [(.v 6), (.v 1), (.v 2)] 1 <|
      (.op none .bnot [(.v 7)] <|
      (.op (some ((.v 8), false)) .id [(.v 3)] <|
      (.op (some ((.v 8), false)) (.icm .gtr) [(.v 9), (.c (.int 0))] <|
      (.op (some ((.v 8), false)) .id [(.v 10)] <|
      (.op (some ((.v 11), true)) .id [(.v 0)] <|
      (.op (some ((.v 11), true)) .id [(.v 3)] <|
      (.op (some ((.v 11), true)) (.iar .sub .i64) [(.v 13), (.c (.int 1))] <|
      (.op (some ((.v 11), true)) .idx [(.v 12), (.v 14)] <|
      (.op (some ((.v 11), true)) .id [(.v 15)] <|
      (.op (some ((.v 11), true)) .id [(.v 0)] <|
      (.op (some ((.v 11), true)) .id [(.v 3)] <|
      (.op (some ((.v 11), true)) .idx [(.v 17), (.v 18)] <|
      (.op (some ((.v 11), true)) .id [(.v 19)] <|
      (.op (some ((.v 11), true)) (.icm .geq) [(.v 16), (.v 20)] <|
      (.op (some ((.v 8), false)) .pick [(.v 11), (.v 21), (.c (.bool false))] <|
      (.op none .pick [(.v 8), (.c (.bool true)), (.v 22)] <|
      (.ite (.v 23)
        (.out 2 [(.c (.bool false))])
        (.op none (.iar .add .i64) [(.v 3), (.c (.int 1))] <|
        (.out 0 [(.v 24)])))))))))))))))))))))
      (.out 1 [(.v 3), (.v 3), (.v 4), (.v 5)])))))
(.out 0 [(.c (.bool true))]))
def S246L0 (G : Told) (x0 : D) (x1 : D) (x2 : D) : List D → Option (Nat × List D) := fun e3 =>
      (gev none .len [x0]).bind fun x4 =>
      (gev none (.icm .lss) [(e3.getD 0 .undef), x4]).bind fun x5 =>
      tif x5 (
        (gev none .idx [x0, (e3.getD 0 .undef)]).bind fun x6 =>
        (gcall G none 19 [x6, x1, x2] 1).bind fun e7 =>
        (gev none .bnot [(e7.getD 0 .undef)]).bind fun x8 =>
        (gev (some (x8, false)) .id [(e3.getD 0 .undef)]).bind fun x9 =>
        (gev (some (x8, false)) (.icm .gtr) [x9, (.int 0)]).bind fun x10 =>
        (gev (some (x8, false)) .id [x10]).bind fun x11 =>
        (gev (some (x11, true)) .id [x0]).bind fun x12 =>
        (gev (some (x11, true)) .id [(e3.getD 0 .undef)]).bind fun x13 =>
        (gev (some (x11, true)) (.iar .sub .i64) [x13, (.int 1)]).bind fun x14 =>
        (gev (some (x11, true)) .idx [x12, x14]).bind fun x15 =>
        (gev (some (x11, true)) .id [x15]).bind fun x16 =>
        (gev (some (x11, true)) .id [x0]).bind fun x17 =>
        (gev (some (x11, true)) .id [(e3.getD 0 .undef)]).bind fun x18 =>
        (gev (some (x11, true)) .idx [x17, x18]).bind fun x19 =>
        (gev (some (x11, true)) .id [x19]).bind fun x20 =>
        (gev (some (x11, true)) (.icm .geq) [x16, x20]).bind fun x21 =>
        (gev (some (x8, false)) .pick [x11, x21, (.bool false)]).bind fun x22 =>
        (gev none .pick [x8, (.bool true), x22]).bind fun x23 =>
        tif x23 (
          some (2, [(.bool false)])) (
          (gev none (.iar .add .i64) [(e3.getD 0 .undef), (.int 1)]).bind fun x24 =>
          some (0, [x24]))) (
        some (1, [(e3.getD 0 .undef), (e3.getD 0 .undef), x4, x5]))
def S246 (G : Told) (fuel : Nat) (x0 x1 x2 : D) : Option (Nat × List D) :=
  tjoin 4 (
    iter (tbody 1 (S246L0 G x0 x1 x2)) fuel [(.int 0)]) fun _e3 =>
  some (0, [(.bool true)])
theorem eq246 {G : Told} {fuel : Nat} (x0 x1 x2 : D) : run G fuel T246 [x0, x1, x2] = S246 G fuel x0 x1 x2 := by
  rw [run_eq]; kernel_rfl

def T247 : T :=
(.call none 244 [(.v 0), (.v 1), (.v 2), (.v 3), (.v 4), (.v 5), (.v 6), (.v 7), (.v 8), (.v 9)] 1 <|
(.op (some ((.v 11), true)) .id [(.v 10)] <|
(.op (some ((.v 11), true)) .id [(.v 2)] <|
(.op (some ((.v 11), true)) .len [(.v 13)] <|
(.op (some ((.v 11), true)) (.iar .sub .i64) [(.v 14), (.c (.int 1))] <|
(.call (some ((.v 11), true)) 19 [(.v 12), (.c (.int 0)), (.v 15)] 1 <|
(.op none .pick [(.v 11), (.v 16), (.c (.bool false))] <|
(.out 0 [(.v 17)]))))))))
def S247 (G : Told) (_fuel : Nat) (x0 x1 x2 x3 x4 x5 x6 x7 x8 x9 x10 : D) : Option (Nat × List D) :=
  (gcall G none 244 [x0, x1, x2, x3, x4, x5, x6, x7, x8, x9] 1).bind fun e11 =>
  (gev (some ((e11.getD 0 .undef), true)) .id [x10]).bind fun x12 =>
  (gev (some ((e11.getD 0 .undef), true)) .id [x2]).bind fun x13 =>
  (gev (some ((e11.getD 0 .undef), true)) .len [x13]).bind fun x14 =>
  (gev (some ((e11.getD 0 .undef), true)) (.iar .sub .i64) [x14, (.int 1)]).bind fun x15 =>
  (gcall G (some ((e11.getD 0 .undef), true)) 19 [x12, (.int 0), x15] 1).bind fun e16 =>
  (gev none .pick [(e11.getD 0 .undef), (e16.getD 0 .undef), (.bool false)]).bind fun x17 =>
  some (0, [x17])
theorem eq247 {G : Told} {fuel : Nat} (x0 x1 x2 x3 x4 x5 x6 x7 x8 x9 x10 : D) : run G fuel T247 [x0, x1, x2, x3, x4, x5, x6, x7, x8, x9, x10] = S247 G fuel x0 x1 x2 x3 x4 x5 x6 x7 x8 x9 x10 := by
  rw [run_eq]; kernel_rfl

def T248 : T :=
(.call none 151 [(.v 0), (.v 1)] 2 <|
(.op none .mklst [] <|
(.op none .app [(.v 11), (.v 2)] <|
(.op none .mklst [] <|
(.op none .app [(.v 13), (.v 5)] <|
(.out 0 [(.v 9), (.v 10), (.v 12), (.v 3), (.v 4), (.v 14), (.v 6), (.v 7), (.v 8)]))))))
def S248 (G : Told) (_fuel : Nat) (x0 x1 x2 x3 x4 x5 x6 x7 x8 : D) : Option (Nat × List D) :=
  (gcall G none 151 [x0, x1] 2).bind fun e9 =>
  (gev none .mklst []).bind fun x11 =>
  (gev none .app [x11, x2]).bind fun x12 =>
  (gev none .mklst []).bind fun x13 =>
  (gev none .app [x13, x5]).bind fun x14 =>
  some (0, [(e9.getD 0 .undef), (e9.getD 1 .undef), x12, x3, x4, x14, x6, x7, x8])
theorem eq248 {G : Told} {fuel : Nat} (x0 x1 x2 x3 x4 x5 x6 x7 x8 : D) : run G fuel T248 [x0, x1, x2, x3, x4, x5, x6, x7, x8] = S248 G fuel x0 x1 x2 x3 x4 x5 x6 x7 x8 := by
  rw [run_eq]; kernel_rfl

def T249 : T :=
(.op none .len [(.v 0)] <|
(.op none .rep [(.v 10), (.c (.bool false))] <|
(.op none .len [(.v 9)] <|
(.join 3
  (.loop [(.v 11), (.c (.int 0))]
    (.op none (.icm .lss) [(.v 14), (.v 12)] <|
    (.ite (.v 15)
      (.op none .idx [(.v 9), (.v 14)] <|
      (.op none .idx [(.v 13), (.v 16)] <|
      (.op none .set [(.v 13), (.v 16), (.c (.bool true))] <|
      (.op none (.iar .add .i64) [(.v 14), (.c (.int 1))] <|
      (.out 0 [(.v 18), (.v 19)])))))
      (.out 1 [(.v 13), (.v 14), (.v 15)]))))
(.out 0 [(.v 13)])))))
def S249L0 (_G : Told) (x9 : D) (x12 : D) : List D → Option (Nat × List D) := fun e13 =>
      (gev none (.icm .lss) [(e13.getD 1 .undef), x12]).bind fun x15 =>
      tif x15 (
        (gev none .idx [x9, (e13.getD 1 .undef)]).bind fun x16 =>
        (gev none .idx [(e13.getD 0 .undef), x16]).bind fun _x17 =>
        (gev none .set [(e13.getD 0 .undef), x16, (.bool true)]).bind fun x18 =>
        (gev none (.iar .add .i64) [(e13.getD 1 .undef), (.int 1)]).bind fun x19 =>
        some (0, [x18, x19])) (
        some (1, [(e13.getD 0 .undef), (e13.getD 1 .undef), x15]))
def S249 (G : Told) (fuel : Nat) (x0 _x1 _x2 _x3 _x4 _x5 _x6 _x7 _x8 x9 : D) : Option (Nat × List D) :=
  (gev none .len [x0]).bind fun x10 =>
  (gev none .rep [x10, (.bool false)]).bind fun x11 =>
  (gev none .len [x9]).bind fun x12 =>
  tjoin 3 (
    iter (tbody 2 (S249L0 G x9 x12)) fuel [x11, (.int 0)]) fun e13 =>
  some (0, [(e13.getD 0 .undef)])
theorem eq249 {G : Told} {fuel : Nat} (x0 x1 x2 x3 x4 x5 x6 x7 x8 x9 : D) : run G fuel T249 [x0, x1, x2, x3, x4, x5, x6, x7, x8, x9] = S249 G fuel x0 x1 x2 x3 x4 x5 x6 x7 x8 x9 := by
  rw [run_eq]; kernel_rfl

def T250 : T :=
(.op none .idx [(.v 0), (.v 2)] <|
(.op none .idx [(.v 0), (.v 2)] <|
(.op none (.proj 0) [(.v 7)] <|
(.op none (.proj 1) [(.v 7)] <|
(.op none (.proj 2) [(.v 7)] <|
(.op none .idx [(.v 0), (.v 1)] <|
(.op none .idx [(.v 0), (.v 1)] <|
(.op none (.proj 0) [(.v 12)] <|
(.op none (.proj 1) [(.v 12)] <|
(.op none (.proj 2) [(.v 12)] <|
(.call none 13 [(.v 8), (.v 9), (.v 10), (.v 13), (.v 14), (.v 15)] 3 <|
(.call none 15 [(.v 16), (.v 17), (.v 18)] 1 <|
(.op none (.fcm .gtr .f32) [(.v 19), (.c (.flt 0))] <|
(.join 1
  (.ite (.v 20)
    (.op none (.far .sub .f32) [(.v 19), (.v 3)] <|
    (.op none (.far .quo .f32) [(.v 21), (.v 19)] <|
    (.out 0 [(.v 22)])))
    (.out 0 [(.c (.flt 0))]))
(.op none .idx [(.v 5), (.v 1)] <|
(.op none .bnot [(.v 22)] <|
(.op (some ((.v 23), true)) .id [(.v 5)] <|
(.op (some ((.v 23), true)) .id [(.v 2)] <|
(.op (some ((.v 23), true)) .idx [(.v 24), (.v 25)] <|
(.op (some ((.v 23), true)) .id [(.v 26)] <|
(.op (some ((.v 23), true)) .bnot [(.v 27)] <|
(.op none .pick [(.v 23), (.v 28), (.c (.bool false))] <|
(.join 1
  (.ite (.v 29)
    (.op none (.far .mul .f32) [(.c (.flt 1056964608)), (.v 21)] <|
    (.out 0 [(.v 30)]))
    (.out 0 [(.v 21)]))
(.op none .idx [(.v 5), (.v 1)] <|
(.op none .bnot [(.v 31)] <|
(.join 1
  (.ite (.v 32)
    (.op none .idx [(.v 0), (.v 1)] <|
    (.op none .idx [(.v 0), (.v 1)] <|
    (.op none (.proj 0) [(.v 34)] <|
    (.op none (.proj 1) [(.v 34)] <|
    (.op none (.proj 2) [(.v 34)] <|
    (.call none 31 [(.v 16), (.v 17), (.v 18), (.v 30)] 3 <|
    (.call none 30 [(.v 35), (.v 36), (.v 37), (.v 38), (.v 39), (.v 40)] 3 <|
    (.op none .idx [(.v 0), (.v 1)] <|
    (.op none .mkagg [(.v 41), (.v 42), (.v 43)] <|
    (.op none .set [(.v 0), (.v 1), (.v 45)] <|
    (.out 0 [(.v 46)])))))))))))
    (.out 0 [(.v 0)]))
(.op none .idx [(.v 5), (.v 2)] <|
(.op none .bnot [(.v 34)] <|
(.join 1
  (.ite (.v 35)
    (.op none .idx [(.v 33), (.v 2)] <|
    (.op none .idx [(.v 33), (.v 2)] <|
    (.op none (.proj 0) [(.v 37)] <|
    (.op none (.proj 1) [(.v 37)] <|
    (.op none (.proj 2) [(.v 37)] <|
    (.op none (.fneg .f32) [(.v 30)] <|
    (.call none 31 [(.v 16), (.v 17), (.v 18), (.v 41)] 3 <|
    (.call none 30 [(.v 38), (.v 39), (.v 40), (.v 42), (.v 43), (.v 44)] 3 <|
    (.op none .idx [(.v 33), (.v 2)] <|
    (.op none .mkagg [(.v 45), (.v 46), (.v 47)] <|
    (.op none .set [(.v 33), (.v 2), (.v 49)] <|
    (.out 0 [(.v 50)]))))))))))))
    (.out 0 [(.v 33)]))
(.out 0 [(.v 36)]))))))))))))))))))))))))))))))
def S250 (G : Told) (_fuel : Nat) (x0 x1 x2 x3 _x4 x5 : D) : Option (Nat × List D) :=
  (gev none .idx [x0, x2]).bind fun _x6 =>
  (gev none .idx [x0, x2]).bind fun x7 =>
  (gev none (.proj 0) [x7]).bind fun x8 =>
  (gev none (.proj 1) [x7]).bind fun x9 =>
  (gev none (.proj 2) [x7]).bind fun x10 =>
  (gev none .idx [x0, x1]).bind fun _x11 =>
  (gev none .idx [x0, x1]).bind fun x12 =>
  (gev none (.proj 0) [x12]).bind fun x13 =>
  (gev none (.proj 1) [x12]).bind fun x14 =>
  (gev none (.proj 2) [x12]).bind fun x15 =>
  (gcall G none 13 [x8, x9, x10, x13, x14, x15] 3).bind fun e16 =>
  (gcall G none 15 [(e16.getD 0 .undef), (e16.getD 1 .undef), (e16.getD 2 .undef)] 1).bind fun e19 =>
  (gev none (.fcm .gtr .f32) [(e19.getD 0 .undef), (.flt 0)]).bind fun x20 =>
  tjoin 1 (
    tif x20 (
      (gev none (.far .sub .f32) [(e19.getD 0 .undef), x3]).bind fun x21 =>
      (gev none (.far .quo .f32) [x21, (e19.getD 0 .undef)]).bind fun x22 =>
      some (0, [x22])) (
      some (0, [(.flt 0)]))) fun e21 =>
  (gev none .idx [x5, x1]).bind fun x22 =>
  (gev none .bnot [x22]).bind fun x23 =>
  (gev (some (x23, true)) .id [x5]).bind fun x24 =>
  (gev (some (x23, true)) .id [x2]).bind fun x25 =>
  (gev (some (x23, true)) .idx [x24, x25]).bind fun x26 =>
  (gev (some (x23, true)) .id [x26]).bind fun x27 =>
  (gev (some (x23, true)) .bnot [x27]).bind fun x28 =>
  (gev none .pick [x23, x28, (.bool false)]).bind fun x29 =>
  tjoin 1 (
    tif x29 (
      (gev none (.far .mul .f32) [(.flt 1056964608), (e21.getD 0 .undef)]).bind fun x30 =>
      some (0, [x30])) (
      some (0, [(e21.getD 0 .undef)]))) fun e30 =>
  (gev none .idx [x5, x1]).bind fun x31 =>
  (gev none .bnot [x31]).bind fun x32 =>
  tjoin 1 (
    tif x32 (
      (gev none .idx [x0, x1]).bind fun _x33 =>
      (gev none .idx [x0, x1]).bind fun x34 =>
      (gev none (.proj 0) [x34]).bind fun x35 =>
      (gev none (.proj 1) [x34]).bind fun x36 =>
      (gev none (.proj 2) [x34]).bind fun x37 =>
      (gcall G none 31 [(e16.getD 0 .undef), (e16.getD 1 .undef), (e16.getD 2 .undef), (e30.getD 0 .undef)] 3).bind fun e38 =>
      (gcall G none 30 [x35, x36, x37, (e38.getD 0 .undef), (e38.getD 1 .undef), (e38.getD 2 .undef)] 3).bind fun e41 =>
      (gev none .idx [x0, x1]).bind fun _x44 =>
      (gev none .mkagg [(e41.getD 0 .undef), (e41.getD 1 .undef), (e41.getD 2 .undef)]).bind fun x45 =>
      (gev none .set [x0, x1, x45]).bind fun x46 =>
      some (0, [x46])) (
      some (0, [x0]))) fun e33 =>
  (gev none .idx [x5, x2]).bind fun x34 =>
  (gev none .bnot [x34]).bind fun x35 =>
  tjoin 1 (
    tif x35 (
      (gev none .idx [(e33.getD 0 .undef), x2]).bind fun _x36 =>
      (gev none .idx [(e33.getD 0 .undef), x2]).bind fun x37 =>
      (gev none (.proj 0) [x37]).bind fun x38 =>
      (gev none (.proj 1) [x37]).bind fun x39 =>
      (gev none (.proj 2) [x37]).bind fun x40 =>
      (gev none (.fneg .f32) [(e30.getD 0 .undef)]).bind fun x41 =>
      (gcall G none 31 [(e16.getD 0 .undef), (e16.getD 1 .undef), (e16.getD 2 .undef), x41] 3).bind fun e42 =>
      (gcall G none 30 [x38, x39, x40, (e42.getD 0 .undef), (e42.getD 1 .undef), (e42.getD 2 .undef)] 3).bind fun e45 =>
      (gev none .idx [(e33.getD 0 .undef), x2]).bind fun _x48 =>
      (gev none .mkagg [(e45.getD 0 .undef), (e45.getD 1 .undef), (e45.getD 2 .undef)]).bind fun x49 =>
      (gev none .set [(e33.getD 0 .undef), x2, x49]).bind fun x50 =>
      some (0, [x50])) (
      some (0, [(e33.getD 0 .undef)]))) fun e36 =>
  some (0, [(e36.getD 0 .undef)])
theorem eq250 {G : Told} {fuel : Nat} (x0 x1 x2 x3 x4 x5 : D) : run G fuel T250 [x0, x1, x2, x3, x4, x5] = S250 G fuel x0 x1 x2 x3 x4 x5 := by
  rw [run_eq]; kernel_rfl

def T251 : T :=
(.op none .idx [(.v 2), (.v 10)] <|
(.op none .idx [(.v 2), (.v 10)] <|
(.op none (.proj 0) [(.v 12)] <|
(.op none (.proj 1) [(.v 12)] <|
(.op none (.proj 2) [(.v 12)] <|
(.op none (.proj 3) [(.v 12)] <|
(.op none .idx [(.v 0), (.v 13)] <|
(.op none .idx [(.v 0), (.v 13)] <|
(.op none (.proj 0) [(.v 18)] <|
(.op none (.proj 1) [(.v 18)] <|
(.op none (.proj 2) [(.v 18)] <|
(.op none .idx [(.v 2), (.v 10)] <|
(.op none (.proj 0) [(.v 22)] <|
(.op none (.proj 1) [(.v 22)] <|
(.op none (.proj 2) [(.v 22)] <|
(.op none (.proj 3) [(.v 22)] <|
(.op none .idx [(.v 0), (.v 24)] <|
(.op none .idx [(.v 0), (.v 24)] <|
(.op none (.proj 0) [(.v 28)] <|
(.op none (.proj 1) [(.v 28)] <|
(.op none (.proj 2) [(.v 28)] <|
(.call none 13 [(.v 29), (.v 30), (.v 31), (.v 19), (.v 20), (.v 21)] 3 <|
(.call none 15 [(.v 32), (.v 33), (.v 34)] 1 <|
(.op none .idx [(.v 2), (.v 10)] <|
(.op none (.proj 0) [(.v 36)] <|
(.op none (.proj 1) [(.v 36)] <|
(.op none (.proj 2) [(.v 36)] <|
(.op none (.proj 3) [(.v 36)] <|
(.op none (.far .sub .f32) [(.v 35), (.v 39)] <|
(.call none 126 [(.v 41), (.v 35)] 1 <|
(.op none .idx [(.v 2), (.v 10)] <|
(.op none (.proj 0) [(.v 43)] <|
(.op none (.proj 1) [(.v 43)] <|
(.op none (.proj 2) [(.v 43)] <|
(.op none (.proj 3) [(.v 43)] <|
(.call none 205 [(.v 9), (.v 44)] 1 <|
(.op none .idx [(.v 2), (.v 10)] <|
(.op none (.proj 0) [(.v 49)] <|
(.op none (.proj 1) [(.v 49)] <|
(.op none (.proj 2) [(.v 49)] <|
(.op none (.proj 3) [(.v 49)] <|
(.call none 205 [(.v 9), (.v 51)] 1 <|
(.op none .bnot [(.v 48)] <|
(.op (some ((.v 55), true)) .id [(.v 54)] <|
(.op (some ((.v 55), true)) .bnot [(.v 56)] <|
(.op none .pick [(.v 55), (.v 57), (.c (.bool false))] <|
(.join 1
  (.ite (.v 58)
    (.op none (.far .mul .f32) [(.c (.flt 1056964608)), (.v 42)] <|
    (.out 0 [(.v 59)]))
    (.out 0 [(.v 42)]))
(.op none .bnot [(.v 48)] <|
(.join 1
  (.ite (.v 60)
    (.op none .idx [(.v 2), (.v 10)] <|
    (.op none (.proj 0) [(.v 61)] <|
    (.op none (.proj 1) [(.v 61)] <|
    (.op none (.proj 2) [(.v 61)] <|
    (.op none (.proj 3) [(.v 61)] <|
    (.call none 31 [(.v 32), (.v 33), (.v 34), (.v 59)] 3 <|
    (.call none 30 [(.v 19), (.v 20), (.v 21), (.v 66), (.v 67), (.v 68)] 3 <|
    (.op none .idx [(.v 0), (.v 62)] <|
    (.op none .mkagg [(.v 69), (.v 70), (.v 71)] <|
    (.op none .set [(.v 0), (.v 62), (.v 73)] <|
    (.out 0 [(.v 74)])))))))))))
    (.out 0 [(.v 0)]))
(.op none .bnot [(.v 54)] <|
(.join 1
  (.ite (.v 62)
    (.op none .idx [(.v 2), (.v 10)] <|
    (.op none (.proj 0) [(.v 63)] <|
    (.op none (.proj 1) [(.v 63)] <|
    (.op none (.proj 2) [(.v 63)] <|
    (.op none (.proj 3) [(.v 63)] <|
    (.op none (.fneg .f32) [(.v 59)] <|
    (.call none 31 [(.v 32), (.v 33), (.v 34), (.v 68)] 3 <|
    (.call none 30 [(.v 29), (.v 30), (.v 31), (.v 69), (.v 70), (.v 71)] 3 <|
    (.op none .idx [(.v 61), (.v 65)] <|
    (.op none .mkagg [(.v 72), (.v 73), (.v 74)] <|
    (.op none .set [(.v 61), (.v 65), (.v 76)] <|
    (.out 0 [(.v 77)]))))))))))))
    (.out 0 [(.v 61)]))
(.out 0 [(.v 63), (.v 1), (.v 2), (.v 5)]))))))))))))))))))))))))))))))))))))))))))))))))))))
def S251 (G : Told) (_fuel : Nat) (x0 x1 x2 _x3 _x4 x5 _x6 _x7 _x8 x9 x10 : D) : Option (Nat × List D) :=
  (gev none .idx [x2, x10]).bind fun _x11 =>
  (gev none .idx [x2, x10]).bind fun x12 =>
  (gev none (.proj 0) [x12]).bind fun x13 =>
  (gev none (.proj 1) [x12]).bind fun _x14 =>
  (gev none (.proj 2) [x12]).bind fun _x15 =>
  (gev none (.proj 3) [x12]).bind fun _x16 =>
  (gev none .idx [x0, x13]).bind fun _x17 =>
  (gev none .idx [x0, x13]).bind fun x18 =>
  (gev none (.proj 0) [x18]).bind fun x19 =>
  (gev none (.proj 1) [x18]).bind fun x20 =>
  (gev none (.proj 2) [x18]).bind fun x21 =>
  (gev none .idx [x2, x10]).bind fun x22 =>
  (gev none (.proj 0) [x22]).bind fun _x23 =>
  (gev none (.proj 1) [x22]).bind fun x24 =>
  (gev none (.proj 2) [x22]).bind fun _x25 =>
  (gev none (.proj 3) [x22]).bind fun _x26 =>
  (gev none .idx [x0, x24]).bind fun _x27 =>
  (gev none .idx [x0, x24]).bind fun x28 =>
  (gev none (.proj 0) [x28]).bind fun x29 =>
  (gev none (.proj 1) [x28]).bind fun x30 =>
  (gev none (.proj 2) [x28]).bind fun x31 =>
  (gcall G none 13 [x29, x30, x31, x19, x20, x21] 3).bind fun e32 =>
  (gcall G none 15 [(e32.getD 0 .undef), (e32.getD 1 .undef), (e32.getD 2 .undef)] 1).bind fun e35 =>
  (gev none .idx [x2, x10]).bind fun x36 =>
  (gev none (.proj 0) [x36]).bind fun _x37 =>
  (gev none (.proj 1) [x36]).bind fun _x38 =>
  (gev none (.proj 2) [x36]).bind fun x39 =>
  (gev none (.proj 3) [x36]).bind fun _x40 =>
  (gev none (.far .sub .f32) [(e35.getD 0 .undef), x39]).bind fun x41 =>
  (gcall G none 126 [x41, (e35.getD 0 .undef)] 1).bind fun e42 =>
  (gev none .idx [x2, x10]).bind fun x43 =>
  (gev none (.proj 0) [x43]).bind fun x44 =>
  (gev none (.proj 1) [x43]).bind fun _x45 =>
  (gev none (.proj 2) [x43]).bind fun _x46 =>
  (gev none (.proj 3) [x43]).bind fun _x47 =>
  (gcall G none 205 [x9, x44] 1).bind fun e48 =>
  (gev none .idx [x2, x10]).bind fun x49 =>
  (gev none (.proj 0) [x49]).bind fun _x50 =>
  (gev none (.proj 1) [x49]).bind fun x51 =>
  (gev none (.proj 2) [x49]).bind fun _x52 =>
  (gev none (.proj 3) [x49]).bind fun _x53 =>
  (gcall G none 205 [x9, x51] 1).bind fun e54 =>
  (gev none .bnot [(e48.getD 0 .undef)]).bind fun x55 =>
  (gev (some (x55, true)) .id [(e54.getD 0 .undef)]).bind fun x56 =>
  (gev (some (x55, true)) .bnot [x56]).bind fun x57 =>
  (gev none .pick [x55, x57, (.bool false)]).bind fun x58 =>
  tjoin 1 (
    tif x58 (
      (gev none (.far .mul .f32) [(.flt 1056964608), (e42.getD 0 .undef)]).bind fun x59 =>
      some (0, [x59])) (
      some (0, [(e42.getD 0 .undef)]))) fun e59 =>
  (gev none .bnot [(e48.getD 0 .undef)]).bind fun x60 =>
  tjoin 1 (
    tif x60 (
      (gev none .idx [x2, x10]).bind fun x61 =>
      (gev none (.proj 0) [x61]).bind fun x62 =>
      (gev none (.proj 1) [x61]).bind fun _x63 =>
      (gev none (.proj 2) [x61]).bind fun _x64 =>
      (gev none (.proj 3) [x61]).bind fun _x65 =>
      (gcall G none 31 [(e32.getD 0 .undef), (e32.getD 1 .undef), (e32.getD 2 .undef), (e59.getD 0 .undef)] 3).bind fun e66 =>
      (gcall G none 30 [x19, x20, x21, (e66.getD 0 .undef), (e66.getD 1 .undef), (e66.getD 2 .undef)] 3).bind fun e69 =>
      (gev none .idx [x0, x62]).bind fun _x72 =>
      (gev none .mkagg [(e69.getD 0 .undef), (e69.getD 1 .undef), (e69.getD 2 .undef)]).bind fun x73 =>
      (gev none .set [x0, x62, x73]).bind fun x74 =>
      some (0, [x74])) (
      some (0, [x0]))) fun e61 =>
  (gev none .bnot [(e54.getD 0 .undef)]).bind fun x62 =>
  tjoin 1 (
    tif x62 (
      (gev none .idx [x2, x10]).bind fun x63 =>
      (gev none (.proj 0) [x63]).bind fun _x64 =>
      (gev none (.proj 1) [x63]).bind fun x65 =>
      (gev none (.proj 2) [x63]).bind fun _x66 =>
      (gev none (.proj 3) [x63]).bind fun _x67 =>
      (gev none (.fneg .f32) [(e59.getD 0 .undef)]).bind fun x68 =>
      (gcall G none 31 [(e32.getD 0 .undef), (e32.getD 1 .undef), (e32.getD 2 .undef), x68] 3).bind fun e69 =>
      (gcall G none 30 [x29, x30, x31, (e69.getD 0 .undef), (e69.getD 1 .undef), (e69.getD 2 .undef)] 3).bind fun e72 =>
      (gev none .idx [(e61.getD 0 .undef), x65]).bind fun _x75 =>
      (gev none .mkagg [(e72.getD 0 .undef), (e72.getD 1 .undef), (e72.getD 2 .undef)]).bind fun x76 =>
      (gev none .set [(e61.getD 0 .undef), x65, x76]).bind fun x77 =>
      some (0, [x77])) (
      some (0, [(e61.getD 0 .undef)]))) fun e63 =>
  some (0, [(e63.getD 0 .undef), x1, x2, x5])
theorem eq251 {G : Told} {fuel : Nat} (x0 x1 x2 x3 x4 x5 x6 x7 x8 x9 x10 : D) : run G fuel T251 [x0, x1, x2, x3, x4, x5, x6, x7, x8, x9, x10] = S251 G fuel x0 x1 x2 x3 x4 x5 x6 x7 x8 x9 x10 := by
  rw [run_eq]; kernel_rfl

def T252 : T :=
(.call none 247 [(.v 0), (.v 1), (.v 2), (.v 3), (.v 4), (.v 5), (.v 6), (.v 7), (.v 8), (.v 9), (.v 10)] 1 <|
(.op none .bnot [(.v 11)] <|
(.ite (.v 12)
  (.out 0 [(.c (.lst [])), (.c (.lst [])), (.c (.lst [])), (.c (.flt 0)), (.c (.flt 0)), (.c (.lst [])), (.c (.flt 0)), (.c (.flt 0)), (.c (.flt 0)), (.c (.bool false))])
  (.call none 248 [(.v 0), (.v 1), (.v 2), (.v 3), (.v 4), (.v 5), (.v 6), (.v 7), (.v 8)] 9 <|
  (.op none .idx [(.v 2), (.v 10)] <|
  (.op none (.proj 0) [(.v 22)] <|
  (.op none (.proj 1) [(.v 22)] <|
  (.op none (.proj 2) [(.v 22)] <|
  (.op none (.proj 3) [(.v 22)] <|
  (.call none 249 [(.v 0), (.v 1), (.v 2), (.v 3), (.v 4), (.v 5), (.v 6), (.v 7), (.v 8), (.v 9)] 1 <|
  (.call none 250 [(.v 13), (.v 23), (.v 24), (.v 25), (.v 26), (.v 27)] 1 <|
  (.out 0 [(.v 28), (.v 14), (.v 15), (.v 16), (.v 17), (.v 18), (.v 19), (.v 20), (.v 21), (.c (.bool true))]))))))))))))
def S252 (G : Told) (_fuel : Nat) (x0 x1 x2 x3 x4 x5 x6 x7 x8 x9 x10 : D) : Option (Nat × List D) :=
  (gcall G none 247 [x0, x1, x2, x3, x4, x5, x6, x7, x8, x9, x10] 1).bind fun e11 =>
  (gev none .bnot [(e11.getD 0 .undef)]).bind fun x12 =>
  tif x12 (
    some (0, [(.lst []), (.lst []), (.lst []), (.flt 0), (.flt 0), (.lst []), (.flt 0), (.flt 0), (.flt 0), (.bool false)])) (
    (gcall G none 248 [x0, x1, x2, x3, x4, x5, x6, x7, x8] 9).bind fun e13 =>
    (gev none .idx [x2, x10]).bind fun x22 =>
    (gev none (.proj 0) [x22]).bind fun x23 =>
    (gev none (.proj 1) [x22]).bind fun x24 =>
    (gev none (.proj 2) [x22]).bind fun x25 =>
    (gev none (.proj 3) [x22]).bind fun x26 =>
    (gcall G none 249 [x0, x1, x2, x3, x4, x5, x6, x7, x8, x9] 1).bind fun e27 =>
    (gcall G none 250 [(e13.getD 0 .undef), x23, x24, x25, x26, (e27.getD 0 .undef)] 1).bind fun e28 =>
    some (0, [(e28.getD 0 .undef), (e13.getD 1 .undef), (e13.getD 2 .undef), (e13.getD 3 .undef), (e13.getD 4 .undef), (e13.getD 5 .undef), (e13.getD 6 .undef), (e13.getD 7 .undef), (e13.getD 8 .undef), (.bool true)]))
theorem eq252 {G : Told} {fuel : Nat} (x0 x1 x2 x3 x4 x5 x6 x7 x8 x9 x10 : D) : run G fuel T252 [x0, x1, x2, x3, x4, x5, x6, x7, x8, x9, x10] = S252 G fuel x0 x1 x2 x3 x4 x5 x6 x7 x8 x9 x10 := by
  rw [run_eq]; kernel_rfl

def T252s : T :=
(.call none 195 [(.v 0), (.v 1), (.v 2), (.v 3), (.v 4), (.v 5), (.v 6), (.v 7), (.v 8)] 1 <|
(.op none .bnot [(.v 11)] <|
(.op (some ((.v 12), false)) .id [(.v 9)] <|
(.call (some ((.v 12), false)) 245 [(.v 0), (.v 1), (.v 2), (.v 3), (.v 4), (.v 5), (.v 6), (.v 7), (.v 8), (.v 13)] 1 <|
(.op (some ((.v 12), false)) .bnot [(.v 14)] <|
(.op none .pick [(.v 12), (.c (.bool true)), (.v 15)] <|
(.op (some ((.v 16), false)) .id [(.v 10)] <|
(.op (some ((.v 16), false)) .id [(.v 2)] <|
(.op (some ((.v 16), false)) .len [(.v 18)] <|
(.op (some ((.v 16), false)) (.iar .sub .i64) [(.v 19), (.c (.int 1))] <|
(.call (some ((.v 16), false)) 19 [(.v 17), (.c (.int 0)), (.v 20)] 1 <|
(.op (some ((.v 16), false)) .bnot [(.v 21)] <|
(.op none .pick [(.v 16), (.c (.bool true)), (.v 22)] <|
(.ite (.v 23)
  (.out 0 [(.c (.lst [])), (.c (.lst [])), (.c (.lst [])), (.c (.flt 0)), (.c (.flt 0)), (.c (.lst [])), (.c (.flt 0)), (.c (.flt 0)), (.c (.flt 0)), (.c (.bool false))])
  (.call none 248 [(.v 0), (.v 1), (.v 2), (.v 3), (.v 4), (.v 5), (.v 6), (.v 7), (.v 8)] 9 <|
  (.call none 251 [(.v 24), (.v 25), (.v 26), (.v 27), (.v 28), (.v 29), (.v 30), (.v 31), (.v 32), (.v 9), (.v 10)] 4 <|
  (.out 0 [(.v 33), (.v 34), (.v 35), (.v 27), (.v 28), (.v 36), (.v 30), (.v 31), (.v 32), (.c (.bool true))])))))))))))))))))
def S252s (G : Told) (_fuel : Nat) (x0 x1 x2 x3 x4 x5 x6 x7 x8 x9 x10 : D) : Option (Nat × List D) :=
  (gcall G none 195 [x0, x1, x2, x3, x4, x5, x6, x7, x8] 1).bind fun e11 =>
  (gev none .bnot [(e11.getD 0 .undef)]).bind fun x12 =>
  (gev (some (x12, false)) .id [x9]).bind fun x13 =>
  (gcall G (some (x12, false)) 245 [x0, x1, x2, x3, x4, x5, x6, x7, x8, x13] 1).bind fun e14 =>
  (gev (some (x12, false)) .bnot [(e14.getD 0 .undef)]).bind fun x15 =>
  (gev none .pick [x12, (.bool true), x15]).bind fun x16 =>
  (gev (some (x16, false)) .id [x10]).bind fun x17 =>
  (gev (some (x16, false)) .id [x2]).bind fun x18 =>
  (gev (some (x16, false)) .len [x18]).bind fun x19 =>
  (gev (some (x16, false)) (.iar .sub .i64) [x19, (.int 1)]).bind fun x20 =>
  (gcall G (some (x16, false)) 19 [x17, (.int 0), x20] 1).bind fun e21 =>
  (gev (some (x16, false)) .bnot [(e21.getD 0 .undef)]).bind fun x22 =>
  (gev none .pick [x16, (.bool true), x22]).bind fun x23 =>
  tif x23 (
    some (0, [(.lst []), (.lst []), (.lst []), (.flt 0), (.flt 0), (.lst []), (.flt 0), (.flt 0), (.flt 0), (.bool false)])) (
    (gcall G none 248 [x0, x1, x2, x3, x4, x5, x6, x7, x8] 9).bind fun e24 =>
    (gcall G none 251 [(e24.getD 0 .undef), (e24.getD 1 .undef), (e24.getD 2 .undef), (e24.getD 3 .undef), (e24.getD 4 .undef), (e24.getD 5 .undef), (e24.getD 6 .undef), (e24.getD 7 .undef), (e24.getD 8 .undef), x9, x10] 4).bind fun e33 =>
    some (0, [(e33.getD 0 .undef), (e33.getD 1 .undef), (e33.getD 2 .undef), (e24.getD 3 .undef), (e24.getD 4 .undef), (e33.getD 3 .undef), (e24.getD 6 .undef), (e24.getD 7 .undef), (e24.getD 8 .undef), (.bool true)]))
theorem eq252s {G : Told} {fuel : Nat} (x0 x1 x2 x3 x4 x5 x6 x7 x8 x9 x10 : D) : run G fuel T252s [x0, x1, x2, x3, x4, x5, x6, x7, x8, x9, x10] = S252s G fuel x0 x1 x2 x3 x4 x5 x6 x7 x8 x9 x10 := by
  rw [run_eq]; kernel_rfl

def T253 : T :=
(.op none .len [(.v 9)] <|
(.op none (.icm .gtr) [(.v 11), (.c (.int 1048576))] <|
(.ite (.v 12)
  (.out 0 [(.c (.bool true))])
  (.call none 182 [(.v 0), (.v 1), (.v 2), (.v 3), (.v 4), (.v 5), (.v 6), (.v 7), (.v 8), (.c (.int 1048576))] 1 <|
  (.op none (.icm .lss) [(.v 13), (.c (.int 0))] <|
  (.ite (.v 14)
    (.out 0 [(.c (.bool true))])
    (.call none 186 [(.v 0), (.v 1), (.v 2), (.v 3), (.v 4), (.v 5), (.v 6), (.v 7), (.v 8)] 9 <|
    (.call none 143 [(.v 9)] 1 <|
    (.call none 252 [(.v 15), (.v 16), (.v 17), (.v 18), (.v 19), (.v 20), (.v 21), (.v 22), (.v 23), (.v 24), (.v 10)] 10 <|
    (.call none 186 [(.v 0), (.v 1), (.v 2), (.v 3), (.v 4), (.v 5), (.v 6), (.v 7), (.v 8)] 9 <|
    (.call none 143 [(.v 9)] 1 <|
    (.call none 252 [(.v 35), (.v 36), (.v 37), (.v 38), (.v 39), (.v 40), (.v 41), (.v 42), (.v 43), (.v 44), (.v 10)] 10 <|
    (.call none 190 [(.v 45), (.v 46), (.v 47), (.v 48), (.v 49), (.v 50), (.v 51), (.v 52), (.v 53), (.v 25), (.v 26), (.v 27), (.v 28), (.v 29), (.v 30), (.v 31), (.v 32), (.v 33)] 1 <|
    (.op none .bnot [(.v 55)] <|
    (.op (some ((.v 56), false)) .id [(.v 54)] <|
    (.op (some ((.v 56), false)) .id [(.v 34)] <|
    (.op (some ((.v 56), false)) .bne [(.v 57), (.v 58)] <|
    (.op none .pick [(.v 56), (.c (.bool true)), (.v 59)] <|
    (.ite (.v 60)
      (.out 0 [(.c (.bool false))])
      (.call none 186 [(.v 0), (.v 1), (.v 2), (.v 3), (.v 4), (.v 5), (.v 6), (.v 7), (.v 8)] 9 <|
      (.call none 190 [(.v 35), (.v 36), (.v 37), (.v 38), (.v 39), (.v 40), (.v 41), (.v 42), (.v 43), (.v 61), (.v 62), (.v 63), (.v 64), (.v 65), (.v 66), (.v 67), (.v 68), (.v 69)] 1 <|
      (.op none .bnot [(.v 70)] <|
      (.ite (.v 71)
        (.out 0 [(.c (.bool false))])
        (.call none 143 [(.v 9)] 1 <|
        (.call none 100 [(.v 44), (.v 72)] 1 <|
        (.op none .bnot [(.v 73)] <|
        (.ite (.v 74)
          (.out 0 [(.c (.bool false))])
          (.call none 193 [(.v 35), (.v 36), (.v 37), (.v 38), (.v 39), (.v 40), (.v 41), (.v 42), (.v 43), (.c (.int 1))] 5 <|
          (.call none 102 [(.v 44), (.v 75)] 2 <|
          (.op none (.icm .lss) [(.v 80), (.c (.int 0))] <|
          (.call (some ((.v 82), false)) 190 [(.v 45), (.v 46), (.v 47), (.v 48), (.v 49), (.v 50), (.v 51), (.v 52), (.v 53), (.v 25), (.v 26), (.v 27), (.v 28), (.v 29), (.v 30), (.v 31), (.v 32), (.v 33)] 1 <|
          (.op (some ((.v 82), false)) .bnot [(.v 83)] <|
          (.op none .pick [(.v 82), (.c (.bool true)), (.v 84)] <|
          (.op (some ((.v 85), false)) .id [(.v 54)] <|
          (.op (some ((.v 85), false)) .id [(.v 34)] <|
          (.op (some ((.v 85), false)) .bne [(.v 86), (.v 87)] <|
          (.op none .pick [(.v 85), (.c (.bool true)), (.v 88)] <|
          (.ite (.v 89)
            (.out 0 [(.c (.bool false))])
            (.call none 193 [(.v 45), (.v 46), (.v 47), (.v 48), (.v 49), (.v 50), (.v 51), (.v 52), (.v 53), (.c (.int 1))] 5 <|
            (.call none 243 [(.v 91), (.v 92), (.v 93), (.v 48), (.v 49), (.v 94), (.v 51), (.v 52), (.v 53), (.c (.int 1))] 1 <|
            (.op none (.icm .lss) [(.v 95), (.c (.int 0))] <|
            (.ite (.v 96)
              (.out 0 [(.c (.bool false))])
              (.op none (.icm .neq) [(.v 95), (.v 90)] <|
              (.ite (.v 97)
                (.out 0 [(.c (.bool false))])
                (.call none 186 [(.v 0), (.v 1), (.v 2), (.v 3), (.v 4), (.v 5), (.v 6), (.v 7), (.v 8)] 9 <|
                (.call none 143 [(.v 9)] 1 <|
                (.call none 252 [(.v 98), (.v 99), (.v 100), (.v 101), (.v 102), (.v 103), (.v 104), (.v 105), (.v 106), (.v 107), (.v 10)] 10 <|
                (.call none 190 [(.v 108), (.v 109), (.v 110), (.v 111), (.v 112), (.v 113), (.v 114), (.v 115), (.v 116), (.v 25), (.v 26), (.v 27), (.v 28), (.v 29), (.v 30), (.v 31), (.v 32), (.v 33)] 1 <|
                (.op none .bnot [(.v 118)] <|
                (.op (some ((.v 119), false)) .id [(.v 117)] <|
                (.op (some ((.v 119), false)) .id [(.v 34)] <|
                (.op (some ((.v 119), false)) .bne [(.v 120), (.v 121)] <|
                (.op none .pick [(.v 119), (.c (.bool true)), (.v 122)] <|
                (.ite (.v 123)
                  (.out 0 [(.c (.bool false))])
                  (.call none 243 [(.v 91), (.v 92), (.v 93), (.v 48), (.v 49), (.v 94), (.v 51), (.v 52), (.v 53), (.c (.int 1))] 1 <|
                  (.op none (.icm .lss) [(.v 124), (.c (.int 0))] <|
                  (.ite (.v 125)
                    (.out 0 [(.c (.bool false))])
                    (.op none (.icm .neq) [(.v 124), (.v 90)] <|
                    (.ite (.v 126)
                      (.out 0 [(.c (.bool false))])
                      (.out 0 [(.c (.bool true))]))))))))))))))))))))))))))))))))))))))))))))))))))))))))))))
def S253 (G : Told) (_fuel : Nat) (x0 x1 x2 x3 x4 x5 x6 x7 x8 x9 x10 : D) : Option (Nat × List D) :=
  (gev none .len [x9]).bind fun x11 =>
  (gev none (.icm .gtr) [x11, (.int 1048576)]).bind fun x12 =>
  tif x12 (
    some (0, [(.bool true)])) (
    (gcall G none 182 [x0, x1, x2, x3, x4, x5, x6, x7, x8, (.int 1048576)] 1).bind fun e13 =>
    (gev none (.icm .lss) [(e13.getD 0 .undef), (.int 0)]).bind fun x14 =>
    tif x14 (
      some (0, [(.bool true)])) (
      (gcall G none 186 [x0, x1, x2, x3, x4, x5, x6, x7, x8] 9).bind fun e15 =>
      (gcall G none 143 [x9] 1).bind fun e24 =>
      (gcall G none 252 [(e15.getD 0 .undef), (e15.getD 1 .undef), (e15.getD 2 .undef), (e15.getD 3 .undef), (e15.getD 4 .undef), (e15.getD 5 .undef), (e15.getD 6 .undef), (e15.getD 7 .undef), (e15.getD 8 .undef), (e24.getD 0 .undef), x10] 10).bind fun e25 =>
      (gcall G none 186 [x0, x1, x2, x3, x4, x5, x6, x7, x8] 9).bind fun e35 =>
      (gcall G none 143 [x9] 1).bind fun e44 =>
      (gcall G none 252 [(e35.getD 0 .undef), (e35.getD 1 .undef), (e35.getD 2 .undef), (e35.getD 3 .undef), (e35.getD 4 .undef), (e35.getD 5 .undef), (e35.getD 6 .undef), (e35.getD 7 .undef), (e35.getD 8 .undef), (e44.getD 0 .undef), x10] 10).bind fun e45 =>
      (gcall G none 190 [(e45.getD 0 .undef), (e45.getD 1 .undef), (e45.getD 2 .undef), (e45.getD 3 .undef), (e45.getD 4 .undef), (e45.getD 5 .undef), (e45.getD 6 .undef), (e45.getD 7 .undef), (e45.getD 8 .undef), (e25.getD 0 .undef), (e25.getD 1 .undef), (e25.getD 2 .undef), (e25.getD 3 .undef), (e25.getD 4 .undef), (e25.getD 5 .undef), (e25.getD 6 .undef), (e25.getD 7 .undef), (e25.getD 8 .undef)] 1).bind fun e55 =>
      (gev none .bnot [(e55.getD 0 .undef)]).bind fun x56 =>
      (gev (some (x56, false)) .id [(e45.getD 9 .undef)]).bind fun x57 =>
      (gev (some (x56, false)) .id [(e25.getD 9 .undef)]).bind fun x58 =>
      (gev (some (x56, false)) .bne [x57, x58]).bind fun x59 =>
      (gev none .pick [x56, (.bool true), x59]).bind fun x60 =>
      tif x60 (
        some (0, [(.bool false)])) (
        (gcall G none 186 [x0, x1, x2, x3, x4, x5, x6, x7, x8] 9).bind fun e61 =>
        (gcall G none 190 [(e35.getD 0 .undef), (e35.getD 1 .undef), (e35.getD 2 .undef), (e35.getD 3 .undef), (e35.getD 4 .undef), (e35.getD 5 .undef), (e35.getD 6 .undef), (e35.getD 7 .undef), (e35.getD 8 .undef), (e61.getD 0 .undef), (e61.getD 1 .undef), (e61.getD 2 .undef), (e61.getD 3 .undef), (e61.getD 4 .undef), (e61.getD 5 .undef), (e61.getD 6 .undef), (e61.getD 7 .undef), (e61.getD 8 .undef)] 1).bind fun e70 =>
        (gev none .bnot [(e70.getD 0 .undef)]).bind fun x71 =>
        tif x71 (
          some (0, [(.bool false)])) (
          (gcall G none 143 [x9] 1).bind fun e72 =>
          (gcall G none 100 [(e44.getD 0 .undef), (e72.getD 0 .undef)] 1).bind fun e73 =>
          (gev none .bnot [(e73.getD 0 .undef)]).bind fun x74 =>
          tif x74 (
            some (0, [(.bool false)])) (
            (gcall G none 193 [(e35.getD 0 .undef), (e35.getD 1 .undef), (e35.getD 2 .undef), (e35.getD 3 .undef), (e35.getD 4 .undef), (e35.getD 5 .undef), (e35.getD 6 .undef), (e35.getD 7 .undef), (e35.getD 8 .undef), (.int 1)] 5).bind fun e75 =>
            (gcall G none 102 [(e44.getD 0 .undef), (e75.getD 0 .undef)] 2).bind fun e80 =>
            (gev none (.icm .lss) [(e80.getD 0 .undef), (.int 0)]).bind fun x82 =>
            (gcall G (some (x82, false)) 190 [(e45.getD 0 .undef), (e45.getD 1 .undef), (e45.getD 2 .undef), (e45.getD 3 .undef), (e45.getD 4 .undef), (e45.getD 5 .undef), (e45.getD 6 .undef), (e45.getD 7 .undef), (e45.getD 8 .undef), (e25.getD 0 .undef), (e25.getD 1 .undef), (e25.getD 2 .undef), (e25.getD 3 .undef), (e25.getD 4 .undef), (e25.getD 5 .undef), (e25.getD 6 .undef), (e25.getD 7 .undef), (e25.getD 8 .undef)] 1).bind fun e83 =>
            (gev (some (x82, false)) .bnot [(e83.getD 0 .undef)]).bind fun x84 =>
            (gev none .pick [x82, (.bool true), x84]).bind fun x85 =>
            (gev (some (x85, false)) .id [(e45.getD 9 .undef)]).bind fun x86 =>
            (gev (some (x85, false)) .id [(e25.getD 9 .undef)]).bind fun x87 =>
            (gev (some (x85, false)) .bne [x86, x87]).bind fun x88 =>
            (gev none .pick [x85, (.bool true), x88]).bind fun x89 =>
            tif x89 (
              some (0, [(.bool false)])) (
              (gcall G none 193 [(e45.getD 0 .undef), (e45.getD 1 .undef), (e45.getD 2 .undef), (e45.getD 3 .undef), (e45.getD 4 .undef), (e45.getD 5 .undef), (e45.getD 6 .undef), (e45.getD 7 .undef), (e45.getD 8 .undef), (.int 1)] 5).bind fun e90 =>
              (gcall G none 243 [(e90.getD 1 .undef), (e90.getD 2 .undef), (e90.getD 3 .undef), (e45.getD 3 .undef), (e45.getD 4 .undef), (e90.getD 4 .undef), (e45.getD 6 .undef), (e45.getD 7 .undef), (e45.getD 8 .undef), (.int 1)] 1).bind fun e95 =>
              (gev none (.icm .lss) [(e95.getD 0 .undef), (.int 0)]).bind fun x96 =>
              tif x96 (
                some (0, [(.bool false)])) (
                (gev none (.icm .neq) [(e95.getD 0 .undef), (e90.getD 0 .undef)]).bind fun x97 =>
                tif x97 (
                  some (0, [(.bool false)])) (
                  (gcall G none 186 [x0, x1, x2, x3, x4, x5, x6, x7, x8] 9).bind fun e98 =>
                  (gcall G none 143 [x9] 1).bind fun e107 =>
                  (gcall G none 252 [(e98.getD 0 .undef), (e98.getD 1 .undef), (e98.getD 2 .undef), (e98.getD 3 .undef), (e98.getD 4 .undef), (e98.getD 5 .undef), (e98.getD 6 .undef), (e98.getD 7 .undef), (e98.getD 8 .undef), (e107.getD 0 .undef), x10] 10).bind fun e108 =>
                  (gcall G none 190 [(e108.getD 0 .undef), (e108.getD 1 .undef), (e108.getD 2 .undef), (e108.getD 3 .undef), (e108.getD 4 .undef), (e108.getD 5 .undef), (e108.getD 6 .undef), (e108.getD 7 .undef), (e108.getD 8 .undef), (e25.getD 0 .undef), (e25.getD 1 .undef), (e25.getD 2 .undef), (e25.getD 3 .undef), (e25.getD 4 .undef), (e25.getD 5 .undef), (e25.getD 6 .undef), (e25.getD 7 .undef), (e25.getD 8 .undef)] 1).bind fun e118 =>
                  (gev none .bnot [(e118.getD 0 .undef)]).bind fun x119 =>
                  (gev (some (x119, false)) .id [(e108.getD 9 .undef)]).bind fun x120 =>
                  (gev (some (x119, false)) .id [(e25.getD 9 .undef)]).bind fun x121 =>
                  (gev (some (x119, false)) .bne [x120, x121]).bind fun x122 =>
                  (gev none .pick [x119, (.bool true), x122]).bind fun x123 =>
                  tif x123 (
                    some (0, [(.bool false)])) (
                    (gcall G none 243 [(e90.getD 1 .undef), (e90.getD 2 .undef), (e90.getD 3 .undef), (e45.getD 3 .undef), (e45.getD 4 .undef), (e90.getD 4 .undef), (e45.getD 6 .undef), (e45.getD 7 .undef), (e45.getD 8 .undef), (.int 1)] 1).bind fun e124 =>
                    (gev none (.icm .lss) [(e124.getD 0 .undef), (.int 0)]).bind fun x125 =>
                    tif x125 (
                      some (0, [(.bool false)])) (
                      (gev none (.icm .neq) [(e124.getD 0 .undef), (e90.getD 0 .undef)]).bind fun x126 =>
                      tif x126 (
                        some (0, [(.bool false)])) (
                        some (0, [(.bool true)]))))))))))))
theorem eq253 {G : Told} {fuel : Nat} (x0 x1 x2 x3 x4 x5 x6 x7 x8 x9 x10 : D) : run G fuel T253 [x0, x1, x2, x3, x4, x5, x6, x7, x8, x9, x10] = S253 G fuel x0 x1 x2 x3 x4 x5 x6 x7 x8 x9 x10 := by
  rw [run_eq]; kernel_rfl

attribute [local irreducible] tif tjoin IntKind.wrap feq fadd fmul fsub fdiv fgt fge flt fneg i2f sameP wide eqV vl il tl sl fl totL validB bo heldP gainP longV projV marksS marksW mkB szM szP marksV marksT inr triP validP innerP longP rootP

set_option maxHeartbeats 4000000 in
theorem run241 {G : Told} : ∀ ds rs, F241 ds = some rs → ∃ fuel, run G fuel T241 ds = some (0, rs) := by
  intro ds rs h
  unfold F241 at h
  split at h
  case h_2 => cases h
  rename_i c m
  obtain ⟨l, ha, h⟩ := Option.bind_eq_some_iff.1 h
  rw [dS_inv ha]
  split at h
  case isFalse => cases h
  rename_i hc
  obtain ⟨hv, hc, hm0, hm1⟩ := hc
  simp only [Option.some.injEq] at h
  subst h
  refine ⟨l.length + 1, ?_⟩
  rw [eq241]
  unfold S241
  have hn := len_sl (l := l)
  have hloop : iter (tbody 2 (S241L0 G (sl l))) (l.length + 1) [.int m, .int 0] = some (0, [.int (m + 4 * (l.length : Int)), .int (l.length : Int), .int (l.length : Int), .int (l.length : Int), .bool false]) := by
    have h1 := iter_upto (body := tbody 2 (S241L0 G (sl l))) (n := l.length) (l := 0) (ds := [.int (m + 4 * (l.length : Int)), .int (l.length : Int), .int (l.length : Int), .int (l.length : Int), .bool false])
      (fun i => [.int (m + 4 * (i : Int)), .int (i : Int)]) ?_ ?_
    · simpa using h1
    · intro i hi
      refine tb rfl ?_
      have h0 : decide ((i : Int) < (l.length : Int)) = true := by simpa using hi
      have hx := idx_sl hi
      rw [List.getElem_of_eq hv, marksS_get] at hx
      have hf : ∀ n, (!feq .f32 (i2f .f32 n) (i2f .f32 n)) = false := fun n => by rw [i2f_self n]; rfl
      have ha := add1n (i := i) (by omega)
      have ha1 := add1 (i := m + 4 * (i : Int)) (by omega) (by omega)
      have ha2 := add1 (i := m + 4 * (i : Int) + 1) (by omega) (by omega)
      rw [show m + 4 * (i : Int) + 1 + 1 = m + 4 * (i : Int) + 2 from by omega] at ha2
      have ha3 := add1 (i := m + 4 * (i : Int) + 2) (by omega) (by omega)
      rw [show m + 4 * (i : Int) + 2 + 1 = m + 4 * (i : Int) + 3 from by omega] at ha3
      have ha4 := add1 (i := m + 4 * (i : Int) + 3) (by omega) (by omega)
      rw [show m + 4 * (i : Int) + 3 + 1 = m + 4 * ((i + 1 : Nat) : Int) from by omega] at ha4
      have hf1 := hf (m + 4 * (i : Int) + 2)
      have hf2 := hf (m + 4 * (i : Int) + 3)
      have hi1 : ((m + 4 * (i : Int)) != (m + 4 * (i : Int))) = false := by simp
      have hi2 : ((m + 4 * (i : Int) + 1) != (m + 4 * (i : Int) + 1)) = false := by simp
      unfold S241L0
      repeat' first
        | with_reducible refine st_ift ?_
        | with_reducible refine st_iff ?_
        | ((with_reducible apply st_ift2); exact rfl)
        | ((with_reducible apply st_iff2); exact rfl)
        | ((with_reducible apply st_some); exact hx)
        | ((with_reducible apply st_some); exact ha)
        | ((with_reducible apply st_some); exact ha1)
        | ((with_reducible apply st_some); exact ha2)
        | ((with_reducible apply st_some); exact ha3)
        | ((with_reducible apply st_some); exact ha4)
        | ((with_reducible apply st_some); exact hn)
        | ((with_reducible apply st_callt); assumption; exact rfl; exact rfl; assumption)
        | ((with_reducible apply st_callf); assumption; exact rfl; exact rfl; assumption)
        | ((with_reducible apply st_call); assumption; exact rfl; exact rfl; exact rfl)
        | ((with_reducible apply st_wide); exact rfl; exact rfl)
        | ((with_reducible apply st_skip); exact rfl)
        | ((with_reducible apply st_t); exact rfl; exact rfl)
        | ((with_reducible apply st_f); exact rfl; exact rfl)
        | ((with_reducible apply st_t); exact rfl; assumption)
        | ((with_reducible apply st_f); exact rfl; assumption)
        | ((with_reducible apply st_some); exact rfl)
        | exact rfl
    · refine tb rfl ?_
      have h0 : decide ((l.length : Int) < (l.length : Int)) = false := by simp
      unfold S241L0
      repeat' first
        | with_reducible refine st_ift ?_
        | with_reducible refine st_iff ?_
        | ((with_reducible apply st_ift2); exact rfl)
        | ((with_reducible apply st_iff2); exact rfl)
        | ((with_reducible apply st_some); exact hn)
        | ((with_reducible apply st_callt); assumption; exact rfl; exact rfl; assumption)
        | ((with_reducible apply st_callf); assumption; exact rfl; exact rfl; assumption)
        | ((with_reducible apply st_call); assumption; exact rfl; exact rfl; exact rfl)
        | ((with_reducible apply st_wide); exact rfl; exact rfl)
        | ((with_reducible apply st_skip); exact rfl)
        | ((with_reducible apply st_t); exact rfl; exact rfl)
        | ((with_reducible apply st_f); exact rfl; exact rfl)
        | ((with_reducible apply st_t); exact rfl; assumption)
        | ((with_reducible apply st_f); exact rfl; assumption)
        | ((with_reducible apply st_some); exact rfl)
        | exact rfl
  refine st_join hloop rfl ?_
  rfl
set_option maxHeartbeats 4000000 in
theorem run242 {G : Told} : ∀ ds rs, F242 ds = some rs → ∃ fuel, run G fuel T242 ds = some (0, rs) := by
  intro ds rs h
  unfold F242 at h
  split at h
  case h_2 => cases h
  rename_i c m
  obtain ⟨l, ha, h⟩ := Option.bind_eq_some_iff.1 h
  rw [dW_inv ha]
  split at h
  case isFalse => cases h
  rename_i hc
  obtain ⟨hv, hc, hm0, hm1⟩ := hc
  simp only [Option.some.injEq] at h
  subst h
  refine ⟨l.length + 1, ?_⟩
  rw [eq242]
  unfold S242
  have hn := len_fl (l := l)
  have hloop : iter (tbody 2 (S242L0 G (fl l))) (l.length + 1) [.int m, .int 0] = some (0, [.int (m + (l.length : Int)), .int (l.length : Int), .int (l.length : Int), .int (l.length : Int), .bool false]) := by
    have h1 := iter_upto (body := tbody 2 (S242L0 G (fl l))) (n := l.length) (l := 0) (ds := [.int (m + (l.length : Int)), .int (l.length : Int), .int (l.length : Int), .int (l.length : Int), .bool false])
      (fun i => [.int (m + (i : Int)), .int (i : Int)]) ?_ ?_
    · simpa using h1
    · intro i hi
      refine tb rfl ?_
      have h0 : decide ((i : Int) < (l.length : Int)) = true := by simpa using hi
      have hx := idx_fl hi
      rw [List.getElem_of_eq hv, marksW_get] at hx
      have hf : ∀ n, (!feq .f32 (i2f .f32 n) (i2f .f32 n)) = false := fun n => by rw [i2f_self n]; rfl
      have ha := add1n (i := i) (by omega)
      have ha1 := add1 (i := m + (i : Int)) (by omega) (by omega)
      rw [show m + (i : Int) + 1 = m + ((i + 1 : Nat) : Int) from by omega] at ha1
      have hf1 := hf (m + (i : Int))
      unfold S242L0
      repeat' first
        | with_reducible refine st_ift ?_
        | with_reducible refine st_iff ?_
        | ((with_reducible apply st_ift2); exact rfl)
        | ((with_reducible apply st_iff2); exact rfl)
        | ((with_reducible apply st_some); exact hx)
        | ((with_reducible apply st_some); exact ha)
        | ((with_reducible apply st_some); exact ha1)
        | ((with_reducible apply st_some); exact hn)
        | ((with_reducible apply st_callt); assumption; exact rfl; exact rfl; assumption)
        | ((with_reducible apply st_callf); assumption; exact rfl; exact rfl; assumption)
        | ((with_reducible apply st_call); assumption; exact rfl; exact rfl; exact rfl)
        | ((with_reducible apply st_wide); exact rfl; exact rfl)
        | ((with_reducible apply st_skip); exact rfl)
        | ((with_reducible apply st_t); exact rfl; exact rfl)
        | ((with_reducible apply st_f); exact rfl; exact rfl)
        | ((with_reducible apply st_t); exact rfl; assumption)
        | ((with_reducible apply st_f); exact rfl; assumption)
        | ((with_reducible apply st_some); exact rfl)
        | exact rfl
    · refine tb rfl ?_
      have h0 : decide ((l.length : Int) < (l.length : Int)) = false := by simp
      unfold S242L0
      repeat' first
        | with_reducible refine st_ift ?_
        | with_reducible refine st_iff ?_
        | ((with_reducible apply st_ift2); exact rfl)
        | ((with_reducible apply st_iff2); exact rfl)
        | ((with_reducible apply st_some); exact hn)
        | ((with_reducible apply st_callt); assumption; exact rfl; exact rfl; assumption)
        | ((with_reducible apply st_callf); assumption; exact rfl; exact rfl; assumption)
        | ((with_reducible apply st_call); assumption; exact rfl; exact rfl; exact rfl)
        | ((with_reducible apply st_wide); exact rfl; exact rfl)
        | ((with_reducible apply st_skip); exact rfl)
        | ((with_reducible apply st_t); exact rfl; exact rfl)
        | ((with_reducible apply st_f); exact rfl; exact rfl)
        | ((with_reducible apply st_t); exact rfl; assumption)
        | ((with_reducible apply st_f); exact rfl; assumption)
        | ((with_reducible apply st_some); exact rfl)
        | exact rfl
  refine st_join hloop rfl ?_
  rfl
set_option maxHeartbeats 4000000 in
theorem run243 {G : Told} (g148 : G 148 = F148) (g241 : G 241 = F241) (g242 : G 242 = F242) : ∀ ds rs, F243 ds = some rs → ∃ fuel, run G fuel T243 ds = some (0, rs) := by
  intro ds rs h
  unfold F243 at h
  split at h
  case h_2 => cases h
  split at h <;> try cases h
  rename_i k e1
  split at h
  case isFalse => cases h
  rename_i p1
  split at h <;> try cases h
  rename_i j e2
  split at h
  case isFalse => cases h
  rename_i p2
  split at h <;> try cases h
  rename_i i e3
  split at h
  case isFalse => cases h
  rename_i p3
  simp only [Option.some.injEq] at h
  subst h
  refine ⟨0, ?_⟩
  rw [eq243]
  unfold S243
  have d1 : decide (k < 0) = false := by simp; omega
  have d2 : decide (j < 0) = false := by simp; omega
  have d3 : decide (i < 0) = false := by simp; omega
  repeat' first
    | with_reducible refine st_ift ?_
    | with_reducible refine st_iff ?_
    | ((with_reducible apply st_ift2); exact rfl)
    | ((with_reducible apply st_iff2); exact rfl)
    | ((with_reducible apply st_call); exact g148; exact rfl; exact e1; exact rfl)
    | ((with_reducible apply st_call); exact g241; exact rfl; exact e2; exact rfl)
    | ((with_reducible apply st_call); exact g242; exact rfl; exact e3; exact rfl)
    | ((with_reducible apply st_callt); assumption; exact rfl; exact rfl; assumption)
    | ((with_reducible apply st_callf); assumption; exact rfl; exact rfl; assumption)
    | ((with_reducible apply st_call); assumption; exact rfl; exact rfl; exact rfl)
    | ((with_reducible apply st_wide); exact rfl; exact rfl)
    | ((with_reducible apply st_skip); exact rfl)
    | ((with_reducible apply st_t); exact rfl; exact rfl)
    | ((with_reducible apply st_f); exact rfl; exact rfl)
    | ((with_reducible apply st_t); exact rfl; assumption)
    | ((with_reducible apply st_f); exact rfl; assumption)
    | ((with_reducible apply st_some); exact rfl)
    | exact rfl
set_option maxHeartbeats 4000000 in
theorem run244 {G : Told} (g19 : G 19 = F19) (g195 : G 195 = F195) : ∀ ds rs, F244 ds = some rs → ∃ fuel, run G fuel T244 ds = some (0, rs) := by
  intro ds rs h
  obtain ⟨B, l, rfl, hp⟩ := onH_inv h
  replace h := hp
  clear hp
  split at h
  case isFalse => cases h
  rename_i hc
  obtain ⟨hc, hl⟩ := hc
  simp only [Option.some.injEq] at h
  subst h
  have hv := F195_m hc
  obtain ⟨vs, ts, ss, fm, bn, ws, x, y, z⟩ := B
  have hvl : vs.length ≤ 1048576 := by
    have : szM vs ts + ss.length + ws.length ≤ 1048576 := hc
    have h2 : szM vs ts = vs.length + ts.length + totL ts := by unfold szM; rfl
    omega
  simp only [bd, List.cons_append, List.nil_append] at hv ⊢
  generalize validB ⟨vs, ts, ss, fm, bn, ws, x, y, z⟩ = val at *
  refine ⟨l.length + 1, ?_⟩
  rw [eq244]
  unfold S244
  have hn := len_vl (l := vs)
  have hnl := len_il (l := l)
  have hs := sub1 (n := vs.length) (by omega) (by omega)
  cases val
  case false =>
    rw [Bool.false_and]
    repeat' first
      | with_reducible refine st_ift ?_
      | with_reducible refine st_iff ?_
      | ((with_reducible apply st_ift2); exact rfl)
      | ((with_reducible apply st_iff2); exact rfl)
      | ((with_reducible apply st_call); exact g195; exact rfl; exact hv; exact rfl)
      | ((with_reducible apply st_callt); assumption; exact rfl; exact rfl; assumption)
      | ((with_reducible apply st_callf); assumption; exact rfl; exact rfl; assumption)
      | ((with_reducible apply st_call); assumption; exact rfl; exact rfl; exact rfl)
      | ((with_reducible apply st_wide); exact rfl; exact rfl)
      | ((with_reducible apply st_skip); exact rfl)
      | ((with_reducible apply st_t); exact rfl; exact rfl)
      | ((with_reducible apply st_f); exact rfl; exact rfl)
      | ((with_reducible apply st_t); exact rfl; assumption)
      | ((with_reducible apply st_f); exact rfl; assumption)
      | ((with_reducible apply st_some); exact rfl)
      | exact rfl
  rw [Bool.true_and]
  let prev : Nat → Int := fun i => if i = 0 then -1 else l.getD (i - 1) 0
  have hpr : ∀ i, (∀ j, j < i → goodR vs.length l j = true) → -1 ≤ prev i ∧ prev i ≤ 1048575 := by
    intro i hg
    show -1 ≤ (if i = 0 then -1 else l.getD (i - 1) 0) ∧ (if i = 0 then -1 else l.getD (i - 1) 0) ≤ 1048575
    split
    · omega
    · have := held_ge (n := vs.length) (h := l) (i - 1) (fun j hj => hg j (by omega))
      omega
  have hbody : ∀ i, (hi : i < l.length) → (∀ j, j < i → goodR vs.length l j = true) → tbody 2 (S244L0 G (vl vs) (il l) (.int (l.length : Int))) [.int (prev i), .int (i : Int)] = if goodR vs.length l i = true then some (0, [.int (prev (i + 1)), .int ((i + 1 : Nat) : Int)]) else some (2, [.bool false]) := by
    intro i hi hg
    refine tb rfl ?_
    have h0 : decide ((i : Int) < (l.length : Int)) = true := by simpa using hi
    have hx := idx_il hi
    have ha := add1n (i := i) (by omega)
    obtain ⟨p1, p2⟩ := hpr i hg
    have hap : gev none (.iar .add .i64) [.int (prev i), .int 1] = some (.int (prev i + 1)) := by
      have e : gev none (.iar .add .i64) [.int (prev i), .int 1] = some (.int (IntKind.wrap .i64 (prev i + 1))) := rfl
      have w := wrap_sub (m := prev i + 1) (n := 0) (by omega) (by omega) (by omega) (by omega)
      rw [Int.sub_zero] at w
      rw [e, w]
    have hnx : prev (i + 1) = l[i] := by
      show (if i + 1 = 0 then -1 else l.getD (i + 1 - 1) 0) = l[i]
      rw [if_neg (by omega), Nat.add_sub_cancel, getD_lt hi]
    have hgd : (decide (prev i + 1 ≤ l[i]) && decide (l[i] ≤ vs.length - 1)) = goodR vs.length l i := by
      unfold goodR inr
      rw [getD_lt hi]
      rcases Nat.eq_zero_or_pos i with hz | hz
      · subst hz
        have e : prev 0 = -1 := rfl
        rw [e]
        simp
      · have e : prev i = l.getD (i - 1) 0 := by
          show (if i = 0 then -1 else l.getD (i - 1) 0) = _
          rw [if_neg (by omega)]
        have hge := held_ge (n := vs.length) (h := l) (i - 1) (fun j hj => hg j (by omega))
        rw [e]
        rw [Bool.eq_iff_iff]
        simp only [Bool.and_eq_true, decide_eq_true_eq, Bool.not_eq_true', Bool.and_eq_false_imp, decide_eq_false_iff_not]
        constructor
        · intro ⟨a, b⟩
          exact ⟨⟨by omega, b⟩, fun _ => by omega⟩
        · intro ⟨⟨a, b⟩, c⟩
          have := c hz
          exact ⟨by omega, b⟩
    have hf : F19 [.int l[i], .int (prev i + 1), .int (vs.length - 1)] = some [.bool (goodR vs.length l i)] := by
      rw [← hgd]
      rfl
    rw [hnx]
    generalize prev i = pr at *
    unfold S244L0
    cases hgg : goodR vs.length l i
    · rw [hgg] at hf
      rw [if_neg (by simp)]
      repeat' first
        | with_reducible refine st_ift ?_
        | with_reducible refine st_iff ?_
        | ((with_reducible apply st_ift2); exact rfl)
        | ((with_reducible apply st_iff2); exact rfl)
        | ((with_reducible apply st_call); exact g19; exact rfl; exact hf; exact rfl)
        | ((with_reducible apply st_some); exact hx)
        | ((with_reducible apply st_some); exact hap)
        | ((with_reducible apply st_some); exact hn)
        | ((with_reducible apply st_some); exact hs)
        | ((with_reducible apply st_some); exact ha)
        | ((with_reducible apply st_callt); assumption; exact rfl; exact rfl; assumption)
        | ((with_reducible apply st_callf); assumption; exact rfl; exact rfl; assumption)
        | ((with_reducible apply st_call); assumption; exact rfl; exact rfl; exact rfl)
        | ((with_reducible apply st_wide); exact rfl; exact rfl)
        | ((with_reducible apply st_skip); exact rfl)
        | ((with_reducible apply st_t); exact rfl; exact rfl)
        | ((with_reducible apply st_f); exact rfl; exact rfl)
        | ((with_reducible apply st_t); exact rfl; assumption)
        | ((with_reducible apply st_f); exact rfl; assumption)
        | ((with_reducible apply st_some); exact rfl)
        | exact rfl
    · rw [hgg] at hf
      rw [if_pos rfl]
      repeat' first
        | with_reducible refine st_ift ?_
        | with_reducible refine st_iff ?_
        | ((with_reducible apply st_ift2); exact rfl)
        | ((with_reducible apply st_iff2); exact rfl)
        | ((with_reducible apply st_call); exact g19; exact rfl; exact hf; exact rfl)
        | ((with_reducible apply st_some); exact hx)
        | ((with_reducible apply st_some); exact hap)
        | ((with_reducible apply st_some); exact hn)
        | ((with_reducible apply st_some); exact hs)
        | ((with_reducible apply st_some); exact ha)
        | ((with_reducible apply st_callt); assumption; exact rfl; exact rfl; assumption)
        | ((with_reducible apply st_callf); assumption; exact rfl; exact rfl; assumption)
        | ((with_reducible apply st_call); assumption; exact rfl; exact rfl; exact rfl)
        | ((with_reducible apply st_wide); exact rfl; exact rfl)
        | ((with_reducible apply st_skip); exact rfl)
        | ((with_reducible apply st_t); exact rfl; exact rfl)
        | ((with_reducible apply st_f); exact rfl; exact rfl)
        | ((with_reducible apply st_t); exact rfl; assumption)
        | ((with_reducible apply st_f); exact rfl; assumption)
        | ((with_reducible apply st_some); exact rfl)
        | exact rfl
  have hp0 : prev 0 = -1 := rfl
  rcases first_bad (g := goodR vs.length l) l.length with hall | ⟨m, hm, hbad, hgood⟩
  · have e : heldP vs.length l = true := by
      unfold heldP
      rw [List.all_eq_true]
      exact fun i hi => hall i (List.mem_range.1 hi)
    rw [e]
    have hloop : iter (tbody 2 (S244L0 G (vl vs) (il l) (.int (l.length : Int)))) (l.length + 1) [.int (-1), .int 0] = some (0, [.int (prev l.length), .int (l.length : Int), .bool false]) := by
      have h1 := iter_to (body := tbody 2 (S244L0 G (vl vs) (il l) (.int (l.length : Int)))) (n := l.length) (f := l.length + 1) (l := 0) (ds := [.int (prev l.length), .int (l.length : Int), .bool false]) (fun i => [.int (prev i), .int (i : Int)]) (by omega) (fun i hi => ?_) ?_
      · simpa [hp0] using h1
      · rw [hbody i hi (fun j hj => hall j (by omega)), if_pos (hall i hi)]
      · refine tb rfl ?_
        have h0 : decide ((l.length : Int) < (l.length : Int)) = false := by simp
        unfold S244L0
        repeat' first
          | with_reducible refine st_ift ?_
          | with_reducible refine st_iff ?_
          | ((with_reducible apply st_ift2); exact rfl)
          | ((with_reducible apply st_iff2); exact rfl)
          | ((with_reducible apply st_f); exact rfl; exact h0)
          | ((with_reducible apply st_callt); assumption; exact rfl; exact rfl; assumption)
          | ((with_reducible apply st_callf); assumption; exact rfl; exact rfl; assumption)
          | ((with_reducible apply st_call); assumption; exact rfl; exact rfl; exact rfl)
          | ((with_reducible apply st_wide); exact rfl; exact rfl)
          | ((with_reducible apply st_skip); exact rfl)
          | ((with_reducible apply st_t); exact rfl; exact rfl)
          | ((with_reducible apply st_f); exact rfl; exact rfl)
          | ((with_reducible apply st_t); exact rfl; assumption)
          | ((with_reducible apply st_f); exact rfl; assumption)
          | ((with_reducible apply st_some); exact rfl)
          | exact rfl
    repeat' first
      | with_reducible refine st_ift ?_
      | with_reducible refine st_iff ?_
      | ((with_reducible apply st_ift2); exact rfl)
      | ((with_reducible apply st_iff2); exact rfl)
      | ((with_reducible apply st_call); exact g195; exact rfl; exact hv; exact rfl)
      | ((with_reducible apply st_join); exact hloop; exact rfl)
      | ((with_reducible apply st_some); exact hnl)
      | ((with_reducible apply st_callt); assumption; exact rfl; exact rfl; assumption)
      | ((with_reducible apply st_callf); assumption; exact rfl; exact rfl; assumption)
      | ((with_reducible apply st_call); assumption; exact rfl; exact rfl; exact rfl)
      | ((with_reducible apply st_wide); exact rfl; exact rfl)
      | ((with_reducible apply st_skip); exact rfl)
      | ((with_reducible apply st_t); exact rfl; exact rfl)
      | ((with_reducible apply st_f); exact rfl; exact rfl)
      | ((with_reducible apply st_t); exact rfl; assumption)
      | ((with_reducible apply st_f); exact rfl; assumption)
      | ((with_reducible apply st_some); exact rfl)
      | exact rfl
  · rw [held_no hm hbad]
    have hloop : iter (tbody 2 (S244L0 G (vl vs) (il l) (.int (l.length : Int)))) (l.length + 1) [.int (-1), .int 0] = some (1, [.bool false]) := by
      have h1 := iter_to (body := tbody 2 (S244L0 G (vl vs) (il l) (.int (l.length : Int)))) (n := m) (f := l.length + 1) (l := 1) (ds := [.bool false]) (fun i => [.int (prev i), .int (i : Int)]) (by omega) (fun i hi => ?_) ?_
      · simpa [hp0] using h1
      · rw [hbody i (by omega) (fun j hj => hgood j (by omega)), if_pos (hgood i hi)]
      · rw [hbody m hm hgood, if_neg (by rw [hbad]; simp)]
    repeat' first
      | with_reducible refine st_ift ?_
      | with_reducible refine st_iff ?_
      | ((with_reducible apply st_ift2); exact rfl)
      | ((with_reducible apply st_iff2); exact rfl)
      | ((with_reducible apply st_call); exact g195; exact rfl; exact hv; exact rfl)
      | ((with_reducible apply st_out); exact hloop)
      | ((with_reducible apply st_some); exact hnl)
      | ((with_reducible apply st_callt); assumption; exact rfl; exact rfl; assumption)
      | ((with_reducible apply st_callf); assumption; exact rfl; exact rfl; assumption)
      | ((with_reducible apply st_call); assumption; exact rfl; exact rfl; exact rfl)
      | ((with_reducible apply st_wide); exact rfl; exact rfl)
      | ((with_reducible apply st_skip); exact rfl)
      | ((with_reducible apply st_t); exact rfl; exact rfl)
      | ((with_reducible apply st_f); exact rfl; exact rfl)
      | ((with_reducible apply st_t); exact rfl; assumption)
      | ((with_reducible apply st_f); exact rfl; assumption)
      | ((with_reducible apply st_some); exact rfl)
      | exact rfl
set_option maxHeartbeats 4000000 in
theorem run246 {G : Told} (g19 : G 19 = F19) : ∀ ds rs, F246 ds = some rs → ∃ fuel, run G fuel T246 ds = some (0, rs) := by
  intro ds rs h
  unfold F246 at h
  split at h
  case h_2 => cases h
  rename_i a lo hi0
  obtain ⟨l, ha, h⟩ := Option.bind_eq_some_iff.1 h
  rw [dI_inv ha]
  split at h
  case isFalse => cases h
  rename_i hc
  simp only [Option.some.injEq] at h
  subst h
  obtain ⟨rfl, hc1, hc2, hl⟩ := hc
  obtain ⟨n, rfl⟩ : ∃ n : Nat, hi0 = (n : Int) - 1 := ⟨(hi0 + 1).toNat, by omega⟩
  have e0 : ((n : Int) - 1 + 1).toNat = n := by omega
  rw [e0]
  refine ⟨l.length + 1, ?_⟩
  rw [eq246]
  unfold S246
  have hnl := len_il (l := l)
  have hbody : ∀ i, (hi : i < l.length) → tbody 1 (S246L0 G (il l) (.int 0) (.int ((n : Int) - 1))) [.int (i : Int)] = if goodR n l i = true then some (0, [.int ((i + 1 : Nat) : Int)]) else some (2, [.bool false]) := by
    intro i hi
    refine tb rfl ?_
    have h0 : decide ((i : Int) < (l.length : Int)) = true := by simpa using hi
    have hx := idx_il hi
    have ha := add1n (i := i) (by omega)
    have hf : F19 [.int l[i], .int 0, .int ((n : Int) - 1)] = some [.bool (inr n l[i])] := F19_in l[i] n
    have hg : goodR n l i = (inr n l[i] && !(decide (0 < i) && decide (l.getD (i - 1) 0 ≥ l[i]))) := by
      unfold goodR
      rw [getD_lt hi]
    rw [hg]
    unfold S246L0
    cases hin : inr n l[i]
    case false =>
      rw [hin] at hf
      rw [Bool.false_and, if_neg (by simp)]
      repeat' first
        | with_reducible refine st_ift ?_
        | with_reducible refine st_iff ?_
        | ((with_reducible apply st_ift2); exact rfl)
        | ((with_reducible apply st_iff2); exact rfl)
        | ((with_reducible apply st_call); exact g19; exact rfl; exact hf; exact rfl)
        | ((with_reducible apply st_some); exact hnl)
        | ((with_reducible apply st_some); exact hx)
        | ((with_reducible apply st_some); exact ha)
        | ((with_reducible apply st_callt); assumption; exact rfl; exact rfl; assumption)
        | ((with_reducible apply st_callf); assumption; exact rfl; exact rfl; assumption)
        | ((with_reducible apply st_call); assumption; exact rfl; exact rfl; exact rfl)
        | ((with_reducible apply st_wide); exact rfl; exact rfl)
        | ((with_reducible apply st_skip); exact rfl)
        | ((with_reducible apply st_t); exact rfl; exact rfl)
        | ((with_reducible apply st_f); exact rfl; exact rfl)
        | ((with_reducible apply st_t); exact rfl; assumption)
        | ((with_reducible apply st_f); exact rfl; assumption)
        | ((with_reducible apply st_some); exact rfl)
        | exact rfl
    rw [hin] at hf
    rw [Bool.true_and]
    rcases Nat.eq_zero_or_pos i with hz | hz
    · have d1 : decide ((i : Int) > 0) = false := by simp; omega
      have d2 : decide (0 < i) = false := by simp; omega
      rw [d2, Bool.false_and, if_pos (by simp)]
      repeat' first
        | with_reducible refine st_ift ?_
        | with_reducible refine st_iff ?_
        | ((with_reducible apply st_ift2); exact rfl)
        | ((with_reducible apply st_iff2); exact rfl)
        | ((with_reducible apply st_call); exact g19; exact rfl; exact hf; exact rfl)
        | ((with_reducible apply st_some); exact hnl)
        | ((with_reducible apply st_some); exact hx)
        | ((with_reducible apply st_some); exact ha)
        | ((with_reducible apply st_callt); assumption; exact rfl; exact rfl; assumption)
        | ((with_reducible apply st_callf); assumption; exact rfl; exact rfl; assumption)
        | ((with_reducible apply st_call); assumption; exact rfl; exact rfl; exact rfl)
        | ((with_reducible apply st_wide); exact rfl; exact rfl)
        | ((with_reducible apply st_skip); exact rfl)
        | ((with_reducible apply st_t); exact rfl; exact rfl)
        | ((with_reducible apply st_f); exact rfl; exact rfl)
        | ((with_reducible apply st_t); exact rfl; assumption)
        | ((with_reducible apply st_f); exact rfl; assumption)
        | ((with_reducible apply st_some); exact rfl)
        | exact rfl
    · have d1 : decide ((i : Int) > 0) = true := by simp; omega
      have d2 : decide (0 < i) = true := by simp; omega
      have hsb := sub1 (n := i) (by omega) (by omega)
      have hxp := idx_il (l := l) (i := i - 1) (by omega)
      rw [show ((i - 1 : Nat) : Int) = (i : Int) - 1 from by omega] at hxp
      rw [d2, Bool.true_and, getD_lt (by omega : i - 1 < l.length)]
      cases hge : decide (l[i - 1] ≥ l[i])
      · rw [if_pos (by simp)]
        repeat' first
          | with_reducible refine st_ift ?_
          | with_reducible refine st_iff ?_
          | ((with_reducible apply st_ift2); exact rfl)
          | ((with_reducible apply st_iff2); exact rfl)
          | ((with_reducible apply st_call); exact g19; exact rfl; exact hf; exact rfl)
          | ((with_reducible apply st_some); exact hnl)
          | ((with_reducible apply st_some); exact hx)
          | ((with_reducible apply st_some); exact hxp)
          | ((with_reducible apply st_some); exact hsb)
          | ((with_reducible apply st_some); exact ha)
          | ((with_reducible apply st_callt); assumption; exact rfl; exact rfl; assumption)
          | ((with_reducible apply st_callf); assumption; exact rfl; exact rfl; assumption)
          | ((with_reducible apply st_call); assumption; exact rfl; exact rfl; exact rfl)
          | ((with_reducible apply st_wide); exact rfl; exact rfl)
          | ((with_reducible apply st_skip); exact rfl)
          | ((with_reducible apply st_t); exact rfl; exact rfl)
          | ((with_reducible apply st_f); exact rfl; exact rfl)
          | ((with_reducible apply st_t); exact rfl; assumption)
          | ((with_reducible apply st_f); exact rfl; assumption)
          | ((with_reducible apply st_some); exact rfl)
          | exact rfl
      · rw [if_neg (by simp)]
        repeat' first
          | with_reducible refine st_ift ?_
          | with_reducible refine st_iff ?_
          | ((with_reducible apply st_ift2); exact rfl)
          | ((with_reducible apply st_iff2); exact rfl)
          | ((with_reducible apply st_call); exact g19; exact rfl; exact hf; exact rfl)
          | ((with_reducible apply st_some); exact hnl)
          | ((with_reducible apply st_some); exact hx)
          | ((with_reducible apply st_some); exact hxp)
          | ((with_reducible apply st_some); exact hsb)
          | ((with_reducible apply st_some); exact ha)
          | ((with_reducible apply st_callt); assumption; exact rfl; exact rfl; assumption)
          | ((with_reducible apply st_callf); assumption; exact rfl; exact rfl; assumption)
          | ((with_reducible apply st_call); assumption; exact rfl; exact rfl; exact rfl)
          | ((with_reducible apply st_wide); exact rfl; exact rfl)
          | ((with_reducible apply st_skip); exact rfl)
          | ((with_reducible apply st_t); exact rfl; exact rfl)
          | ((with_reducible apply st_f); exact rfl; exact rfl)
          | ((with_reducible apply st_t); exact rfl; assumption)
          | ((with_reducible apply st_f); exact rfl; assumption)
          | ((with_reducible apply st_some); exact rfl)
          | exact rfl
  rcases first_bad (g := goodR n l) l.length with hall | ⟨m, hm, hbad, hgood⟩
  · have e : heldP n l = true := by
      unfold heldP
      rw [List.all_eq_true]
      exact fun i hi => hall i (List.mem_range.1 hi)
    rw [e]
    have hloop : iter (tbody 1 (S246L0 G (il l) (.int 0) (.int ((n : Int) - 1)))) (l.length + 1) [.int 0] = some (0, [.int (l.length : Int), .int (l.length : Int), .int (l.length : Int), .bool false]) := by
      refine iter_to (body := tbody 1 (S246L0 G (il l) (.int 0) (.int ((n : Int) - 1)))) (n := l.length) (f := l.length + 1) (l := 0) (fun i => [.int (i : Int)]) (by omega) (fun i hi => ?_) ?_
      · rw [hbody i hi, if_pos (hall i hi)]
      · refine tb rfl ?_
        have h0 : decide ((l.length : Int) < (l.length : Int)) = false := by simp
        unfold S246L0
        repeat' first
          | with_reducible refine st_ift ?_
          | with_reducible refine st_iff ?_
          | ((with_reducible apply st_ift2); exact rfl)
          | ((with_reducible apply st_iff2); exact rfl)
          | ((with_reducible apply st_f); exact rfl; exact h0)
          | ((with_reducible apply st_some); exact hnl)
          | ((with_reducible apply st_callt); assumption; exact rfl; exact rfl; assumption)
          | ((with_reducible apply st_callf); assumption; exact rfl; exact rfl; assumption)
          | ((with_reducible apply st_call); assumption; exact rfl; exact rfl; exact rfl)
          | ((with_reducible apply st_wide); exact rfl; exact rfl)
          | ((with_reducible apply st_skip); exact rfl)
          | ((with_reducible apply st_t); exact rfl; exact rfl)
          | ((with_reducible apply st_f); exact rfl; exact rfl)
          | ((with_reducible apply st_t); exact rfl; assumption)
          | ((with_reducible apply st_f); exact rfl; assumption)
          | ((with_reducible apply st_some); exact rfl)
          | exact rfl
    repeat' first
      | with_reducible refine st_ift ?_
      | with_reducible refine st_iff ?_
      | ((with_reducible apply st_ift2); exact rfl)
      | ((with_reducible apply st_iff2); exact rfl)
      | ((with_reducible apply st_join); exact hloop; exact rfl)
      | ((with_reducible apply st_callt); assumption; exact rfl; exact rfl; assumption)
      | ((with_reducible apply st_callf); assumption; exact rfl; exact rfl; assumption)
      | ((with_reducible apply st_call); assumption; exact rfl; exact rfl; exact rfl)
      | ((with_reducible apply st_wide); exact rfl; exact rfl)
      | ((with_reducible apply st_skip); exact rfl)
      | ((with_reducible apply st_t); exact rfl; exact rfl)
      | ((with_reducible apply st_f); exact rfl; exact rfl)
      | ((with_reducible apply st_t); exact rfl; assumption)
      | ((with_reducible apply st_f); exact rfl; assumption)
      | ((with_reducible apply st_some); exact rfl)
      | exact rfl
  · rw [held_no hm hbad]
    have hloop : iter (tbody 1 (S246L0 G (il l) (.int 0) (.int ((n : Int) - 1)))) (l.length + 1) [.int 0] = some (1, [.bool false]) := by
      refine iter_to (body := tbody 1 (S246L0 G (il l) (.int 0) (.int ((n : Int) - 1)))) (n := m) (f := l.length + 1) (l := 1) (fun i => [.int (i : Int)]) (by omega) (fun i hi => ?_) ?_
      · rw [hbody i (by omega), if_pos (hgood i hi)]
      · rw [hbody m hm, if_neg (by rw [hbad]; simp)]
    repeat' first
      | with_reducible refine st_ift ?_
      | with_reducible refine st_iff ?_
      | ((with_reducible apply st_ift2); exact rfl)
      | ((with_reducible apply st_iff2); exact rfl)
      | ((with_reducible apply st_out); exact hloop)
      | ((with_reducible apply st_callt); assumption; exact rfl; exact rfl; assumption)
      | ((with_reducible apply st_callf); assumption; exact rfl; exact rfl; assumption)
      | ((with_reducible apply st_call); assumption; exact rfl; exact rfl; exact rfl)
      | ((with_reducible apply st_wide); exact rfl; exact rfl)
      | ((with_reducible apply st_skip); exact rfl)
      | ((with_reducible apply st_t); exact rfl; exact rfl)
      | ((with_reducible apply st_f); exact rfl; exact rfl)
      | ((with_reducible apply st_t); exact rfl; assumption)
      | ((with_reducible apply st_f); exact rfl; assumption)
      | ((with_reducible apply st_some); exact rfl)
      | exact rfl
set_option maxHeartbeats 4000000 in
theorem run245 {G : Told} (g246 : G 246 = F246) : ∀ ds rs, F245 ds = some rs → ∃ fuel, run G fuel T245 ds = some (0, rs) := by
  intro ds rs h
  obtain ⟨B, l, rfl, hp⟩ := onH_inv h
  replace h := hp
  clear hp
  split at h
  case isFalse => cases h
  rename_i hc
  obtain ⟨hc, hl⟩ := hc
  simp only [Option.some.injEq] at h
  subst h
  have hvl : B.vs.length ≤ 1048576 := by
    have e1 : szB B = szM B.vs B.ts + B.ss.length + B.ws.length := rfl
    have e2 : szM B.vs B.ts = B.vs.length + B.ts.length + totL B.ts := by unfold szM; rfl
    omega
  have hsl : B.ss.length ≤ 1048576 := by
    have e1 : szB B = szM B.vs B.ts + B.ss.length + B.ws.length := rfl
    omega
  have hs := sub1 (n := B.vs.length) (by omega) (by omega)
  have hn := len_vl (l := B.vs)
  have hf : F246 [il l, .int 0, .int ((B.vs.length : Int) - 1)] = some [.bool (heldP B.vs.length l)] := by
    simp only [F246, dI_il, Option.bind_some]
    rw [if_pos ⟨trivial, by omega, by omega, hl⟩, show ((B.vs.length : Int) - 1 + 1).toNat = B.vs.length from by omega]
  obtain ⟨vs, ts, ss, fm, bn, ws, x, y, z⟩ := B
  simp only [bd, List.cons_append, List.nil_append] at hs hn hf ⊢
  refine ⟨0, ?_⟩
  rw [eq245]
  unfold S245
  repeat' first
    | with_reducible refine st_ift ?_
    | with_reducible refine st_iff ?_
    | ((with_reducible apply st_ift2); exact rfl)
    | ((with_reducible apply st_iff2); exact rfl)
    | ((with_reducible apply st_call); exact g246; exact rfl; exact hf; exact rfl)
    | ((with_reducible apply st_some); exact hn)
    | ((with_reducible apply st_some); exact hs)
    | ((with_reducible apply st_callt); assumption; exact rfl; exact rfl; assumption)
    | ((with_reducible apply st_callf); assumption; exact rfl; exact rfl; assumption)
    | ((with_reducible apply st_call); assumption; exact rfl; exact rfl; exact rfl)
    | ((with_reducible apply st_wide); exact rfl; exact rfl)
    | ((with_reducible apply st_skip); exact rfl)
    | ((with_reducible apply st_t); exact rfl; exact rfl)
    | ((with_reducible apply st_f); exact rfl; exact rfl)
    | ((with_reducible apply st_t); exact rfl; assumption)
    | ((with_reducible apply st_f); exact rfl; assumption)
    | ((with_reducible apply st_some); exact rfl)
    | exact rfl
set_option maxHeartbeats 4000000 in
theorem run247 {G : Told} (g19 : G 19 = F19) (g244 : G 244 = F244) : ∀ ds rs, F247 ds = some rs → ∃ fuel, run G fuel T247 ds = some (0, rs) := by
  intro ds rs h
  obtain ⟨B, l, q, rfl, hp⟩ := onHI_inv h
  replace h := hp
  clear hp
  split at h
  case isFalse => cases h
  rename_i hc
  obtain ⟨hc, hl⟩ := hc
  simp only [Option.some.injEq] at h
  subst h
  have hvl : B.vs.length ≤ 1048576 := by
    have e1 : szB B = szM B.vs B.ts + B.ss.length + B.ws.length := rfl
    have e2 : szM B.vs B.ts = B.vs.length + B.ts.length + totL B.ts := by unfold szM; rfl
    omega
  have hsl : B.ss.length ≤ 1048576 := by
    have e1 : szB B = szM B.vs B.ts + B.ss.length + B.ws.length := rfl
    omega
  have hs := sub1 (n := B.ss.length) (by omega) (by omega)
  have hn := len_sl (l := B.ss)
  have hf : F244 (bd B ++ [il l]) = some [.bool (validB B && heldP B.vs.length l)] := by
    unfold F244
    rw [onH_m]
    exact if_pos ⟨hc, hl⟩
  have h9 := F19_in q B.ss.length
  generalize (validB B && heldP B.vs.length l) = val at *
  generalize inr B.ss.length q = w at *
  obtain ⟨vs, ts, ss, fm, bn, ws, x, y, z⟩ := B
  simp only [bd, List.cons_append, List.nil_append] at hs hn hf h9 ⊢
  refine ⟨0, ?_⟩
  rw [eq247]
  unfold S247
  cases val
  · rw [Bool.false_and]
    repeat' first
      | with_reducible refine st_ift ?_
      | with_reducible refine st_iff ?_
      | ((with_reducible apply st_ift2); exact rfl)
      | ((with_reducible apply st_iff2); exact rfl)
      | ((with_reducible apply st_call); exact g244; exact rfl; exact hf; exact rfl)
      | ((with_reducible apply st_callt); assumption; exact rfl; exact rfl; assumption)
      | ((with_reducible apply st_callf); assumption; exact rfl; exact rfl; assumption)
      | ((with_reducible apply st_call); assumption; exact rfl; exact rfl; exact rfl)
      | ((with_reducible apply st_wide); exact rfl; exact rfl)
      | ((with_reducible apply st_skip); exact rfl)
      | ((with_reducible apply st_t); exact rfl; exact rfl)
      | ((with_reducible apply st_f); exact rfl; exact rfl)
      | ((with_reducible apply st_t); exact rfl; assumption)
      | ((with_reducible apply st_f); exact rfl; assumption)
      | ((with_reducible apply st_some); exact rfl)
      | exact rfl
  · rw [Bool.true_and]
    repeat' first
      | with_reducible refine st_ift ?_
      | with_reducible refine st_iff ?_
      | ((with_reducible apply st_ift2); exact rfl)
      | ((with_reducible apply st_iff2); exact rfl)
      | ((with_reducible apply st_call); exact g244; exact rfl; exact hf; exact rfl)
      | ((with_reducible apply st_call); exact g19; exact rfl; exact h9; exact rfl)
      | ((with_reducible apply st_some); exact hn)
      | ((with_reducible apply st_some); exact hs)
      | ((with_reducible apply st_callt); assumption; exact rfl; exact rfl; assumption)
      | ((with_reducible apply st_callf); assumption; exact rfl; exact rfl; assumption)
      | ((with_reducible apply st_call); assumption; exact rfl; exact rfl; exact rfl)
      | ((with_reducible apply st_wide); exact rfl; exact rfl)
      | ((with_reducible apply st_skip); exact rfl)
      | ((with_reducible apply st_t); exact rfl; exact rfl)
      | ((with_reducible apply st_f); exact rfl; exact rfl)
      | ((with_reducible apply st_t); exact rfl; assumption)
      | ((with_reducible apply st_f); exact rfl; assumption)
      | ((with_reducible apply st_some); exact rfl)
      | exact rfl
set_option maxHeartbeats 4000000 in
theorem run248 {G : Told} (g151 : G 151 = F151) : ∀ ds rs, F248 ds = some rs → ∃ fuel, run G fuel T248 ds = some (0, rs) := by
  intro ds rs h
  unfold F248 F186 at h
  obtain ⟨⟨B, r⟩, hb, h⟩ := Option.bind_eq_some_iff.1 h
  rw [dB_inv hb]
  split at h
  case isFalse => cases h
  rename_i hc
  simp only [Option.some.injEq] at h
  subst h
  obtain ⟨hr, hc⟩ := hc
  dsimp only at hr hc
  subst hr
  obtain ⟨vs, ts, ss, fm, bn, ws, x, y, z⟩ := B
  simp only [bd, List.cons_append, List.nil_append]
  have hz : szM vs ts + ss.length + ws.length ≤ 1048576 := hc
  refine ⟨0, ?_⟩
  rw [eq248]
  unfold S248
  have h1 : F151 [vl vs, tl ts] = some [vl vs, tl ts] := F145_m (by omega)
  have h2 : gev none .app [.lst [], sl ss] = some (sl ss) := by
    simp only [gev, gok, if_true, Prim.ev, sl]
    rw [if_pos (by simp; omega)]
    simp
  have h3 : gev none .app [.lst [], fl ws] = some (fl ws) := by
    simp only [gev, gok, if_true, Prim.ev, fl]
    rw [if_pos (by simp; omega)]
    simp
  repeat' first
    | with_reducible refine st_ift ?_
    | with_reducible refine st_iff ?_
    | ((with_reducible apply st_ift2); exact rfl)
    | ((with_reducible apply st_iff2); exact rfl)
    | ((with_reducible apply st_call); exact g151; exact rfl; exact h1; exact rfl)
    | ((with_reducible apply st_some); exact h2)
    | ((with_reducible apply st_some); exact h3)
    | ((with_reducible apply st_callt); assumption; exact rfl; exact rfl; assumption)
    | ((with_reducible apply st_callf); assumption; exact rfl; exact rfl; assumption)
    | ((with_reducible apply st_call); assumption; exact rfl; exact rfl; exact rfl)
    | ((with_reducible apply st_wide); exact rfl; exact rfl)
    | ((with_reducible apply st_skip); exact rfl)
    | ((with_reducible apply st_t); exact rfl; exact rfl)
    | ((with_reducible apply st_f); exact rfl; exact rfl)
    | ((with_reducible apply st_t); exact rfl; assumption)
    | ((with_reducible apply st_f); exact rfl; assumption)
    | ((with_reducible apply st_some); exact rfl)
    | exact rfl
set_option maxHeartbeats 4000000 in
theorem run249 {G : Told} : ∀ ds rs, F249 ds = some rs → ∃ fuel, run G fuel T249 ds = some (0, rs) := by
  intro ds rs h
  obtain ⟨B, l, rfl, hp⟩ := onH_inv h
  replace h := hp
  clear hp
  split at h
  case isFalse => cases h
  rename_i hc
  obtain ⟨hc, hl⟩ := hc
  simp only [Option.some.injEq] at h
  subst h
  have hvl : B.vs.length ≤ 1048576 := by
    have e1 : szB B = szM B.vs B.ts + B.ss.length + B.ws.length := rfl
    have e2 : szM B.vs B.ts = B.vs.length + B.ts.length + totL B.ts := by unfold szM; rfl
    omega
  have hsl : B.ss.length ≤ 1048576 := by
    have e1 : szB B = szM B.vs B.ts + B.ss.length + B.ws.length := rfl
    omega
  have hin := held_in hl
  have hll := held_len hl
  obtain ⟨vs, ts, ss, fm, bn, ws, x, y, z⟩ := B
  simp only [bd, List.cons_append, List.nil_append]
  have hvl : vs.length ≤ 1048576 := hvl
  have hll : l.length ≤ vs.length := hll
  have hin : ∀ i, (hi : i < l.length) → inr vs.length l[i] = true := hin
  refine ⟨l.length + 1, ?_⟩
  rw [eq249]
  unfold S249
  have hn := len_vl (l := vs)
  have hnl := len_il (l := l)
  have hU : ∃ U : Nat → List Bool, (∀ i, (U i).length = vs.length) ∧ U 0 = List.replicate vs.length false ∧ U l.length = (List.range vs.length).map (fun (c : Nat) => l.contains (c : Int)) ∧ ∀ i, (hi : i < l.length) → (U i).set l[i].toNat true = U (i + 1) := by
    refine ⟨fun i => (List.range vs.length).map fun (c : Nat) => (l.take i).contains (c : Int), by simp, ?_, ?_, fun i hi => ?_⟩
    · refine List.ext_getElem (by simp) fun j h1 h2 => ?_
      simp
    · simp only [List.take_length]
    · have hp := hin i hi
      unfold inr at hp
      simp only [Bool.and_eq_true, decide_eq_true_eq] at hp
      refine List.ext_getElem (by simp) fun j h1 h2 => ?_
      simp only [List.length_map, List.length_range] at h2
      rw [List.getElem_set]
      simp only [List.getElem_map, List.getElem_range]
      rw [take_step hi]
      rw [Bool.eq_iff_iff]
      simp only [List.contains_iff_mem, List.mem_append, List.mem_cons, List.not_mem_nil, or_false]
      split
      · rename_i he
        have : (j : Int) = l[i] := by omega
        simp [this]
      · rename_i he
        simp only [List.contains_iff_mem]
        constructor
        · exact fun h => .inl h
        · rintro (h | h)
          · exact h
          · omega
  obtain ⟨U, hul, hu0, huN, hus⟩ := hU
  rw [← huN]
  have hrep := rep_bo (n := vs.length) (by omega)
  rw [← hu0] at hrep
  have hloop : iter (tbody 2 (S249L0 G (il l) (.int (l.length : Int)))) (l.length + 1) [bo (U 0), .int 0] = some (0, [bo (U l.length), .int (l.length : Int), .bool false]) := by
    refine iter_to (body := tbody 2 (S249L0 G (il l) (.int (l.length : Int)))) (n := l.length) (f := l.length + 1) (l := 0) (fun i => [bo (U i), .int (i : Int)]) (by omega) (fun i hi => ?_) ?_
    · refine tb rfl ?_
      have h0 : decide ((i : Int) < (l.length : Int)) = true := by simpa using hi
      have hx := idx_il hi
      have ha := add1n (i := i) (by omega)
      have hp := hin i hi
      unfold inr at hp
      simp only [Bool.and_eq_true, decide_eq_true_eq] at hp
      have e : l[i] = (l[i].toNat : Int) := by omega
      have hlen := hul i
      have h1 := idx_bo (l := U i) (i := l[i].toNat) (by omega)
      have h2 := set_bo (l := U i) (i := l[i].toNat) (v := true) (by omega)
      rw [hus i hi] at h2
      rw [← e] at h1 h2
      unfold S249L0
      repeat' first
        | with_reducible refine st_ift ?_
        | with_reducible refine st_iff ?_
        | ((with_reducible apply st_ift2); exact rfl)
        | ((with_reducible apply st_iff2); exact rfl)
        | ((with_reducible apply st_t); exact rfl; exact h0)
        | ((with_reducible apply st_some); exact hx)
        | ((with_reducible apply st_some); exact h1)
        | ((with_reducible apply st_some); exact h2)
        | ((with_reducible apply st_some); exact ha)
        | ((with_reducible apply st_callt); assumption; exact rfl; exact rfl; assumption)
        | ((with_reducible apply st_callf); assumption; exact rfl; exact rfl; assumption)
        | ((with_reducible apply st_call); assumption; exact rfl; exact rfl; exact rfl)
        | ((with_reducible apply st_wide); exact rfl; exact rfl)
        | ((with_reducible apply st_skip); exact rfl)
        | ((with_reducible apply st_t); exact rfl; exact rfl)
        | ((with_reducible apply st_f); exact rfl; exact rfl)
        | ((with_reducible apply st_t); exact rfl; assumption)
        | ((with_reducible apply st_f); exact rfl; assumption)
        | ((with_reducible apply st_some); exact rfl)
        | exact rfl
    · refine tb rfl ?_
      have h0 : decide ((l.length : Int) < (l.length : Int)) = false := by simp
      unfold S249L0
      repeat' first
        | with_reducible refine st_ift ?_
        | with_reducible refine st_iff ?_
        | ((with_reducible apply st_ift2); exact rfl)
        | ((with_reducible apply st_iff2); exact rfl)
        | ((with_reducible apply st_f); exact rfl; exact h0)
        | ((with_reducible apply st_callt); assumption; exact rfl; exact rfl; assumption)
        | ((with_reducible apply st_callf); assumption; exact rfl; exact rfl; assumption)
        | ((with_reducible apply st_call); assumption; exact rfl; exact rfl; exact rfl)
        | ((with_reducible apply st_wide); exact rfl; exact rfl)
        | ((with_reducible apply st_skip); exact rfl)
        | ((with_reducible apply st_t); exact rfl; exact rfl)
        | ((with_reducible apply st_f); exact rfl; exact rfl)
        | ((with_reducible apply st_t); exact rfl; assumption)
        | ((with_reducible apply st_f); exact rfl; assumption)
        | ((with_reducible apply st_some); exact rfl)
        | exact rfl
  repeat' first
    | with_reducible refine st_ift ?_
    | with_reducible refine st_iff ?_
    | ((with_reducible apply st_ift2); exact rfl)
    | ((with_reducible apply st_iff2); exact rfl)
    | ((with_reducible apply st_some); with_reducible exact hrep)
    | ((with_reducible apply st_join); exact hloop; exact rfl)
    | ((with_reducible apply st_some); exact hn)
    | ((with_reducible apply st_some); exact hnl)
    | ((with_reducible apply st_callt); assumption; exact rfl; exact rfl; assumption)
    | ((with_reducible apply st_callf); assumption; exact rfl; exact rfl; assumption)
    | ((with_reducible apply st_call); assumption; exact rfl; exact rfl; exact rfl)
    | ((with_reducible apply st_wide); exact rfl; exact rfl)
    | ((with_reducible apply st_skip); exact rfl)
    | ((with_reducible apply st_t); exact rfl; exact rfl)
    | ((with_reducible apply st_f); exact rfl; exact rfl)
    | ((with_reducible apply st_t); exact rfl; assumption)
    | ((with_reducible apply st_f); exact rfl; assumption)
    | ((with_reducible apply st_some); exact rfl)
    | exact rfl
set_option maxHeartbeats 4000000 in
theorem run250 {G : Told} (g13 : G 13 = F13) (g15 : G 15 = F15) (g30 : G 30 = F30) (g31 : G 31 = F31) : ∀ ds rs, F250 ds = some rs → ∃ fuel, run G fuel T250 ds = some (0, rs) := by
  intro ds rs h
  unfold F250 at h
  split at h
  case h_2 => cases h
  rename_i a i j l k m
  obtain ⟨vs, hv, h⟩ := Option.bind_eq_some_iff.1 h
  rw [dV_inv hv]
  split at h
  case isFalse => cases h
  rename_i hc
  simp only [Option.some.injEq] at h
  subst h
  have hs := hc.choose_spec
  generalize hc.choose = u at *
  clear hc hv
  obtain ⟨rfl, hu, ha, hb, hab⟩ := hs
  refine ⟨0, ?_⟩
  rw [eq250]
  unfold S250
  obtain ⟨s, hs⟩ : ∃ s : Sp, s = ⟨i, j, l, k⟩ := ⟨_, rfl⟩
  have e1 : i = s.a := by rw [hs]
  have e2 : j = s.b := by rw [hs]
  have e3 : l = s.l := by rw [hs]
  rw [← hs]
  clear hs
  subst e1 e2 e3
  have xa := idx_plc ha
  have xb := idx_plc hb
  have hla : inr vs.length s.a = true := ha
  unfold inr at ha hb
  simp only [Bool.and_eq_true, decide_eq_true_eq] at ha hb
  have ea : s.a = (s.a.toNat : Int) := by omega
  have eb : s.b = (s.b.toNat : Int) := by omega
  have hE : ∀ p q, projV vs s p q = (if q = true then (if p = true then vs else vs.set s.a.toNat (V3.add (plc vs s.a) (V3.scale (lessV (plc vs s.b) (plc vs s.a)) (projG vs s p q)))) else (if p = true then vs else vs.set s.a.toNat (V3.add (plc vs s.a) (V3.scale (lessV (plc vs s.b) (plc vs s.a)) (projG vs s p q)))).set s.b.toNat (V3.add (plc vs s.b) (V3.scale (lessV (plc vs s.b) (plc vs s.a)) (fneg .f32 (projG vs s p q))))) := fun p q => by unfold projV; rfl
  have hG : ∀ p q, projG vs s p q = if (!p && !q) = true then fmul .f32 1056964608 (gainP (fsub .f32 (longV (lessV (plc vs s.b) (plc vs s.a))) s.l) (longV (lessV (plc vs s.b) (plc vs s.a)))) else gainP (fsub .f32 (longV (lessV (plc vs s.b) (plc vs s.a))) s.l) (longV (lessV (plc vs s.b) (plc vs s.a))) := fun p q => by unfold projG; rfl
  have hless : F13 [.flt (plc vs s.b).x, .flt (plc vs s.b).y, .flt (plc vs s.b).z, .flt (plc vs s.a).x, .flt (plc vs s.a).y, .flt (plc vs s.a).z] = some (nds (lessV (plc vs s.b) (plc vs s.a))) := rfl
  have hlong : F15 [.flt (lessV (plc vs s.b) (plc vs s.a)).x, .flt (lessV (plc vs s.b) (plc vs s.a)).y, .flt (lessV (plc vs s.b) (plc vs s.a)).z] = some [.flt (longV (lessV (plc vs s.b) (plc vs s.a)))] := by unfold longV; rfl
  have hset1 : ∀ v, gev none .set [vl vs, .int s.a, vec v] = some (vl (vs.set s.a.toNat v)) := fun v => by
    have := set_vl (l := vs) (i := s.a.toNat) (v := v) (by omega)
    rwa [← ea] at this
  have hset2 : ∀ (us : List V3) v, us.length = vs.length → gev none .set [vl us, .int s.b, vec v] = some (vl (us.set s.b.toNat v)) := fun us v hu => by
    have := set_vl (l := us) (i := s.b.toNat) (v := v) (by omega)
    rwa [← eb] at this
  have hidx2 : ∀ v, gev none .idx [vl (vs.set s.a.toNat v), .int s.b] = some (vec (plc vs s.b)) := fun v => by
    have h1 := idx_vl (l := vs.set s.a.toNat v) (i := s.b.toNat) (by simp; omega)
    rw [← eb] at h1
    rw [h1, List.getElem_set_ne (by omega)]
    unfold plc
    rw [getD_lt (by omega)]
  have hidx1 : ∀ v, ∃ u, gev none .idx [vl (vs.set s.a.toNat v), .int s.a] = some u := fun v => by
    have h1 := idx_vl (l := vs.set s.a.toNat v) (i := s.a.toNat) (by simp; omega)
    rw [← ea] at h1
    exact ⟨_, h1⟩
  have xua : gev none .idx [bo u, .int s.a] = some (.bool (u.getD s.a.toNat false)) := by
    have h1 := idx_bo (l := u) (i := s.a.toNat) (by omega)
    rw [← ea] at h1
    rw [h1, getD_lt (by omega)]
  have xub : gev none .idx [bo u, .int s.b] = some (.bool (u.getD s.b.toNat false)) := by
    have h1 := idx_bo (l := u) (i := s.b.toNat) (by omega)
    rw [← eb] at h1
    rw [h1, getD_lt (by omega)]
  rw [hE, hG]
  generalize u.getD s.a.toNat false = p at *
  generalize u.getD s.b.toNat false = q at *
  clear hE hG ha hb ea eb
  generalize hlg : longV (lessV (plc vs s.b) (plc vs s.a)) = lg at *
  generalize lessV (plc vs s.b) (plc vs s.a) = d at *
  clear hlg
  generalize hga : gainP (fsub .f32 lg s.l) lg = g0 at *
  have htif : tif (.bool (fgt .f32 lg 0)) ((gev none (.far .sub .f32) [.flt lg, .flt s.l]).bind fun x21 => (gev none (.far .quo .f32) [x21, .flt lg]).bind fun x22 => some (0, [x22])) (some (0, [.flt 0])) = some (0, [.flt g0]) := by
    unfold gainP at hga
    cases hq : fgt .f32 lg 0
    · rw [hq, if_neg (by simp)] at hga
      subst hga
      exact st_iff rfl
    · rw [hq, if_pos rfl] at hga
      subst hga
      exact st_ift rfl
  clear hga
  obtain ⟨gg, hgg⟩ : ∃ x, (if (!p && !q) = true then fmul .f32 1056964608 g0 else g0) = x := ⟨_, rfl⟩
  rw [hgg]
  have f1 : F31 [.flt d.x, .flt d.y, .flt d.z, .flt gg] = some (nds (V3.scale d gg)) := rfl
  have f2 : F31 [.flt d.x, .flt d.y, .flt d.z, .flt (fneg .f32 gg)] = some (nds (V3.scale d (fneg .f32 gg))) := rfl
  have f3 : F30 [.flt (plc vs s.a).x, .flt (plc vs s.a).y, .flt (plc vs s.a).z, .flt (V3.scale d gg).x, .flt (V3.scale d gg).y, .flt (V3.scale d gg).z] = some (nds (V3.add (plc vs s.a) (V3.scale d gg))) := rfl
  have f4 : F30 [.flt (plc vs s.b).x, .flt (plc vs s.b).y, .flt (plc vs s.b).z, .flt (V3.scale d (fneg .f32 gg)).x, .flt (V3.scale d (fneg .f32 gg)).y, .flt (V3.scale d (fneg .f32 gg)).z] = some (nds (V3.add (plc vs s.b) (V3.scale d (fneg .f32 gg)))) := rfl
  generalize V3.add (plc vs s.a) (V3.scale d gg) = va at *
  generalize V3.add (plc vs s.b) (V3.scale d (fneg .f32 gg)) = vb at *
  generalize V3.scale d gg = sa at *
  generalize V3.scale d (fneg .f32 gg) = sb at *
  have s1 := hset1 va
  have s2 := hset2 vs vb rfl
  have s3 := hset2 (vs.set s.a.toNat va) vb (by simp)
  have y2 := hidx2 va
  obtain ⟨u1, y1⟩ := hidx1 va
  cases p
  · cases q
    · have hg2 : fmul .f32 1056964608 g0 = gg := hgg
      repeat' first
        | with_reducible refine st_ift ?_
        | with_reducible refine st_iff ?_
        | ((with_reducible apply st_ift2); exact rfl)
        | ((with_reducible apply st_iff2); exact rfl)
        | ((with_reducible apply st_call); exact g13; exact rfl; exact hless; exact rfl)
        | ((with_reducible apply st_call); exact g15; exact rfl; exact hlong; exact rfl)
        | ((with_reducible apply st_call); exact g31; exact rfl; exact f1; exact rfl)
        | ((with_reducible apply st_call); exact g31; exact rfl; exact f2; exact rfl)
        | ((with_reducible apply st_call); exact g30; exact rfl; exact f3; exact rfl)
        | ((with_reducible apply st_call); exact g30; exact rfl; exact f4; exact rfl)
        | ((with_reducible apply st_some); exact xa)
        | ((with_reducible apply st_some); exact xb)
        | ((with_reducible apply st_some); exact xua)
        | ((with_reducible apply st_some); exact xub)
        | ((with_reducible apply st_some); exact s1)
        | ((with_reducible apply st_some); exact s2)
        | ((with_reducible apply st_some); exact s3)
        | ((with_reducible apply st_some); exact y1)
        | ((with_reducible apply st_some); exact y2)
        | ((with_reducible apply st_callt); assumption; exact rfl; exact rfl; assumption)
        | ((with_reducible apply st_callf); assumption; exact rfl; exact rfl; assumption)
        | ((with_reducible apply st_call); assumption; exact rfl; exact rfl; exact rfl)
        | ((with_reducible apply st_wide); exact rfl; exact rfl)
        | ((with_reducible apply st_skip); exact rfl)
        | ((with_reducible apply st_t); exact rfl; exact rfl)
        | ((with_reducible apply st_f); exact rfl; exact rfl)
        | ((with_reducible apply st_t); exact rfl; assumption)
        | ((with_reducible apply st_f); exact rfl; assumption)
        | ((with_reducible apply st_some); exact rfl)
        | exact rfl
      refine st_join (ds := [.flt g0]) htif rfl ?_
      repeat' first
        | with_reducible refine st_ift ?_
        | with_reducible refine st_iff ?_
        | ((with_reducible apply st_ift2); exact rfl)
        | ((with_reducible apply st_iff2); exact rfl)
        | ((with_reducible apply st_call); exact g13; exact rfl; exact hless; exact rfl)
        | ((with_reducible apply st_call); exact g15; exact rfl; exact hlong; exact rfl)
        | ((with_reducible apply st_call); exact g31; exact rfl; exact f1; exact rfl)
        | ((with_reducible apply st_call); exact g31; exact rfl; exact f2; exact rfl)
        | ((with_reducible apply st_call); exact g30; exact rfl; exact f3; exact rfl)
        | ((with_reducible apply st_call); exact g30; exact rfl; exact f4; exact rfl)
        | ((with_reducible apply st_some); exact xa)
        | ((with_reducible apply st_some); exact xb)
        | ((with_reducible apply st_some); exact xua)
        | ((with_reducible apply st_some); exact xub)
        | ((with_reducible apply st_some); exact s1)
        | ((with_reducible apply st_some); exact s2)
        | ((with_reducible apply st_some); exact s3)
        | ((with_reducible apply st_some); exact y1)
        | ((with_reducible apply st_some); exact y2)
        | ((with_reducible apply st_callt); assumption; exact rfl; exact rfl; assumption)
        | ((with_reducible apply st_callf); assumption; exact rfl; exact rfl; assumption)
        | ((with_reducible apply st_call); assumption; exact rfl; exact rfl; exact rfl)
        | ((with_reducible apply st_wide); exact rfl; exact rfl)
        | ((with_reducible apply st_skip); exact rfl)
        | ((with_reducible apply st_t); exact rfl; exact rfl)
        | ((with_reducible apply st_f); exact rfl; exact rfl)
        | ((with_reducible apply st_t); exact rfl; assumption)
        | ((with_reducible apply st_f); exact rfl; assumption)
        | ((with_reducible apply st_some); exact rfl)
        | exact rfl
      refine st_join (ds := [.flt gg]) ?_ rfl ?_
      · rw [← hg2]
        exact st_ift rfl
      repeat' first
        | with_reducible refine st_ift ?_
        | with_reducible refine st_iff ?_
        | ((with_reducible apply st_ift2); exact rfl)
        | ((with_reducible apply st_iff2); exact rfl)
        | ((with_reducible apply st_call); exact g13; exact rfl; exact hless; exact rfl)
        | ((with_reducible apply st_call); exact g15; exact rfl; exact hlong; exact rfl)
        | ((with_reducible apply st_call); exact g31; exact rfl; exact f1; exact rfl)
        | ((with_reducible apply st_call); exact g31; exact rfl; exact f2; exact rfl)
        | ((with_reducible apply st_call); exact g30; exact rfl; exact f3; exact rfl)
        | ((with_reducible apply st_call); exact g30; exact rfl; exact f4; exact rfl)
        | ((with_reducible apply st_some); exact xa)
        | ((with_reducible apply st_some); exact xb)
        | ((with_reducible apply st_some); exact xua)
        | ((with_reducible apply st_some); exact xub)
        | ((with_reducible apply st_some); exact s1)
        | ((with_reducible apply st_some); exact s2)
        | ((with_reducible apply st_some); exact s3)
        | ((with_reducible apply st_some); exact y1)
        | ((with_reducible apply st_some); exact y2)
        | ((with_reducible apply st_callt); assumption; exact rfl; exact rfl; assumption)
        | ((with_reducible apply st_callf); assumption; exact rfl; exact rfl; assumption)
        | ((with_reducible apply st_call); assumption; exact rfl; exact rfl; exact rfl)
        | ((with_reducible apply st_wide); exact rfl; exact rfl)
        | ((with_reducible apply st_skip); exact rfl)
        | ((with_reducible apply st_t); exact rfl; exact rfl)
        | ((with_reducible apply st_f); exact rfl; exact rfl)
        | ((with_reducible apply st_t); exact rfl; assumption)
        | ((with_reducible apply st_f); exact rfl; assumption)
        | ((with_reducible apply st_some); exact rfl)
        | exact rfl
      refine st_join (ds := [vl (vs.set s.a.toNat va)]) ?_ rfl ?_
      · repeat' first
          | with_reducible refine st_ift ?_
          | with_reducible refine st_iff ?_
          | ((with_reducible apply st_ift2); exact rfl)
          | ((with_reducible apply st_iff2); exact rfl)
          | ((with_reducible apply st_call); exact g13; exact rfl; exact hless; exact rfl)
          | ((with_reducible apply st_call); exact g15; exact rfl; exact hlong; exact rfl)
          | ((with_reducible apply st_call); exact g31; exact rfl; exact f1; exact rfl)
          | ((with_reducible apply st_call); exact g31; exact rfl; exact f2; exact rfl)
          | ((with_reducible apply st_call); exact g30; exact rfl; exact f3; exact rfl)
          | ((with_reducible apply st_call); exact g30; exact rfl; exact f4; exact rfl)
          | ((with_reducible apply st_some); exact xa)
          | ((with_reducible apply st_some); exact xb)
          | ((with_reducible apply st_some); exact xua)
          | ((with_reducible apply st_some); exact xub)
          | ((with_reducible apply st_some); exact s1)
          | ((with_reducible apply st_some); exact s2)
          | ((with_reducible apply st_some); exact s3)
          | ((with_reducible apply st_some); exact y1)
          | ((with_reducible apply st_some); exact y2)
          | ((with_reducible apply st_callt); assumption; exact rfl; exact rfl; assumption)
          | ((with_reducible apply st_callf); assumption; exact rfl; exact rfl; assumption)
          | ((with_reducible apply st_call); assumption; exact rfl; exact rfl; exact rfl)
          | ((with_reducible apply st_wide); exact rfl; exact rfl)
          | ((with_reducible apply st_skip); exact rfl)
          | ((with_reducible apply st_t); exact rfl; exact rfl)
          | ((with_reducible apply st_f); exact rfl; exact rfl)
          | ((with_reducible apply st_t); exact rfl; assumption)
          | ((with_reducible apply st_f); exact rfl; assumption)
          | ((with_reducible apply st_some); exact rfl)
          | exact rfl
      repeat' first
        | with_reducible refine st_ift ?_
        | with_reducible refine st_iff ?_
        | ((with_reducible apply st_ift2); exact rfl)
        | ((with_reducible apply st_iff2); exact rfl)
        | ((with_reducible apply st_call); exact g13; exact rfl; exact hless; exact rfl)
        | ((with_reducible apply st_call); exact g15; exact rfl; exact hlong; exact rfl)
        | ((with_reducible apply st_call); exact g31; exact rfl; exact f1; exact rfl)
        | ((with_reducible apply st_call); exact g31; exact rfl; exact f2; exact rfl)
        | ((with_reducible apply st_call); exact g30; exact rfl; exact f3; exact rfl)
        | ((with_reducible apply st_call); exact g30; exact rfl; exact f4; exact rfl)
        | ((with_reducible apply st_some); exact xa)
        | ((with_reducible apply st_some); exact xb)
        | ((with_reducible apply st_some); exact xua)
        | ((with_reducible apply st_some); exact xub)
        | ((with_reducible apply st_some); exact s1)
        | ((with_reducible apply st_some); exact s2)
        | ((with_reducible apply st_some); exact s3)
        | ((with_reducible apply st_some); exact y1)
        | ((with_reducible apply st_some); exact y2)
        | ((with_reducible apply st_callt); assumption; exact rfl; exact rfl; assumption)
        | ((with_reducible apply st_callf); assumption; exact rfl; exact rfl; assumption)
        | ((with_reducible apply st_call); assumption; exact rfl; exact rfl; exact rfl)
        | ((with_reducible apply st_wide); exact rfl; exact rfl)
        | ((with_reducible apply st_skip); exact rfl)
        | ((with_reducible apply st_t); exact rfl; exact rfl)
        | ((with_reducible apply st_f); exact rfl; exact rfl)
        | ((with_reducible apply st_t); exact rfl; assumption)
        | ((with_reducible apply st_f); exact rfl; assumption)
        | ((with_reducible apply st_some); exact rfl)
        | exact rfl
      refine st_join (ds := [vl ((vs.set s.a.toNat va).set s.b.toNat vb)]) ?_ rfl ?_
      · repeat' first
          | with_reducible refine st_ift ?_
          | with_reducible refine st_iff ?_
          | ((with_reducible apply st_ift2); exact rfl)
          | ((with_reducible apply st_iff2); exact rfl)
          | ((with_reducible apply st_call); exact g13; exact rfl; exact hless; exact rfl)
          | ((with_reducible apply st_call); exact g15; exact rfl; exact hlong; exact rfl)
          | ((with_reducible apply st_call); exact g31; exact rfl; exact f1; exact rfl)
          | ((with_reducible apply st_call); exact g31; exact rfl; exact f2; exact rfl)
          | ((with_reducible apply st_call); exact g30; exact rfl; exact f3; exact rfl)
          | ((with_reducible apply st_call); exact g30; exact rfl; exact f4; exact rfl)
          | ((with_reducible apply st_some); exact xa)
          | ((with_reducible apply st_some); exact xb)
          | ((with_reducible apply st_some); exact xua)
          | ((with_reducible apply st_some); exact xub)
          | ((with_reducible apply st_some); exact s1)
          | ((with_reducible apply st_some); exact s2)
          | ((with_reducible apply st_some); exact s3)
          | ((with_reducible apply st_some); exact y1)
          | ((with_reducible apply st_some); exact y2)
          | ((with_reducible apply st_callt); assumption; exact rfl; exact rfl; assumption)
          | ((with_reducible apply st_callf); assumption; exact rfl; exact rfl; assumption)
          | ((with_reducible apply st_call); assumption; exact rfl; exact rfl; exact rfl)
          | ((with_reducible apply st_wide); exact rfl; exact rfl)
          | ((with_reducible apply st_skip); exact rfl)
          | ((with_reducible apply st_t); exact rfl; exact rfl)
          | ((with_reducible apply st_f); exact rfl; exact rfl)
          | ((with_reducible apply st_t); exact rfl; assumption)
          | ((with_reducible apply st_f); exact rfl; assumption)
          | ((with_reducible apply st_some); exact rfl)
          | exact rfl
      rfl
    · have hg2 : g0 = gg := hgg
      repeat' first
        | with_reducible refine st_ift ?_
        | with_reducible refine st_iff ?_
        | ((with_reducible apply st_ift2); exact rfl)
        | ((with_reducible apply st_iff2); exact rfl)
        | ((with_reducible apply st_call); exact g13; exact rfl; exact hless; exact rfl)
        | ((with_reducible apply st_call); exact g15; exact rfl; exact hlong; exact rfl)
        | ((with_reducible apply st_call); exact g31; exact rfl; exact f1; exact rfl)
        | ((with_reducible apply st_call); exact g31; exact rfl; exact f2; exact rfl)
        | ((with_reducible apply st_call); exact g30; exact rfl; exact f3; exact rfl)
        | ((with_reducible apply st_call); exact g30; exact rfl; exact f4; exact rfl)
        | ((with_reducible apply st_some); exact xa)
        | ((with_reducible apply st_some); exact xb)
        | ((with_reducible apply st_some); exact xua)
        | ((with_reducible apply st_some); exact xub)
        | ((with_reducible apply st_some); exact s1)
        | ((with_reducible apply st_some); exact s2)
        | ((with_reducible apply st_some); exact s3)
        | ((with_reducible apply st_some); exact y1)
        | ((with_reducible apply st_some); exact y2)
        | ((with_reducible apply st_callt); assumption; exact rfl; exact rfl; assumption)
        | ((with_reducible apply st_callf); assumption; exact rfl; exact rfl; assumption)
        | ((with_reducible apply st_call); assumption; exact rfl; exact rfl; exact rfl)
        | ((with_reducible apply st_wide); exact rfl; exact rfl)
        | ((with_reducible apply st_skip); exact rfl)
        | ((with_reducible apply st_t); exact rfl; exact rfl)
        | ((with_reducible apply st_f); exact rfl; exact rfl)
        | ((with_reducible apply st_t); exact rfl; assumption)
        | ((with_reducible apply st_f); exact rfl; assumption)
        | ((with_reducible apply st_some); exact rfl)
        | exact rfl
      refine st_join (ds := [.flt g0]) htif rfl ?_
      repeat' first
        | with_reducible refine st_ift ?_
        | with_reducible refine st_iff ?_
        | ((with_reducible apply st_ift2); exact rfl)
        | ((with_reducible apply st_iff2); exact rfl)
        | ((with_reducible apply st_call); exact g13; exact rfl; exact hless; exact rfl)
        | ((with_reducible apply st_call); exact g15; exact rfl; exact hlong; exact rfl)
        | ((with_reducible apply st_call); exact g31; exact rfl; exact f1; exact rfl)
        | ((with_reducible apply st_call); exact g31; exact rfl; exact f2; exact rfl)
        | ((with_reducible apply st_call); exact g30; exact rfl; exact f3; exact rfl)
        | ((with_reducible apply st_call); exact g30; exact rfl; exact f4; exact rfl)
        | ((with_reducible apply st_some); exact xa)
        | ((with_reducible apply st_some); exact xb)
        | ((with_reducible apply st_some); exact xua)
        | ((with_reducible apply st_some); exact xub)
        | ((with_reducible apply st_some); exact s1)
        | ((with_reducible apply st_some); exact s2)
        | ((with_reducible apply st_some); exact s3)
        | ((with_reducible apply st_some); exact y1)
        | ((with_reducible apply st_some); exact y2)
        | ((with_reducible apply st_callt); assumption; exact rfl; exact rfl; assumption)
        | ((with_reducible apply st_callf); assumption; exact rfl; exact rfl; assumption)
        | ((with_reducible apply st_call); assumption; exact rfl; exact rfl; exact rfl)
        | ((with_reducible apply st_wide); exact rfl; exact rfl)
        | ((with_reducible apply st_skip); exact rfl)
        | ((with_reducible apply st_t); exact rfl; exact rfl)
        | ((with_reducible apply st_f); exact rfl; exact rfl)
        | ((with_reducible apply st_t); exact rfl; assumption)
        | ((with_reducible apply st_f); exact rfl; assumption)
        | ((with_reducible apply st_some); exact rfl)
        | exact rfl
      refine st_join (ds := [.flt gg]) ?_ rfl ?_
      · rw [← hg2]
        exact st_iff rfl
      repeat' first
        | with_reducible refine st_ift ?_
        | with_reducible refine st_iff ?_
        | ((with_reducible apply st_ift2); exact rfl)
        | ((with_reducible apply st_iff2); exact rfl)
        | ((with_reducible apply st_call); exact g13; exact rfl; exact hless; exact rfl)
        | ((with_reducible apply st_call); exact g15; exact rfl; exact hlong; exact rfl)
        | ((with_reducible apply st_call); exact g31; exact rfl; exact f1; exact rfl)
        | ((with_reducible apply st_call); exact g31; exact rfl; exact f2; exact rfl)
        | ((with_reducible apply st_call); exact g30; exact rfl; exact f3; exact rfl)
        | ((with_reducible apply st_call); exact g30; exact rfl; exact f4; exact rfl)
        | ((with_reducible apply st_some); exact xa)
        | ((with_reducible apply st_some); exact xb)
        | ((with_reducible apply st_some); exact xua)
        | ((with_reducible apply st_some); exact xub)
        | ((with_reducible apply st_some); exact s1)
        | ((with_reducible apply st_some); exact s2)
        | ((with_reducible apply st_some); exact s3)
        | ((with_reducible apply st_some); exact y1)
        | ((with_reducible apply st_some); exact y2)
        | ((with_reducible apply st_callt); assumption; exact rfl; exact rfl; assumption)
        | ((with_reducible apply st_callf); assumption; exact rfl; exact rfl; assumption)
        | ((with_reducible apply st_call); assumption; exact rfl; exact rfl; exact rfl)
        | ((with_reducible apply st_wide); exact rfl; exact rfl)
        | ((with_reducible apply st_skip); exact rfl)
        | ((with_reducible apply st_t); exact rfl; exact rfl)
        | ((with_reducible apply st_f); exact rfl; exact rfl)
        | ((with_reducible apply st_t); exact rfl; assumption)
        | ((with_reducible apply st_f); exact rfl; assumption)
        | ((with_reducible apply st_some); exact rfl)
        | exact rfl
      refine st_join (ds := [vl (vs.set s.a.toNat va)]) ?_ rfl ?_
      · repeat' first
          | with_reducible refine st_ift ?_
          | with_reducible refine st_iff ?_
          | ((with_reducible apply st_ift2); exact rfl)
          | ((with_reducible apply st_iff2); exact rfl)
          | ((with_reducible apply st_call); exact g13; exact rfl; exact hless; exact rfl)
          | ((with_reducible apply st_call); exact g15; exact rfl; exact hlong; exact rfl)
          | ((with_reducible apply st_call); exact g31; exact rfl; exact f1; exact rfl)
          | ((with_reducible apply st_call); exact g31; exact rfl; exact f2; exact rfl)
          | ((with_reducible apply st_call); exact g30; exact rfl; exact f3; exact rfl)
          | ((with_reducible apply st_call); exact g30; exact rfl; exact f4; exact rfl)
          | ((with_reducible apply st_some); exact xa)
          | ((with_reducible apply st_some); exact xb)
          | ((with_reducible apply st_some); exact xua)
          | ((with_reducible apply st_some); exact xub)
          | ((with_reducible apply st_some); exact s1)
          | ((with_reducible apply st_some); exact s2)
          | ((with_reducible apply st_some); exact s3)
          | ((with_reducible apply st_some); exact y1)
          | ((with_reducible apply st_some); exact y2)
          | ((with_reducible apply st_callt); assumption; exact rfl; exact rfl; assumption)
          | ((with_reducible apply st_callf); assumption; exact rfl; exact rfl; assumption)
          | ((with_reducible apply st_call); assumption; exact rfl; exact rfl; exact rfl)
          | ((with_reducible apply st_wide); exact rfl; exact rfl)
          | ((with_reducible apply st_skip); exact rfl)
          | ((with_reducible apply st_t); exact rfl; exact rfl)
          | ((with_reducible apply st_f); exact rfl; exact rfl)
          | ((with_reducible apply st_t); exact rfl; assumption)
          | ((with_reducible apply st_f); exact rfl; assumption)
          | ((with_reducible apply st_some); exact rfl)
          | exact rfl
      repeat' first
        | with_reducible refine st_ift ?_
        | with_reducible refine st_iff ?_
        | ((with_reducible apply st_ift2); exact rfl)
        | ((with_reducible apply st_iff2); exact rfl)
        | ((with_reducible apply st_call); exact g13; exact rfl; exact hless; exact rfl)
        | ((with_reducible apply st_call); exact g15; exact rfl; exact hlong; exact rfl)
        | ((with_reducible apply st_call); exact g31; exact rfl; exact f1; exact rfl)
        | ((with_reducible apply st_call); exact g31; exact rfl; exact f2; exact rfl)
        | ((with_reducible apply st_call); exact g30; exact rfl; exact f3; exact rfl)
        | ((with_reducible apply st_call); exact g30; exact rfl; exact f4; exact rfl)
        | ((with_reducible apply st_some); exact xa)
        | ((with_reducible apply st_some); exact xb)
        | ((with_reducible apply st_some); exact xua)
        | ((with_reducible apply st_some); exact xub)
        | ((with_reducible apply st_some); exact s1)
        | ((with_reducible apply st_some); exact s2)
        | ((with_reducible apply st_some); exact s3)
        | ((with_reducible apply st_some); exact y1)
        | ((with_reducible apply st_some); exact y2)
        | ((with_reducible apply st_callt); assumption; exact rfl; exact rfl; assumption)
        | ((with_reducible apply st_callf); assumption; exact rfl; exact rfl; assumption)
        | ((with_reducible apply st_call); assumption; exact rfl; exact rfl; exact rfl)
        | ((with_reducible apply st_wide); exact rfl; exact rfl)
        | ((with_reducible apply st_skip); exact rfl)
        | ((with_reducible apply st_t); exact rfl; exact rfl)
        | ((with_reducible apply st_f); exact rfl; exact rfl)
        | ((with_reducible apply st_t); exact rfl; assumption)
        | ((with_reducible apply st_f); exact rfl; assumption)
        | ((with_reducible apply st_some); exact rfl)
        | exact rfl
      refine st_join (ds := [vl (vs.set s.a.toNat va)]) ?_ rfl ?_
      · repeat' first
          | with_reducible refine st_ift ?_
          | with_reducible refine st_iff ?_
          | ((with_reducible apply st_ift2); exact rfl)
          | ((with_reducible apply st_iff2); exact rfl)
          | ((with_reducible apply st_call); exact g13; exact rfl; exact hless; exact rfl)
          | ((with_reducible apply st_call); exact g15; exact rfl; exact hlong; exact rfl)
          | ((with_reducible apply st_call); exact g31; exact rfl; exact f1; exact rfl)
          | ((with_reducible apply st_call); exact g31; exact rfl; exact f2; exact rfl)
          | ((with_reducible apply st_call); exact g30; exact rfl; exact f3; exact rfl)
          | ((with_reducible apply st_call); exact g30; exact rfl; exact f4; exact rfl)
          | ((with_reducible apply st_some); exact xa)
          | ((with_reducible apply st_some); exact xb)
          | ((with_reducible apply st_some); exact xua)
          | ((with_reducible apply st_some); exact xub)
          | ((with_reducible apply st_some); exact s1)
          | ((with_reducible apply st_some); exact s2)
          | ((with_reducible apply st_some); exact s3)
          | ((with_reducible apply st_some); exact y1)
          | ((with_reducible apply st_some); exact y2)
          | ((with_reducible apply st_callt); assumption; exact rfl; exact rfl; assumption)
          | ((with_reducible apply st_callf); assumption; exact rfl; exact rfl; assumption)
          | ((with_reducible apply st_call); assumption; exact rfl; exact rfl; exact rfl)
          | ((with_reducible apply st_wide); exact rfl; exact rfl)
          | ((with_reducible apply st_skip); exact rfl)
          | ((with_reducible apply st_t); exact rfl; exact rfl)
          | ((with_reducible apply st_f); exact rfl; exact rfl)
          | ((with_reducible apply st_t); exact rfl; assumption)
          | ((with_reducible apply st_f); exact rfl; assumption)
          | ((with_reducible apply st_some); exact rfl)
          | exact rfl
      rfl
  · cases q
    · have hg2 : g0 = gg := hgg
      repeat' first
        | with_reducible refine st_ift ?_
        | with_reducible refine st_iff ?_
        | ((with_reducible apply st_ift2); exact rfl)
        | ((with_reducible apply st_iff2); exact rfl)
        | ((with_reducible apply st_call); exact g13; exact rfl; exact hless; exact rfl)
        | ((with_reducible apply st_call); exact g15; exact rfl; exact hlong; exact rfl)
        | ((with_reducible apply st_call); exact g31; exact rfl; exact f1; exact rfl)
        | ((with_reducible apply st_call); exact g31; exact rfl; exact f2; exact rfl)
        | ((with_reducible apply st_call); exact g30; exact rfl; exact f3; exact rfl)
        | ((with_reducible apply st_call); exact g30; exact rfl; exact f4; exact rfl)
        | ((with_reducible apply st_some); exact xa)
        | ((with_reducible apply st_some); exact xb)
        | ((with_reducible apply st_some); exact xua)
        | ((with_reducible apply st_some); exact xub)
        | ((with_reducible apply st_some); exact s1)
        | ((with_reducible apply st_some); exact s2)
        | ((with_reducible apply st_some); exact s3)
        | ((with_reducible apply st_some); exact y1)
        | ((with_reducible apply st_some); exact y2)
        | ((with_reducible apply st_callt); assumption; exact rfl; exact rfl; assumption)
        | ((with_reducible apply st_callf); assumption; exact rfl; exact rfl; assumption)
        | ((with_reducible apply st_call); assumption; exact rfl; exact rfl; exact rfl)
        | ((with_reducible apply st_wide); exact rfl; exact rfl)
        | ((with_reducible apply st_skip); exact rfl)
        | ((with_reducible apply st_t); exact rfl; exact rfl)
        | ((with_reducible apply st_f); exact rfl; exact rfl)
        | ((with_reducible apply st_t); exact rfl; assumption)
        | ((with_reducible apply st_f); exact rfl; assumption)
        | ((with_reducible apply st_some); exact rfl)
        | exact rfl
      refine st_join (ds := [.flt g0]) htif rfl ?_
      repeat' first
        | with_reducible refine st_ift ?_
        | with_reducible refine st_iff ?_
        | ((with_reducible apply st_ift2); exact rfl)
        | ((with_reducible apply st_iff2); exact rfl)
        | ((with_reducible apply st_call); exact g13; exact rfl; exact hless; exact rfl)
        | ((with_reducible apply st_call); exact g15; exact rfl; exact hlong; exact rfl)
        | ((with_reducible apply st_call); exact g31; exact rfl; exact f1; exact rfl)
        | ((with_reducible apply st_call); exact g31; exact rfl; exact f2; exact rfl)
        | ((with_reducible apply st_call); exact g30; exact rfl; exact f3; exact rfl)
        | ((with_reducible apply st_call); exact g30; exact rfl; exact f4; exact rfl)
        | ((with_reducible apply st_some); exact xa)
        | ((with_reducible apply st_some); exact xb)
        | ((with_reducible apply st_some); exact xua)
        | ((with_reducible apply st_some); exact xub)
        | ((with_reducible apply st_some); exact s1)
        | ((with_reducible apply st_some); exact s2)
        | ((with_reducible apply st_some); exact s3)
        | ((with_reducible apply st_some); exact y1)
        | ((with_reducible apply st_some); exact y2)
        | ((with_reducible apply st_callt); assumption; exact rfl; exact rfl; assumption)
        | ((with_reducible apply st_callf); assumption; exact rfl; exact rfl; assumption)
        | ((with_reducible apply st_call); assumption; exact rfl; exact rfl; exact rfl)
        | ((with_reducible apply st_wide); exact rfl; exact rfl)
        | ((with_reducible apply st_skip); exact rfl)
        | ((with_reducible apply st_t); exact rfl; exact rfl)
        | ((with_reducible apply st_f); exact rfl; exact rfl)
        | ((with_reducible apply st_t); exact rfl; assumption)
        | ((with_reducible apply st_f); exact rfl; assumption)
        | ((with_reducible apply st_some); exact rfl)
        | exact rfl
      refine st_join (ds := [.flt gg]) ?_ rfl ?_
      · rw [← hg2]
        exact st_iff rfl
      repeat' first
        | with_reducible refine st_ift ?_
        | with_reducible refine st_iff ?_
        | ((with_reducible apply st_ift2); exact rfl)
        | ((with_reducible apply st_iff2); exact rfl)
        | ((with_reducible apply st_call); exact g13; exact rfl; exact hless; exact rfl)
        | ((with_reducible apply st_call); exact g15; exact rfl; exact hlong; exact rfl)
        | ((with_reducible apply st_call); exact g31; exact rfl; exact f1; exact rfl)
        | ((with_reducible apply st_call); exact g31; exact rfl; exact f2; exact rfl)
        | ((with_reducible apply st_call); exact g30; exact rfl; exact f3; exact rfl)
        | ((with_reducible apply st_call); exact g30; exact rfl; exact f4; exact rfl)
        | ((with_reducible apply st_some); exact xa)
        | ((with_reducible apply st_some); exact xb)
        | ((with_reducible apply st_some); exact xua)
        | ((with_reducible apply st_some); exact xub)
        | ((with_reducible apply st_some); exact s1)
        | ((with_reducible apply st_some); exact s2)
        | ((with_reducible apply st_some); exact s3)
        | ((with_reducible apply st_some); exact y1)
        | ((with_reducible apply st_some); exact y2)
        | ((with_reducible apply st_callt); assumption; exact rfl; exact rfl; assumption)
        | ((with_reducible apply st_callf); assumption; exact rfl; exact rfl; assumption)
        | ((with_reducible apply st_call); assumption; exact rfl; exact rfl; exact rfl)
        | ((with_reducible apply st_wide); exact rfl; exact rfl)
        | ((with_reducible apply st_skip); exact rfl)
        | ((with_reducible apply st_t); exact rfl; exact rfl)
        | ((with_reducible apply st_f); exact rfl; exact rfl)
        | ((with_reducible apply st_t); exact rfl; assumption)
        | ((with_reducible apply st_f); exact rfl; assumption)
        | ((with_reducible apply st_some); exact rfl)
        | exact rfl
      refine st_join (ds := [vl (vs)]) ?_ rfl ?_
      · repeat' first
          | with_reducible refine st_ift ?_
          | with_reducible refine st_iff ?_
          | ((with_reducible apply st_ift2); exact rfl)
          | ((with_reducible apply st_iff2); exact rfl)
          | ((with_reducible apply st_call); exact g13; exact rfl; exact hless; exact rfl)
          | ((with_reducible apply st_call); exact g15; exact rfl; exact hlong; exact rfl)
          | ((with_reducible apply st_call); exact g31; exact rfl; exact f1; exact rfl)
          | ((with_reducible apply st_call); exact g31; exact rfl; exact f2; exact rfl)
          | ((with_reducible apply st_call); exact g30; exact rfl; exact f3; exact rfl)
          | ((with_reducible apply st_call); exact g30; exact rfl; exact f4; exact rfl)
          | ((with_reducible apply st_some); exact xa)
          | ((with_reducible apply st_some); exact xb)
          | ((with_reducible apply st_some); exact xua)
          | ((with_reducible apply st_some); exact xub)
          | ((with_reducible apply st_some); exact s1)
          | ((with_reducible apply st_some); exact s2)
          | ((with_reducible apply st_some); exact s3)
          | ((with_reducible apply st_some); exact y1)
          | ((with_reducible apply st_some); exact y2)
          | ((with_reducible apply st_callt); assumption; exact rfl; exact rfl; assumption)
          | ((with_reducible apply st_callf); assumption; exact rfl; exact rfl; assumption)
          | ((with_reducible apply st_call); assumption; exact rfl; exact rfl; exact rfl)
          | ((with_reducible apply st_wide); exact rfl; exact rfl)
          | ((with_reducible apply st_skip); exact rfl)
          | ((with_reducible apply st_t); exact rfl; exact rfl)
          | ((with_reducible apply st_f); exact rfl; exact rfl)
          | ((with_reducible apply st_t); exact rfl; assumption)
          | ((with_reducible apply st_f); exact rfl; assumption)
          | ((with_reducible apply st_some); exact rfl)
          | exact rfl
      repeat' first
        | with_reducible refine st_ift ?_
        | with_reducible refine st_iff ?_
        | ((with_reducible apply st_ift2); exact rfl)
        | ((with_reducible apply st_iff2); exact rfl)
        | ((with_reducible apply st_call); exact g13; exact rfl; exact hless; exact rfl)
        | ((with_reducible apply st_call); exact g15; exact rfl; exact hlong; exact rfl)
        | ((with_reducible apply st_call); exact g31; exact rfl; exact f1; exact rfl)
        | ((with_reducible apply st_call); exact g31; exact rfl; exact f2; exact rfl)
        | ((with_reducible apply st_call); exact g30; exact rfl; exact f3; exact rfl)
        | ((with_reducible apply st_call); exact g30; exact rfl; exact f4; exact rfl)
        | ((with_reducible apply st_some); exact xa)
        | ((with_reducible apply st_some); exact xb)
        | ((with_reducible apply st_some); exact xua)
        | ((with_reducible apply st_some); exact xub)
        | ((with_reducible apply st_some); exact s1)
        | ((with_reducible apply st_some); exact s2)
        | ((with_reducible apply st_some); exact s3)
        | ((with_reducible apply st_some); exact y1)
        | ((with_reducible apply st_some); exact y2)
        | ((with_reducible apply st_callt); assumption; exact rfl; exact rfl; assumption)
        | ((with_reducible apply st_callf); assumption; exact rfl; exact rfl; assumption)
        | ((with_reducible apply st_call); assumption; exact rfl; exact rfl; exact rfl)
        | ((with_reducible apply st_wide); exact rfl; exact rfl)
        | ((with_reducible apply st_skip); exact rfl)
        | ((with_reducible apply st_t); exact rfl; exact rfl)
        | ((with_reducible apply st_f); exact rfl; exact rfl)
        | ((with_reducible apply st_t); exact rfl; assumption)
        | ((with_reducible apply st_f); exact rfl; assumption)
        | ((with_reducible apply st_some); exact rfl)
        | exact rfl
      refine st_join (ds := [vl ((vs).set s.b.toNat vb)]) ?_ rfl ?_
      · repeat' first
          | with_reducible refine st_ift ?_
          | with_reducible refine st_iff ?_
          | ((with_reducible apply st_ift2); exact rfl)
          | ((with_reducible apply st_iff2); exact rfl)
          | ((with_reducible apply st_call); exact g13; exact rfl; exact hless; exact rfl)
          | ((with_reducible apply st_call); exact g15; exact rfl; exact hlong; exact rfl)
          | ((with_reducible apply st_call); exact g31; exact rfl; exact f1; exact rfl)
          | ((with_reducible apply st_call); exact g31; exact rfl; exact f2; exact rfl)
          | ((with_reducible apply st_call); exact g30; exact rfl; exact f3; exact rfl)
          | ((with_reducible apply st_call); exact g30; exact rfl; exact f4; exact rfl)
          | ((with_reducible apply st_some); exact xa)
          | ((with_reducible apply st_some); exact xb)
          | ((with_reducible apply st_some); exact xua)
          | ((with_reducible apply st_some); exact xub)
          | ((with_reducible apply st_some); exact s1)
          | ((with_reducible apply st_some); exact s2)
          | ((with_reducible apply st_some); exact s3)
          | ((with_reducible apply st_some); exact y1)
          | ((with_reducible apply st_some); exact y2)
          | ((with_reducible apply st_callt); assumption; exact rfl; exact rfl; assumption)
          | ((with_reducible apply st_callf); assumption; exact rfl; exact rfl; assumption)
          | ((with_reducible apply st_call); assumption; exact rfl; exact rfl; exact rfl)
          | ((with_reducible apply st_wide); exact rfl; exact rfl)
          | ((with_reducible apply st_skip); exact rfl)
          | ((with_reducible apply st_t); exact rfl; exact rfl)
          | ((with_reducible apply st_f); exact rfl; exact rfl)
          | ((with_reducible apply st_t); exact rfl; assumption)
          | ((with_reducible apply st_f); exact rfl; assumption)
          | ((with_reducible apply st_some); exact rfl)
          | exact rfl
      rfl
    · have hg2 : g0 = gg := hgg
      repeat' first
        | with_reducible refine st_ift ?_
        | with_reducible refine st_iff ?_
        | ((with_reducible apply st_ift2); exact rfl)
        | ((with_reducible apply st_iff2); exact rfl)
        | ((with_reducible apply st_call); exact g13; exact rfl; exact hless; exact rfl)
        | ((with_reducible apply st_call); exact g15; exact rfl; exact hlong; exact rfl)
        | ((with_reducible apply st_call); exact g31; exact rfl; exact f1; exact rfl)
        | ((with_reducible apply st_call); exact g31; exact rfl; exact f2; exact rfl)
        | ((with_reducible apply st_call); exact g30; exact rfl; exact f3; exact rfl)
        | ((with_reducible apply st_call); exact g30; exact rfl; exact f4; exact rfl)
        | ((with_reducible apply st_some); exact xa)
        | ((with_reducible apply st_some); exact xb)
        | ((with_reducible apply st_some); exact xua)
        | ((with_reducible apply st_some); exact xub)
        | ((with_reducible apply st_some); exact s1)
        | ((with_reducible apply st_some); exact s2)
        | ((with_reducible apply st_some); exact s3)
        | ((with_reducible apply st_some); exact y1)
        | ((with_reducible apply st_some); exact y2)
        | ((with_reducible apply st_callt); assumption; exact rfl; exact rfl; assumption)
        | ((with_reducible apply st_callf); assumption; exact rfl; exact rfl; assumption)
        | ((with_reducible apply st_call); assumption; exact rfl; exact rfl; exact rfl)
        | ((with_reducible apply st_wide); exact rfl; exact rfl)
        | ((with_reducible apply st_skip); exact rfl)
        | ((with_reducible apply st_t); exact rfl; exact rfl)
        | ((with_reducible apply st_f); exact rfl; exact rfl)
        | ((with_reducible apply st_t); exact rfl; assumption)
        | ((with_reducible apply st_f); exact rfl; assumption)
        | ((with_reducible apply st_some); exact rfl)
        | exact rfl
      refine st_join (ds := [.flt g0]) htif rfl ?_
      repeat' first
        | with_reducible refine st_ift ?_
        | with_reducible refine st_iff ?_
        | ((with_reducible apply st_ift2); exact rfl)
        | ((with_reducible apply st_iff2); exact rfl)
        | ((with_reducible apply st_call); exact g13; exact rfl; exact hless; exact rfl)
        | ((with_reducible apply st_call); exact g15; exact rfl; exact hlong; exact rfl)
        | ((with_reducible apply st_call); exact g31; exact rfl; exact f1; exact rfl)
        | ((with_reducible apply st_call); exact g31; exact rfl; exact f2; exact rfl)
        | ((with_reducible apply st_call); exact g30; exact rfl; exact f3; exact rfl)
        | ((with_reducible apply st_call); exact g30; exact rfl; exact f4; exact rfl)
        | ((with_reducible apply st_some); exact xa)
        | ((with_reducible apply st_some); exact xb)
        | ((with_reducible apply st_some); exact xua)
        | ((with_reducible apply st_some); exact xub)
        | ((with_reducible apply st_some); exact s1)
        | ((with_reducible apply st_some); exact s2)
        | ((with_reducible apply st_some); exact s3)
        | ((with_reducible apply st_some); exact y1)
        | ((with_reducible apply st_some); exact y2)
        | ((with_reducible apply st_callt); assumption; exact rfl; exact rfl; assumption)
        | ((with_reducible apply st_callf); assumption; exact rfl; exact rfl; assumption)
        | ((with_reducible apply st_call); assumption; exact rfl; exact rfl; exact rfl)
        | ((with_reducible apply st_wide); exact rfl; exact rfl)
        | ((with_reducible apply st_skip); exact rfl)
        | ((with_reducible apply st_t); exact rfl; exact rfl)
        | ((with_reducible apply st_f); exact rfl; exact rfl)
        | ((with_reducible apply st_t); exact rfl; assumption)
        | ((with_reducible apply st_f); exact rfl; assumption)
        | ((with_reducible apply st_some); exact rfl)
        | exact rfl
      refine st_join (ds := [.flt gg]) ?_ rfl ?_
      · rw [← hg2]
        exact st_iff rfl
      repeat' first
        | with_reducible refine st_ift ?_
        | with_reducible refine st_iff ?_
        | ((with_reducible apply st_ift2); exact rfl)
        | ((with_reducible apply st_iff2); exact rfl)
        | ((with_reducible apply st_call); exact g13; exact rfl; exact hless; exact rfl)
        | ((with_reducible apply st_call); exact g15; exact rfl; exact hlong; exact rfl)
        | ((with_reducible apply st_call); exact g31; exact rfl; exact f1; exact rfl)
        | ((with_reducible apply st_call); exact g31; exact rfl; exact f2; exact rfl)
        | ((with_reducible apply st_call); exact g30; exact rfl; exact f3; exact rfl)
        | ((with_reducible apply st_call); exact g30; exact rfl; exact f4; exact rfl)
        | ((with_reducible apply st_some); exact xa)
        | ((with_reducible apply st_some); exact xb)
        | ((with_reducible apply st_some); exact xua)
        | ((with_reducible apply st_some); exact xub)
        | ((with_reducible apply st_some); exact s1)
        | ((with_reducible apply st_some); exact s2)
        | ((with_reducible apply st_some); exact s3)
        | ((with_reducible apply st_some); exact y1)
        | ((with_reducible apply st_some); exact y2)
        | ((with_reducible apply st_callt); assumption; exact rfl; exact rfl; assumption)
        | ((with_reducible apply st_callf); assumption; exact rfl; exact rfl; assumption)
        | ((with_reducible apply st_call); assumption; exact rfl; exact rfl; exact rfl)
        | ((with_reducible apply st_wide); exact rfl; exact rfl)
        | ((with_reducible apply st_skip); exact rfl)
        | ((with_reducible apply st_t); exact rfl; exact rfl)
        | ((with_reducible apply st_f); exact rfl; exact rfl)
        | ((with_reducible apply st_t); exact rfl; assumption)
        | ((with_reducible apply st_f); exact rfl; assumption)
        | ((with_reducible apply st_some); exact rfl)
        | exact rfl
      refine st_join (ds := [vl (vs)]) ?_ rfl ?_
      · repeat' first
          | with_reducible refine st_ift ?_
          | with_reducible refine st_iff ?_
          | ((with_reducible apply st_ift2); exact rfl)
          | ((with_reducible apply st_iff2); exact rfl)
          | ((with_reducible apply st_call); exact g13; exact rfl; exact hless; exact rfl)
          | ((with_reducible apply st_call); exact g15; exact rfl; exact hlong; exact rfl)
          | ((with_reducible apply st_call); exact g31; exact rfl; exact f1; exact rfl)
          | ((with_reducible apply st_call); exact g31; exact rfl; exact f2; exact rfl)
          | ((with_reducible apply st_call); exact g30; exact rfl; exact f3; exact rfl)
          | ((with_reducible apply st_call); exact g30; exact rfl; exact f4; exact rfl)
          | ((with_reducible apply st_some); exact xa)
          | ((with_reducible apply st_some); exact xb)
          | ((with_reducible apply st_some); exact xua)
          | ((with_reducible apply st_some); exact xub)
          | ((with_reducible apply st_some); exact s1)
          | ((with_reducible apply st_some); exact s2)
          | ((with_reducible apply st_some); exact s3)
          | ((with_reducible apply st_some); exact y1)
          | ((with_reducible apply st_some); exact y2)
          | ((with_reducible apply st_callt); assumption; exact rfl; exact rfl; assumption)
          | ((with_reducible apply st_callf); assumption; exact rfl; exact rfl; assumption)
          | ((with_reducible apply st_call); assumption; exact rfl; exact rfl; exact rfl)
          | ((with_reducible apply st_wide); exact rfl; exact rfl)
          | ((with_reducible apply st_skip); exact rfl)
          | ((with_reducible apply st_t); exact rfl; exact rfl)
          | ((with_reducible apply st_f); exact rfl; exact rfl)
          | ((with_reducible apply st_t); exact rfl; assumption)
          | ((with_reducible apply st_f); exact rfl; assumption)
          | ((with_reducible apply st_some); exact rfl)
          | exact rfl
      repeat' first
        | with_reducible refine st_ift ?_
        | with_reducible refine st_iff ?_
        | ((with_reducible apply st_ift2); exact rfl)
        | ((with_reducible apply st_iff2); exact rfl)
        | ((with_reducible apply st_call); exact g13; exact rfl; exact hless; exact rfl)
        | ((with_reducible apply st_call); exact g15; exact rfl; exact hlong; exact rfl)
        | ((with_reducible apply st_call); exact g31; exact rfl; exact f1; exact rfl)
        | ((with_reducible apply st_call); exact g31; exact rfl; exact f2; exact rfl)
        | ((with_reducible apply st_call); exact g30; exact rfl; exact f3; exact rfl)
        | ((with_reducible apply st_call); exact g30; exact rfl; exact f4; exact rfl)
        | ((with_reducible apply st_some); exact xa)
        | ((with_reducible apply st_some); exact xb)
        | ((with_reducible apply st_some); exact xua)
        | ((with_reducible apply st_some); exact xub)
        | ((with_reducible apply st_some); exact s1)
        | ((with_reducible apply st_some); exact s2)
        | ((with_reducible apply st_some); exact s3)
        | ((with_reducible apply st_some); exact y1)
        | ((with_reducible apply st_some); exact y2)
        | ((with_reducible apply st_callt); assumption; exact rfl; exact rfl; assumption)
        | ((with_reducible apply st_callf); assumption; exact rfl; exact rfl; assumption)
        | ((with_reducible apply st_call); assumption; exact rfl; exact rfl; exact rfl)
        | ((with_reducible apply st_wide); exact rfl; exact rfl)
        | ((with_reducible apply st_skip); exact rfl)
        | ((with_reducible apply st_t); exact rfl; exact rfl)
        | ((with_reducible apply st_f); exact rfl; exact rfl)
        | ((with_reducible apply st_t); exact rfl; assumption)
        | ((with_reducible apply st_f); exact rfl; assumption)
        | ((with_reducible apply st_some); exact rfl)
        | exact rfl
      refine st_join (ds := [vl (vs)]) ?_ rfl ?_
      · repeat' first
          | with_reducible refine st_ift ?_
          | with_reducible refine st_iff ?_
          | ((with_reducible apply st_ift2); exact rfl)
          | ((with_reducible apply st_iff2); exact rfl)
          | ((with_reducible apply st_call); exact g13; exact rfl; exact hless; exact rfl)
          | ((with_reducible apply st_call); exact g15; exact rfl; exact hlong; exact rfl)
          | ((with_reducible apply st_call); exact g31; exact rfl; exact f1; exact rfl)
          | ((with_reducible apply st_call); exact g31; exact rfl; exact f2; exact rfl)
          | ((with_reducible apply st_call); exact g30; exact rfl; exact f3; exact rfl)
          | ((with_reducible apply st_call); exact g30; exact rfl; exact f4; exact rfl)
          | ((with_reducible apply st_some); exact xa)
          | ((with_reducible apply st_some); exact xb)
          | ((with_reducible apply st_some); exact xua)
          | ((with_reducible apply st_some); exact xub)
          | ((with_reducible apply st_some); exact s1)
          | ((with_reducible apply st_some); exact s2)
          | ((with_reducible apply st_some); exact s3)
          | ((with_reducible apply st_some); exact y1)
          | ((with_reducible apply st_some); exact y2)
          | ((with_reducible apply st_callt); assumption; exact rfl; exact rfl; assumption)
          | ((with_reducible apply st_callf); assumption; exact rfl; exact rfl; assumption)
          | ((with_reducible apply st_call); assumption; exact rfl; exact rfl; exact rfl)
          | ((with_reducible apply st_wide); exact rfl; exact rfl)
          | ((with_reducible apply st_skip); exact rfl)
          | ((with_reducible apply st_t); exact rfl; exact rfl)
          | ((with_reducible apply st_f); exact rfl; exact rfl)
          | ((with_reducible apply st_t); exact rfl; assumption)
          | ((with_reducible apply st_f); exact rfl; assumption)
          | ((with_reducible apply st_some); exact rfl)
          | exact rfl
      rfl
set_option maxHeartbeats 4000000 in
theorem run251 {G : Told} (g13 : G 13 = F13) (g15 : G 15 = F15) (g30 : G 30 = F30) (g31 : G 31 = F31) (g126 : G 126 = F126) (g205 : G 205 = F205) : ∀ ds rs, F251 ds = some rs → ∃ fuel, run G fuel T251 ds = some (0, rs) := by
  intro ds rs h
  obtain ⟨B, l, i, rfl, hp⟩ := onHI_inv h
  replace h := hp
  clear hp
  split at h
  case isFalse => cases h
  rename_i hc
  simp only [Option.some.injEq] at h
  subst h
  obtain ⟨hv, hh, hi⟩ := hc
  obtain ⟨h64, h200, hsp⟩ := validB_spr hv
  have hll := held_len hh
  obtain ⟨k, rfl⟩ : ∃ k : Nat, i = k := by
    unfold inr at hi
    simp only [Bool.and_eq_true, decide_eq_true_eq] at hi
    exact ⟨i.toNat, by omega⟩
  have hk : k < B.ss.length := by
    unfold inr at hi
    simp only [Bool.and_eq_true, decide_eq_true_eq] at hi
    omega
  have hx0 := idx_sl hk
  obtain ⟨ha, hb, hab⟩ := hsp k hk
  rw [Int.toNat_natCast, getD_lt hk]
  clear hsp hv hh hi
  generalize B.ss[k] = s at *
  obtain ⟨vs, ts, ss, fm, bn, ws, x, y, z⟩ := B
  dsimp only at h64 h200 hll hk hx0 ha hb
  simp only [bd, List.cons_append, List.nil_append]
  refine ⟨0, ?_⟩
  rw [eq251]
  unfold S251
  have xa := idx_plc ha
  have xb := idx_plc hb
  have hla : inr vs.length s.a = true := ha
  unfold inr at ha hb
  simp only [Bool.and_eq_true, decide_eq_true_eq] at ha hb
  have ea : s.a = (s.a.toNat : Int) := by omega
  have eb : s.b = (s.b.toNat : Int) := by omega
  have hE : ∀ p q, projV vs s p q = (if q = true then (if p = true then vs else vs.set s.a.toNat (V3.add (plc vs s.a) (V3.scale (lessV (plc vs s.b) (plc vs s.a)) (projG vs s p q)))) else (if p = true then vs else vs.set s.a.toNat (V3.add (plc vs s.a) (V3.scale (lessV (plc vs s.b) (plc vs s.a)) (projG vs s p q)))).set s.b.toNat (V3.add (plc vs s.b) (V3.scale (lessV (plc vs s.b) (plc vs s.a)) (fneg .f32 (projG vs s p q))))) := fun p q => by unfold projV; rfl
  have hG : ∀ p q, projG vs s p q = if (!p && !q) = true then fmul .f32 1056964608 (gainP (fsub .f32 (longV (lessV (plc vs s.b) (plc vs s.a))) s.l) (longV (lessV (plc vs s.b) (plc vs s.a)))) else gainP (fsub .f32 (longV (lessV (plc vs s.b) (plc vs s.a))) s.l) (longV (lessV (plc vs s.b) (plc vs s.a))) := fun p q => by unfold projG; rfl
  have hless : F13 [.flt (plc vs s.b).x, .flt (plc vs s.b).y, .flt (plc vs s.b).z, .flt (plc vs s.a).x, .flt (plc vs s.a).y, .flt (plc vs s.a).z] = some (nds (lessV (plc vs s.b) (plc vs s.a))) := rfl
  have hlong : F15 [.flt (lessV (plc vs s.b) (plc vs s.a)).x, .flt (lessV (plc vs s.b) (plc vs s.a)).y, .flt (lessV (plc vs s.b) (plc vs s.a)).z] = some [.flt (longV (lessV (plc vs s.b) (plc vs s.a)))] := by unfold longV; rfl
  have hset1 : ∀ v, gev none .set [vl vs, .int s.a, vec v] = some (vl (vs.set s.a.toNat v)) := fun v => by
    have := set_vl (l := vs) (i := s.a.toNat) (v := v) (by omega)
    rwa [← ea] at this
  have hset2 : ∀ (us : List V3) v, us.length = vs.length → gev none .set [vl us, .int s.b, vec v] = some (vl (us.set s.b.toNat v)) := fun us v hu => by
    have := set_vl (l := us) (i := s.b.toNat) (v := v) (by omega)
    rwa [← eb] at this
  have hidx2 : ∀ v, gev none .idx [vl (vs.set s.a.toNat v), .int s.b] = some (vec (plc vs s.b)) := fun v => by
    have h1 := idx_vl (l := vs.set s.a.toNat v) (i := s.b.toNat) (by simp; omega)
    rw [← eb] at h1
    rw [h1, List.getElem_set_ne (by omega)]
    unfold plc
    rw [getD_lt (by omega)]
  have hidx1 : ∀ v, ∃ u, gev none .idx [vl (vs.set s.a.toNat v), .int s.a] = some u := fun v => by
    have h1 := idx_vl (l := vs.set s.a.toNat v) (i := s.a.toNat) (by simp; omega)
    rw [← ea] at h1
    exact ⟨_, h1⟩
  have h205a := F205_m (l := l) (n := s.a) (by omega)
  have h205b := F205_m (l := l) (n := s.b) (by omega)
  have e126 : F126 [.flt (fsub .f32 (longV (lessV (plc vs s.b) (plc vs s.a))) s.l), .flt (longV (lessV (plc vs s.b) (plc vs s.a)))] = some [.flt (gainP (fsub .f32 (longV (lessV (plc vs s.b) (plc vs s.a))) s.l) (longV (lessV (plc vs s.b) (plc vs s.a))))] := by simp only [F126]
  rw [hE, hG]
  generalize l.contains s.a = p at *
  generalize l.contains s.b = q at *
  clear hE hG ha hb ea eb
  generalize hlg : longV (lessV (plc vs s.b) (plc vs s.a)) = lg at *
  generalize lessV (plc vs s.b) (plc vs s.a) = d at *
  clear hlg
  generalize gainP (fsub .f32 lg s.l) lg = g0 at *
  obtain ⟨gg, hgg⟩ : ∃ x, (if (!p && !q) = true then fmul .f32 1056964608 g0 else g0) = x := ⟨_, rfl⟩
  rw [hgg]
  have f1 : F31 [.flt d.x, .flt d.y, .flt d.z, .flt gg] = some (nds (V3.scale d gg)) := rfl
  have f2 : F31 [.flt d.x, .flt d.y, .flt d.z, .flt (fneg .f32 gg)] = some (nds (V3.scale d (fneg .f32 gg))) := rfl
  have f3 : F30 [.flt (plc vs s.a).x, .flt (plc vs s.a).y, .flt (plc vs s.a).z, .flt (V3.scale d gg).x, .flt (V3.scale d gg).y, .flt (V3.scale d gg).z] = some (nds (V3.add (plc vs s.a) (V3.scale d gg))) := rfl
  have f4 : F30 [.flt (plc vs s.b).x, .flt (plc vs s.b).y, .flt (plc vs s.b).z, .flt (V3.scale d (fneg .f32 gg)).x, .flt (V3.scale d (fneg .f32 gg)).y, .flt (V3.scale d (fneg .f32 gg)).z] = some (nds (V3.add (plc vs s.b) (V3.scale d (fneg .f32 gg)))) := rfl
  generalize V3.add (plc vs s.a) (V3.scale d gg) = va at *
  generalize V3.add (plc vs s.b) (V3.scale d (fneg .f32 gg)) = vb at *
  generalize V3.scale d gg = sa at *
  generalize V3.scale d (fneg .f32 gg) = sb at *
  have s1 := hset1 va
  have s2 := hset2 vs vb rfl
  have s3 := hset2 (vs.set s.a.toNat va) vb (by simp)
  have y2 := hidx2 va
  obtain ⟨u1, y1⟩ := hidx1 va
  cases p
  · cases q
    · have hg2 : fmul .f32 1056964608 g0 = gg := hgg
      repeat' first
        | with_reducible refine st_ift ?_
        | with_reducible refine st_iff ?_
        | ((with_reducible apply st_ift2); exact rfl)
        | ((with_reducible apply st_iff2); exact rfl)
        | ((with_reducible apply st_call); exact g13; exact rfl; exact hless; exact rfl)
        | ((with_reducible apply st_call); exact g15; exact rfl; exact hlong; exact rfl)
        | ((with_reducible apply st_call); exact g126; exact rfl; exact e126; exact rfl)
        | ((with_reducible apply st_call); exact g205; exact rfl; exact h205a; exact rfl)
        | ((with_reducible apply st_call); exact g205; exact rfl; exact h205b; exact rfl)
        | ((with_reducible apply st_call); exact g31; exact rfl; exact f1; exact rfl)
        | ((with_reducible apply st_call); exact g31; exact rfl; exact f2; exact rfl)
        | ((with_reducible apply st_call); exact g30; exact rfl; exact f3; exact rfl)
        | ((with_reducible apply st_call); exact g30; exact rfl; exact f4; exact rfl)
        | ((with_reducible apply st_some); exact hx0)
        | ((with_reducible apply st_some); exact xa)
        | ((with_reducible apply st_some); exact xb)
        | ((with_reducible apply st_some); exact s1)
        | ((with_reducible apply st_some); exact s2)
        | ((with_reducible apply st_some); exact s3)
        | ((with_reducible apply st_some); exact y1)
        | ((with_reducible apply st_some); exact y2)
        | ((with_reducible apply st_callt); assumption; exact rfl; exact rfl; assumption)
        | ((with_reducible apply st_callf); assumption; exact rfl; exact rfl; assumption)
        | ((with_reducible apply st_call); assumption; exact rfl; exact rfl; exact rfl)
        | ((with_reducible apply st_wide); exact rfl; exact rfl)
        | ((with_reducible apply st_skip); exact rfl)
        | ((with_reducible apply st_t); exact rfl; exact rfl)
        | ((with_reducible apply st_f); exact rfl; exact rfl)
        | ((with_reducible apply st_t); exact rfl; assumption)
        | ((with_reducible apply st_f); exact rfl; assumption)
        | ((with_reducible apply st_some); exact rfl)
        | exact rfl
      refine st_join (ds := [.flt gg]) ?_ rfl ?_
      · rw [← hg2]
        exact st_ift rfl
      repeat' first
        | with_reducible refine st_ift ?_
        | with_reducible refine st_iff ?_
        | ((with_reducible apply st_ift2); exact rfl)
        | ((with_reducible apply st_iff2); exact rfl)
        | ((with_reducible apply st_call); exact g13; exact rfl; exact hless; exact rfl)
        | ((with_reducible apply st_call); exact g15; exact rfl; exact hlong; exact rfl)
        | ((with_reducible apply st_call); exact g126; exact rfl; exact e126; exact rfl)
        | ((with_reducible apply st_call); exact g205; exact rfl; exact h205a; exact rfl)
        | ((with_reducible apply st_call); exact g205; exact rfl; exact h205b; exact rfl)
        | ((with_reducible apply st_call); exact g31; exact rfl; exact f1; exact rfl)
        | ((with_reducible apply st_call); exact g31; exact rfl; exact f2; exact rfl)
        | ((with_reducible apply st_call); exact g30; exact rfl; exact f3; exact rfl)
        | ((with_reducible apply st_call); exact g30; exact rfl; exact f4; exact rfl)
        | ((with_reducible apply st_some); exact hx0)
        | ((with_reducible apply st_some); exact xa)
        | ((with_reducible apply st_some); exact xb)
        | ((with_reducible apply st_some); exact s1)
        | ((with_reducible apply st_some); exact s2)
        | ((with_reducible apply st_some); exact s3)
        | ((with_reducible apply st_some); exact y1)
        | ((with_reducible apply st_some); exact y2)
        | ((with_reducible apply st_callt); assumption; exact rfl; exact rfl; assumption)
        | ((with_reducible apply st_callf); assumption; exact rfl; exact rfl; assumption)
        | ((with_reducible apply st_call); assumption; exact rfl; exact rfl; exact rfl)
        | ((with_reducible apply st_wide); exact rfl; exact rfl)
        | ((with_reducible apply st_skip); exact rfl)
        | ((with_reducible apply st_t); exact rfl; exact rfl)
        | ((with_reducible apply st_f); exact rfl; exact rfl)
        | ((with_reducible apply st_t); exact rfl; assumption)
        | ((with_reducible apply st_f); exact rfl; assumption)
        | ((with_reducible apply st_some); exact rfl)
        | exact rfl
      refine st_join (ds := [vl (vs.set s.a.toNat va)]) ?_ rfl ?_
      · repeat' first
          | with_reducible refine st_ift ?_
          | with_reducible refine st_iff ?_
          | ((with_reducible apply st_ift2); exact rfl)
          | ((with_reducible apply st_iff2); exact rfl)
          | ((with_reducible apply st_call); exact g13; exact rfl; exact hless; exact rfl)
          | ((with_reducible apply st_call); exact g15; exact rfl; exact hlong; exact rfl)
          | ((with_reducible apply st_call); exact g126; exact rfl; exact e126; exact rfl)
          | ((with_reducible apply st_call); exact g205; exact rfl; exact h205a; exact rfl)
          | ((with_reducible apply st_call); exact g205; exact rfl; exact h205b; exact rfl)
          | ((with_reducible apply st_call); exact g31; exact rfl; exact f1; exact rfl)
          | ((with_reducible apply st_call); exact g31; exact rfl; exact f2; exact rfl)
          | ((with_reducible apply st_call); exact g30; exact rfl; exact f3; exact rfl)
          | ((with_reducible apply st_call); exact g30; exact rfl; exact f4; exact rfl)
          | ((with_reducible apply st_some); exact hx0)
          | ((with_reducible apply st_some); exact xa)
          | ((with_reducible apply st_some); exact xb)
          | ((with_reducible apply st_some); exact s1)
          | ((with_reducible apply st_some); exact s2)
          | ((with_reducible apply st_some); exact s3)
          | ((with_reducible apply st_some); exact y1)
          | ((with_reducible apply st_some); exact y2)
          | ((with_reducible apply st_callt); assumption; exact rfl; exact rfl; assumption)
          | ((with_reducible apply st_callf); assumption; exact rfl; exact rfl; assumption)
          | ((with_reducible apply st_call); assumption; exact rfl; exact rfl; exact rfl)
          | ((with_reducible apply st_wide); exact rfl; exact rfl)
          | ((with_reducible apply st_skip); exact rfl)
          | ((with_reducible apply st_t); exact rfl; exact rfl)
          | ((with_reducible apply st_f); exact rfl; exact rfl)
          | ((with_reducible apply st_t); exact rfl; assumption)
          | ((with_reducible apply st_f); exact rfl; assumption)
          | ((with_reducible apply st_some); exact rfl)
          | exact rfl
      repeat' first
        | with_reducible refine st_ift ?_
        | with_reducible refine st_iff ?_
        | ((with_reducible apply st_ift2); exact rfl)
        | ((with_reducible apply st_iff2); exact rfl)
        | ((with_reducible apply st_call); exact g13; exact rfl; exact hless; exact rfl)
        | ((with_reducible apply st_call); exact g15; exact rfl; exact hlong; exact rfl)
        | ((with_reducible apply st_call); exact g126; exact rfl; exact e126; exact rfl)
        | ((with_reducible apply st_call); exact g205; exact rfl; exact h205a; exact rfl)
        | ((with_reducible apply st_call); exact g205; exact rfl; exact h205b; exact rfl)
        | ((with_reducible apply st_call); exact g31; exact rfl; exact f1; exact rfl)
        | ((with_reducible apply st_call); exact g31; exact rfl; exact f2; exact rfl)
        | ((with_reducible apply st_call); exact g30; exact rfl; exact f3; exact rfl)
        | ((with_reducible apply st_call); exact g30; exact rfl; exact f4; exact rfl)
        | ((with_reducible apply st_some); exact hx0)
        | ((with_reducible apply st_some); exact xa)
        | ((with_reducible apply st_some); exact xb)
        | ((with_reducible apply st_some); exact s1)
        | ((with_reducible apply st_some); exact s2)
        | ((with_reducible apply st_some); exact s3)
        | ((with_reducible apply st_some); exact y1)
        | ((with_reducible apply st_some); exact y2)
        | ((with_reducible apply st_callt); assumption; exact rfl; exact rfl; assumption)
        | ((with_reducible apply st_callf); assumption; exact rfl; exact rfl; assumption)
        | ((with_reducible apply st_call); assumption; exact rfl; exact rfl; exact rfl)
        | ((with_reducible apply st_wide); exact rfl; exact rfl)
        | ((with_reducible apply st_skip); exact rfl)
        | ((with_reducible apply st_t); exact rfl; exact rfl)
        | ((with_reducible apply st_f); exact rfl; exact rfl)
        | ((with_reducible apply st_t); exact rfl; assumption)
        | ((with_reducible apply st_f); exact rfl; assumption)
        | ((with_reducible apply st_some); exact rfl)
        | exact rfl
      refine st_join (ds := [vl ((vs.set s.a.toNat va).set s.b.toNat vb)]) ?_ rfl ?_
      · repeat' first
          | with_reducible refine st_ift ?_
          | with_reducible refine st_iff ?_
          | ((with_reducible apply st_ift2); exact rfl)
          | ((with_reducible apply st_iff2); exact rfl)
          | ((with_reducible apply st_call); exact g13; exact rfl; exact hless; exact rfl)
          | ((with_reducible apply st_call); exact g15; exact rfl; exact hlong; exact rfl)
          | ((with_reducible apply st_call); exact g126; exact rfl; exact e126; exact rfl)
          | ((with_reducible apply st_call); exact g205; exact rfl; exact h205a; exact rfl)
          | ((with_reducible apply st_call); exact g205; exact rfl; exact h205b; exact rfl)
          | ((with_reducible apply st_call); exact g31; exact rfl; exact f1; exact rfl)
          | ((with_reducible apply st_call); exact g31; exact rfl; exact f2; exact rfl)
          | ((with_reducible apply st_call); exact g30; exact rfl; exact f3; exact rfl)
          | ((with_reducible apply st_call); exact g30; exact rfl; exact f4; exact rfl)
          | ((with_reducible apply st_some); exact hx0)
          | ((with_reducible apply st_some); exact xa)
          | ((with_reducible apply st_some); exact xb)
          | ((with_reducible apply st_some); exact s1)
          | ((with_reducible apply st_some); exact s2)
          | ((with_reducible apply st_some); exact s3)
          | ((with_reducible apply st_some); exact y1)
          | ((with_reducible apply st_some); exact y2)
          | ((with_reducible apply st_callt); assumption; exact rfl; exact rfl; assumption)
          | ((with_reducible apply st_callf); assumption; exact rfl; exact rfl; assumption)
          | ((with_reducible apply st_call); assumption; exact rfl; exact rfl; exact rfl)
          | ((with_reducible apply st_wide); exact rfl; exact rfl)
          | ((with_reducible apply st_skip); exact rfl)
          | ((with_reducible apply st_t); exact rfl; exact rfl)
          | ((with_reducible apply st_f); exact rfl; exact rfl)
          | ((with_reducible apply st_t); exact rfl; assumption)
          | ((with_reducible apply st_f); exact rfl; assumption)
          | ((with_reducible apply st_some); exact rfl)
          | exact rfl
      rfl
    · have hg2 : g0 = gg := hgg
      repeat' first
        | with_reducible refine st_ift ?_
        | with_reducible refine st_iff ?_
        | ((with_reducible apply st_ift2); exact rfl)
        | ((with_reducible apply st_iff2); exact rfl)
        | ((with_reducible apply st_call); exact g13; exact rfl; exact hless; exact rfl)
        | ((with_reducible apply st_call); exact g15; exact rfl; exact hlong; exact rfl)
        | ((with_reducible apply st_call); exact g126; exact rfl; exact e126; exact rfl)
        | ((with_reducible apply st_call); exact g205; exact rfl; exact h205a; exact rfl)
        | ((with_reducible apply st_call); exact g205; exact rfl; exact h205b; exact rfl)
        | ((with_reducible apply st_call); exact g31; exact rfl; exact f1; exact rfl)
        | ((with_reducible apply st_call); exact g31; exact rfl; exact f2; exact rfl)
        | ((with_reducible apply st_call); exact g30; exact rfl; exact f3; exact rfl)
        | ((with_reducible apply st_call); exact g30; exact rfl; exact f4; exact rfl)
        | ((with_reducible apply st_some); exact hx0)
        | ((with_reducible apply st_some); exact xa)
        | ((with_reducible apply st_some); exact xb)
        | ((with_reducible apply st_some); exact s1)
        | ((with_reducible apply st_some); exact s2)
        | ((with_reducible apply st_some); exact s3)
        | ((with_reducible apply st_some); exact y1)
        | ((with_reducible apply st_some); exact y2)
        | ((with_reducible apply st_callt); assumption; exact rfl; exact rfl; assumption)
        | ((with_reducible apply st_callf); assumption; exact rfl; exact rfl; assumption)
        | ((with_reducible apply st_call); assumption; exact rfl; exact rfl; exact rfl)
        | ((with_reducible apply st_wide); exact rfl; exact rfl)
        | ((with_reducible apply st_skip); exact rfl)
        | ((with_reducible apply st_t); exact rfl; exact rfl)
        | ((with_reducible apply st_f); exact rfl; exact rfl)
        | ((with_reducible apply st_t); exact rfl; assumption)
        | ((with_reducible apply st_f); exact rfl; assumption)
        | ((with_reducible apply st_some); exact rfl)
        | exact rfl
      refine st_join (ds := [.flt gg]) ?_ rfl ?_
      · rw [← hg2]
        exact st_iff rfl
      repeat' first
        | with_reducible refine st_ift ?_
        | with_reducible refine st_iff ?_
        | ((with_reducible apply st_ift2); exact rfl)
        | ((with_reducible apply st_iff2); exact rfl)
        | ((with_reducible apply st_call); exact g13; exact rfl; exact hless; exact rfl)
        | ((with_reducible apply st_call); exact g15; exact rfl; exact hlong; exact rfl)
        | ((with_reducible apply st_call); exact g126; exact rfl; exact e126; exact rfl)
        | ((with_reducible apply st_call); exact g205; exact rfl; exact h205a; exact rfl)
        | ((with_reducible apply st_call); exact g205; exact rfl; exact h205b; exact rfl)
        | ((with_reducible apply st_call); exact g31; exact rfl; exact f1; exact rfl)
        | ((with_reducible apply st_call); exact g31; exact rfl; exact f2; exact rfl)
        | ((with_reducible apply st_call); exact g30; exact rfl; exact f3; exact rfl)
        | ((with_reducible apply st_call); exact g30; exact rfl; exact f4; exact rfl)
        | ((with_reducible apply st_some); exact hx0)
        | ((with_reducible apply st_some); exact xa)
        | ((with_reducible apply st_some); exact xb)
        | ((with_reducible apply st_some); exact s1)
        | ((with_reducible apply st_some); exact s2)
        | ((with_reducible apply st_some); exact s3)
        | ((with_reducible apply st_some); exact y1)
        | ((with_reducible apply st_some); exact y2)
        | ((with_reducible apply st_callt); assumption; exact rfl; exact rfl; assumption)
        | ((with_reducible apply st_callf); assumption; exact rfl; exact rfl; assumption)
        | ((with_reducible apply st_call); assumption; exact rfl; exact rfl; exact rfl)
        | ((with_reducible apply st_wide); exact rfl; exact rfl)
        | ((with_reducible apply st_skip); exact rfl)
        | ((with_reducible apply st_t); exact rfl; exact rfl)
        | ((with_reducible apply st_f); exact rfl; exact rfl)
        | ((with_reducible apply st_t); exact rfl; assumption)
        | ((with_reducible apply st_f); exact rfl; assumption)
        | ((with_reducible apply st_some); exact rfl)
        | exact rfl
      refine st_join (ds := [vl (vs.set s.a.toNat va)]) ?_ rfl ?_
      · repeat' first
          | with_reducible refine st_ift ?_
          | with_reducible refine st_iff ?_
          | ((with_reducible apply st_ift2); exact rfl)
          | ((with_reducible apply st_iff2); exact rfl)
          | ((with_reducible apply st_call); exact g13; exact rfl; exact hless; exact rfl)
          | ((with_reducible apply st_call); exact g15; exact rfl; exact hlong; exact rfl)
          | ((with_reducible apply st_call); exact g126; exact rfl; exact e126; exact rfl)
          | ((with_reducible apply st_call); exact g205; exact rfl; exact h205a; exact rfl)
          | ((with_reducible apply st_call); exact g205; exact rfl; exact h205b; exact rfl)
          | ((with_reducible apply st_call); exact g31; exact rfl; exact f1; exact rfl)
          | ((with_reducible apply st_call); exact g31; exact rfl; exact f2; exact rfl)
          | ((with_reducible apply st_call); exact g30; exact rfl; exact f3; exact rfl)
          | ((with_reducible apply st_call); exact g30; exact rfl; exact f4; exact rfl)
          | ((with_reducible apply st_some); exact hx0)
          | ((with_reducible apply st_some); exact xa)
          | ((with_reducible apply st_some); exact xb)
          | ((with_reducible apply st_some); exact s1)
          | ((with_reducible apply st_some); exact s2)
          | ((with_reducible apply st_some); exact s3)
          | ((with_reducible apply st_some); exact y1)
          | ((with_reducible apply st_some); exact y2)
          | ((with_reducible apply st_callt); assumption; exact rfl; exact rfl; assumption)
          | ((with_reducible apply st_callf); assumption; exact rfl; exact rfl; assumption)
          | ((with_reducible apply st_call); assumption; exact rfl; exact rfl; exact rfl)
          | ((with_reducible apply st_wide); exact rfl; exact rfl)
          | ((with_reducible apply st_skip); exact rfl)
          | ((with_reducible apply st_t); exact rfl; exact rfl)
          | ((with_reducible apply st_f); exact rfl; exact rfl)
          | ((with_reducible apply st_t); exact rfl; assumption)
          | ((with_reducible apply st_f); exact rfl; assumption)
          | ((with_reducible apply st_some); exact rfl)
          | exact rfl
      repeat' first
        | with_reducible refine st_ift ?_
        | with_reducible refine st_iff ?_
        | ((with_reducible apply st_ift2); exact rfl)
        | ((with_reducible apply st_iff2); exact rfl)
        | ((with_reducible apply st_call); exact g13; exact rfl; exact hless; exact rfl)
        | ((with_reducible apply st_call); exact g15; exact rfl; exact hlong; exact rfl)
        | ((with_reducible apply st_call); exact g126; exact rfl; exact e126; exact rfl)
        | ((with_reducible apply st_call); exact g205; exact rfl; exact h205a; exact rfl)
        | ((with_reducible apply st_call); exact g205; exact rfl; exact h205b; exact rfl)
        | ((with_reducible apply st_call); exact g31; exact rfl; exact f1; exact rfl)
        | ((with_reducible apply st_call); exact g31; exact rfl; exact f2; exact rfl)
        | ((with_reducible apply st_call); exact g30; exact rfl; exact f3; exact rfl)
        | ((with_reducible apply st_call); exact g30; exact rfl; exact f4; exact rfl)
        | ((with_reducible apply st_some); exact hx0)
        | ((with_reducible apply st_some); exact xa)
        | ((with_reducible apply st_some); exact xb)
        | ((with_reducible apply st_some); exact s1)
        | ((with_reducible apply st_some); exact s2)
        | ((with_reducible apply st_some); exact s3)
        | ((with_reducible apply st_some); exact y1)
        | ((with_reducible apply st_some); exact y2)
        | ((with_reducible apply st_callt); assumption; exact rfl; exact rfl; assumption)
        | ((with_reducible apply st_callf); assumption; exact rfl; exact rfl; assumption)
        | ((with_reducible apply st_call); assumption; exact rfl; exact rfl; exact rfl)
        | ((with_reducible apply st_wide); exact rfl; exact rfl)
        | ((with_reducible apply st_skip); exact rfl)
        | ((with_reducible apply st_t); exact rfl; exact rfl)
        | ((with_reducible apply st_f); exact rfl; exact rfl)
        | ((with_reducible apply st_t); exact rfl; assumption)
        | ((with_reducible apply st_f); exact rfl; assumption)
        | ((with_reducible apply st_some); exact rfl)
        | exact rfl
      refine st_join (ds := [vl (vs.set s.a.toNat va)]) ?_ rfl ?_
      · repeat' first
          | with_reducible refine st_ift ?_
          | with_reducible refine st_iff ?_
          | ((with_reducible apply st_ift2); exact rfl)
          | ((with_reducible apply st_iff2); exact rfl)
          | ((with_reducible apply st_call); exact g13; exact rfl; exact hless; exact rfl)
          | ((with_reducible apply st_call); exact g15; exact rfl; exact hlong; exact rfl)
          | ((with_reducible apply st_call); exact g126; exact rfl; exact e126; exact rfl)
          | ((with_reducible apply st_call); exact g205; exact rfl; exact h205a; exact rfl)
          | ((with_reducible apply st_call); exact g205; exact rfl; exact h205b; exact rfl)
          | ((with_reducible apply st_call); exact g31; exact rfl; exact f1; exact rfl)
          | ((with_reducible apply st_call); exact g31; exact rfl; exact f2; exact rfl)
          | ((with_reducible apply st_call); exact g30; exact rfl; exact f3; exact rfl)
          | ((with_reducible apply st_call); exact g30; exact rfl; exact f4; exact rfl)
          | ((with_reducible apply st_some); exact hx0)
          | ((with_reducible apply st_some); exact xa)
          | ((with_reducible apply st_some); exact xb)
          | ((with_reducible apply st_some); exact s1)
          | ((with_reducible apply st_some); exact s2)
          | ((with_reducible apply st_some); exact s3)
          | ((with_reducible apply st_some); exact y1)
          | ((with_reducible apply st_some); exact y2)
          | ((with_reducible apply st_callt); assumption; exact rfl; exact rfl; assumption)
          | ((with_reducible apply st_callf); assumption; exact rfl; exact rfl; assumption)
          | ((with_reducible apply st_call); assumption; exact rfl; exact rfl; exact rfl)
          | ((with_reducible apply st_wide); exact rfl; exact rfl)
          | ((with_reducible apply st_skip); exact rfl)
          | ((with_reducible apply st_t); exact rfl; exact rfl)
          | ((with_reducible apply st_f); exact rfl; exact rfl)
          | ((with_reducible apply st_t); exact rfl; assumption)
          | ((with_reducible apply st_f); exact rfl; assumption)
          | ((with_reducible apply st_some); exact rfl)
          | exact rfl
      rfl
  · cases q
    · have hg2 : g0 = gg := hgg
      repeat' first
        | with_reducible refine st_ift ?_
        | with_reducible refine st_iff ?_
        | ((with_reducible apply st_ift2); exact rfl)
        | ((with_reducible apply st_iff2); exact rfl)
        | ((with_reducible apply st_call); exact g13; exact rfl; exact hless; exact rfl)
        | ((with_reducible apply st_call); exact g15; exact rfl; exact hlong; exact rfl)
        | ((with_reducible apply st_call); exact g126; exact rfl; exact e126; exact rfl)
        | ((with_reducible apply st_call); exact g205; exact rfl; exact h205a; exact rfl)
        | ((with_reducible apply st_call); exact g205; exact rfl; exact h205b; exact rfl)
        | ((with_reducible apply st_call); exact g31; exact rfl; exact f1; exact rfl)
        | ((with_reducible apply st_call); exact g31; exact rfl; exact f2; exact rfl)
        | ((with_reducible apply st_call); exact g30; exact rfl; exact f3; exact rfl)
        | ((with_reducible apply st_call); exact g30; exact rfl; exact f4; exact rfl)
        | ((with_reducible apply st_some); exact hx0)
        | ((with_reducible apply st_some); exact xa)
        | ((with_reducible apply st_some); exact xb)
        | ((with_reducible apply st_some); exact s1)
        | ((with_reducible apply st_some); exact s2)
        | ((with_reducible apply st_some); exact s3)
        | ((with_reducible apply st_some); exact y1)
        | ((with_reducible apply st_some); exact y2)
        | ((with_reducible apply st_callt); assumption; exact rfl; exact rfl; assumption)
        | ((with_reducible apply st_callf); assumption; exact rfl; exact rfl; assumption)
        | ((with_reducible apply st_call); assumption; exact rfl; exact rfl; exact rfl)
        | ((with_reducible apply st_wide); exact rfl; exact rfl)
        | ((with_reducible apply st_skip); exact rfl)
        | ((with_reducible apply st_t); exact rfl; exact rfl)
        | ((with_reducible apply st_f); exact rfl; exact rfl)
        | ((with_reducible apply st_t); exact rfl; assumption)
        | ((with_reducible apply st_f); exact rfl; assumption)
        | ((with_reducible apply st_some); exact rfl)
        | exact rfl
      refine st_join (ds := [.flt gg]) ?_ rfl ?_
      · rw [← hg2]
        exact st_iff rfl
      repeat' first
        | with_reducible refine st_ift ?_
        | with_reducible refine st_iff ?_
        | ((with_reducible apply st_ift2); exact rfl)
        | ((with_reducible apply st_iff2); exact rfl)
        | ((with_reducible apply st_call); exact g13; exact rfl; exact hless; exact rfl)
        | ((with_reducible apply st_call); exact g15; exact rfl; exact hlong; exact rfl)
        | ((with_reducible apply st_call); exact g126; exact rfl; exact e126; exact rfl)
        | ((with_reducible apply st_call); exact g205; exact rfl; exact h205a; exact rfl)
        | ((with_reducible apply st_call); exact g205; exact rfl; exact h205b; exact rfl)
        | ((with_reducible apply st_call); exact g31; exact rfl; exact f1; exact rfl)
        | ((with_reducible apply st_call); exact g31; exact rfl; exact f2; exact rfl)
        | ((with_reducible apply st_call); exact g30; exact rfl; exact f3; exact rfl)
        | ((with_reducible apply st_call); exact g30; exact rfl; exact f4; exact rfl)
        | ((with_reducible apply st_some); exact hx0)
        | ((with_reducible apply st_some); exact xa)
        | ((with_reducible apply st_some); exact xb)
        | ((with_reducible apply st_some); exact s1)
        | ((with_reducible apply st_some); exact s2)
        | ((with_reducible apply st_some); exact s3)
        | ((with_reducible apply st_some); exact y1)
        | ((with_reducible apply st_some); exact y2)
        | ((with_reducible apply st_callt); assumption; exact rfl; exact rfl; assumption)
        | ((with_reducible apply st_callf); assumption; exact rfl; exact rfl; assumption)
        | ((with_reducible apply st_call); assumption; exact rfl; exact rfl; exact rfl)
        | ((with_reducible apply st_wide); exact rfl; exact rfl)
        | ((with_reducible apply st_skip); exact rfl)
        | ((with_reducible apply st_t); exact rfl; exact rfl)
        | ((with_reducible apply st_f); exact rfl; exact rfl)
        | ((with_reducible apply st_t); exact rfl; assumption)
        | ((with_reducible apply st_f); exact rfl; assumption)
        | ((with_reducible apply st_some); exact rfl)
        | exact rfl
      refine st_join (ds := [vl (vs)]) ?_ rfl ?_
      · repeat' first
          | with_reducible refine st_ift ?_
          | with_reducible refine st_iff ?_
          | ((with_reducible apply st_ift2); exact rfl)
          | ((with_reducible apply st_iff2); exact rfl)
          | ((with_reducible apply st_call); exact g13; exact rfl; exact hless; exact rfl)
          | ((with_reducible apply st_call); exact g15; exact rfl; exact hlong; exact rfl)
          | ((with_reducible apply st_call); exact g126; exact rfl; exact e126; exact rfl)
          | ((with_reducible apply st_call); exact g205; exact rfl; exact h205a; exact rfl)
          | ((with_reducible apply st_call); exact g205; exact rfl; exact h205b; exact rfl)
          | ((with_reducible apply st_call); exact g31; exact rfl; exact f1; exact rfl)
          | ((with_reducible apply st_call); exact g31; exact rfl; exact f2; exact rfl)
          | ((with_reducible apply st_call); exact g30; exact rfl; exact f3; exact rfl)
          | ((with_reducible apply st_call); exact g30; exact rfl; exact f4; exact rfl)
          | ((with_reducible apply st_some); exact hx0)
          | ((with_reducible apply st_some); exact xa)
          | ((with_reducible apply st_some); exact xb)
          | ((with_reducible apply st_some); exact s1)
          | ((with_reducible apply st_some); exact s2)
          | ((with_reducible apply st_some); exact s3)
          | ((with_reducible apply st_some); exact y1)
          | ((with_reducible apply st_some); exact y2)
          | ((with_reducible apply st_callt); assumption; exact rfl; exact rfl; assumption)
          | ((with_reducible apply st_callf); assumption; exact rfl; exact rfl; assumption)
          | ((with_reducible apply st_call); assumption; exact rfl; exact rfl; exact rfl)
          | ((with_reducible apply st_wide); exact rfl; exact rfl)
          | ((with_reducible apply st_skip); exact rfl)
          | ((with_reducible apply st_t); exact rfl; exact rfl)
          | ((with_reducible apply st_f); exact rfl; exact rfl)
          | ((with_reducible apply st_t); exact rfl; assumption)
          | ((with_reducible apply st_f); exact rfl; assumption)
          | ((with_reducible apply st_some); exact rfl)
          | exact rfl
      repeat' first
        | with_reducible refine st_ift ?_
        | with_reducible refine st_iff ?_
        | ((with_reducible apply st_ift2); exact rfl)
        | ((with_reducible apply st_iff2); exact rfl)
        | ((with_reducible apply st_call); exact g13; exact rfl; exact hless; exact rfl)
        | ((with_reducible apply st_call); exact g15; exact rfl; exact hlong; exact rfl)
        | ((with_reducible apply st_call); exact g126; exact rfl; exact e126; exact rfl)
        | ((with_reducible apply st_call); exact g205; exact rfl; exact h205a; exact rfl)
        | ((with_reducible apply st_call); exact g205; exact rfl; exact h205b; exact rfl)
        | ((with_reducible apply st_call); exact g31; exact rfl; exact f1; exact rfl)
        | ((with_reducible apply st_call); exact g31; exact rfl; exact f2; exact rfl)
        | ((with_reducible apply st_call); exact g30; exact rfl; exact f3; exact rfl)
        | ((with_reducible apply st_call); exact g30; exact rfl; exact f4; exact rfl)
        | ((with_reducible apply st_some); exact hx0)
        | ((with_reducible apply st_some); exact xa)
        | ((with_reducible apply st_some); exact xb)
        | ((with_reducible apply st_some); exact s1)
        | ((with_reducible apply st_some); exact s2)
        | ((with_reducible apply st_some); exact s3)
        | ((with_reducible apply st_some); exact y1)
        | ((with_reducible apply st_some); exact y2)
        | ((with_reducible apply st_callt); assumption; exact rfl; exact rfl; assumption)
        | ((with_reducible apply st_callf); assumption; exact rfl; exact rfl; assumption)
        | ((with_reducible apply st_call); assumption; exact rfl; exact rfl; exact rfl)
        | ((with_reducible apply st_wide); exact rfl; exact rfl)
        | ((with_reducible apply st_skip); exact rfl)
        | ((with_reducible apply st_t); exact rfl; exact rfl)
        | ((with_reducible apply st_f); exact rfl; exact rfl)
        | ((with_reducible apply st_t); exact rfl; assumption)
        | ((with_reducible apply st_f); exact rfl; assumption)
        | ((with_reducible apply st_some); exact rfl)
        | exact rfl
      refine st_join (ds := [vl ((vs).set s.b.toNat vb)]) ?_ rfl ?_
      · repeat' first
          | with_reducible refine st_ift ?_
          | with_reducible refine st_iff ?_
          | ((with_reducible apply st_ift2); exact rfl)
          | ((with_reducible apply st_iff2); exact rfl)
          | ((with_reducible apply st_call); exact g13; exact rfl; exact hless; exact rfl)
          | ((with_reducible apply st_call); exact g15; exact rfl; exact hlong; exact rfl)
          | ((with_reducible apply st_call); exact g126; exact rfl; exact e126; exact rfl)
          | ((with_reducible apply st_call); exact g205; exact rfl; exact h205a; exact rfl)
          | ((with_reducible apply st_call); exact g205; exact rfl; exact h205b; exact rfl)
          | ((with_reducible apply st_call); exact g31; exact rfl; exact f1; exact rfl)
          | ((with_reducible apply st_call); exact g31; exact rfl; exact f2; exact rfl)
          | ((with_reducible apply st_call); exact g30; exact rfl; exact f3; exact rfl)
          | ((with_reducible apply st_call); exact g30; exact rfl; exact f4; exact rfl)
          | ((with_reducible apply st_some); exact hx0)
          | ((with_reducible apply st_some); exact xa)
          | ((with_reducible apply st_some); exact xb)
          | ((with_reducible apply st_some); exact s1)
          | ((with_reducible apply st_some); exact s2)
          | ((with_reducible apply st_some); exact s3)
          | ((with_reducible apply st_some); exact y1)
          | ((with_reducible apply st_some); exact y2)
          | ((with_reducible apply st_callt); assumption; exact rfl; exact rfl; assumption)
          | ((with_reducible apply st_callf); assumption; exact rfl; exact rfl; assumption)
          | ((with_reducible apply st_call); assumption; exact rfl; exact rfl; exact rfl)
          | ((with_reducible apply st_wide); exact rfl; exact rfl)
          | ((with_reducible apply st_skip); exact rfl)
          | ((with_reducible apply st_t); exact rfl; exact rfl)
          | ((with_reducible apply st_f); exact rfl; exact rfl)
          | ((with_reducible apply st_t); exact rfl; assumption)
          | ((with_reducible apply st_f); exact rfl; assumption)
          | ((with_reducible apply st_some); exact rfl)
          | exact rfl
      rfl
    · have hg2 : g0 = gg := hgg
      repeat' first
        | with_reducible refine st_ift ?_
        | with_reducible refine st_iff ?_
        | ((with_reducible apply st_ift2); exact rfl)
        | ((with_reducible apply st_iff2); exact rfl)
        | ((with_reducible apply st_call); exact g13; exact rfl; exact hless; exact rfl)
        | ((with_reducible apply st_call); exact g15; exact rfl; exact hlong; exact rfl)
        | ((with_reducible apply st_call); exact g126; exact rfl; exact e126; exact rfl)
        | ((with_reducible apply st_call); exact g205; exact rfl; exact h205a; exact rfl)
        | ((with_reducible apply st_call); exact g205; exact rfl; exact h205b; exact rfl)
        | ((with_reducible apply st_call); exact g31; exact rfl; exact f1; exact rfl)
        | ((with_reducible apply st_call); exact g31; exact rfl; exact f2; exact rfl)
        | ((with_reducible apply st_call); exact g30; exact rfl; exact f3; exact rfl)
        | ((with_reducible apply st_call); exact g30; exact rfl; exact f4; exact rfl)
        | ((with_reducible apply st_some); exact hx0)
        | ((with_reducible apply st_some); exact xa)
        | ((with_reducible apply st_some); exact xb)
        | ((with_reducible apply st_some); exact s1)
        | ((with_reducible apply st_some); exact s2)
        | ((with_reducible apply st_some); exact s3)
        | ((with_reducible apply st_some); exact y1)
        | ((with_reducible apply st_some); exact y2)
        | ((with_reducible apply st_callt); assumption; exact rfl; exact rfl; assumption)
        | ((with_reducible apply st_callf); assumption; exact rfl; exact rfl; assumption)
        | ((with_reducible apply st_call); assumption; exact rfl; exact rfl; exact rfl)
        | ((with_reducible apply st_wide); exact rfl; exact rfl)
        | ((with_reducible apply st_skip); exact rfl)
        | ((with_reducible apply st_t); exact rfl; exact rfl)
        | ((with_reducible apply st_f); exact rfl; exact rfl)
        | ((with_reducible apply st_t); exact rfl; assumption)
        | ((with_reducible apply st_f); exact rfl; assumption)
        | ((with_reducible apply st_some); exact rfl)
        | exact rfl
      refine st_join (ds := [.flt gg]) ?_ rfl ?_
      · rw [← hg2]
        exact st_iff rfl
      repeat' first
        | with_reducible refine st_ift ?_
        | with_reducible refine st_iff ?_
        | ((with_reducible apply st_ift2); exact rfl)
        | ((with_reducible apply st_iff2); exact rfl)
        | ((with_reducible apply st_call); exact g13; exact rfl; exact hless; exact rfl)
        | ((with_reducible apply st_call); exact g15; exact rfl; exact hlong; exact rfl)
        | ((with_reducible apply st_call); exact g126; exact rfl; exact e126; exact rfl)
        | ((with_reducible apply st_call); exact g205; exact rfl; exact h205a; exact rfl)
        | ((with_reducible apply st_call); exact g205; exact rfl; exact h205b; exact rfl)
        | ((with_reducible apply st_call); exact g31; exact rfl; exact f1; exact rfl)
        | ((with_reducible apply st_call); exact g31; exact rfl; exact f2; exact rfl)
        | ((with_reducible apply st_call); exact g30; exact rfl; exact f3; exact rfl)
        | ((with_reducible apply st_call); exact g30; exact rfl; exact f4; exact rfl)
        | ((with_reducible apply st_some); exact hx0)
        | ((with_reducible apply st_some); exact xa)
        | ((with_reducible apply st_some); exact xb)
        | ((with_reducible apply st_some); exact s1)
        | ((with_reducible apply st_some); exact s2)
        | ((with_reducible apply st_some); exact s3)
        | ((with_reducible apply st_some); exact y1)
        | ((with_reducible apply st_some); exact y2)
        | ((with_reducible apply st_callt); assumption; exact rfl; exact rfl; assumption)
        | ((with_reducible apply st_callf); assumption; exact rfl; exact rfl; assumption)
        | ((with_reducible apply st_call); assumption; exact rfl; exact rfl; exact rfl)
        | ((with_reducible apply st_wide); exact rfl; exact rfl)
        | ((with_reducible apply st_skip); exact rfl)
        | ((with_reducible apply st_t); exact rfl; exact rfl)
        | ((with_reducible apply st_f); exact rfl; exact rfl)
        | ((with_reducible apply st_t); exact rfl; assumption)
        | ((with_reducible apply st_f); exact rfl; assumption)
        | ((with_reducible apply st_some); exact rfl)
        | exact rfl
      refine st_join (ds := [vl (vs)]) ?_ rfl ?_
      · repeat' first
          | with_reducible refine st_ift ?_
          | with_reducible refine st_iff ?_
          | ((with_reducible apply st_ift2); exact rfl)
          | ((with_reducible apply st_iff2); exact rfl)
          | ((with_reducible apply st_call); exact g13; exact rfl; exact hless; exact rfl)
          | ((with_reducible apply st_call); exact g15; exact rfl; exact hlong; exact rfl)
          | ((with_reducible apply st_call); exact g126; exact rfl; exact e126; exact rfl)
          | ((with_reducible apply st_call); exact g205; exact rfl; exact h205a; exact rfl)
          | ((with_reducible apply st_call); exact g205; exact rfl; exact h205b; exact rfl)
          | ((with_reducible apply st_call); exact g31; exact rfl; exact f1; exact rfl)
          | ((with_reducible apply st_call); exact g31; exact rfl; exact f2; exact rfl)
          | ((with_reducible apply st_call); exact g30; exact rfl; exact f3; exact rfl)
          | ((with_reducible apply st_call); exact g30; exact rfl; exact f4; exact rfl)
          | ((with_reducible apply st_some); exact hx0)
          | ((with_reducible apply st_some); exact xa)
          | ((with_reducible apply st_some); exact xb)
          | ((with_reducible apply st_some); exact s1)
          | ((with_reducible apply st_some); exact s2)
          | ((with_reducible apply st_some); exact s3)
          | ((with_reducible apply st_some); exact y1)
          | ((with_reducible apply st_some); exact y2)
          | ((with_reducible apply st_callt); assumption; exact rfl; exact rfl; assumption)
          | ((with_reducible apply st_callf); assumption; exact rfl; exact rfl; assumption)
          | ((with_reducible apply st_call); assumption; exact rfl; exact rfl; exact rfl)
          | ((with_reducible apply st_wide); exact rfl; exact rfl)
          | ((with_reducible apply st_skip); exact rfl)
          | ((with_reducible apply st_t); exact rfl; exact rfl)
          | ((with_reducible apply st_f); exact rfl; exact rfl)
          | ((with_reducible apply st_t); exact rfl; assumption)
          | ((with_reducible apply st_f); exact rfl; assumption)
          | ((with_reducible apply st_some); exact rfl)
          | exact rfl
      repeat' first
        | with_reducible refine st_ift ?_
        | with_reducible refine st_iff ?_
        | ((with_reducible apply st_ift2); exact rfl)
        | ((with_reducible apply st_iff2); exact rfl)
        | ((with_reducible apply st_call); exact g13; exact rfl; exact hless; exact rfl)
        | ((with_reducible apply st_call); exact g15; exact rfl; exact hlong; exact rfl)
        | ((with_reducible apply st_call); exact g126; exact rfl; exact e126; exact rfl)
        | ((with_reducible apply st_call); exact g205; exact rfl; exact h205a; exact rfl)
        | ((with_reducible apply st_call); exact g205; exact rfl; exact h205b; exact rfl)
        | ((with_reducible apply st_call); exact g31; exact rfl; exact f1; exact rfl)
        | ((with_reducible apply st_call); exact g31; exact rfl; exact f2; exact rfl)
        | ((with_reducible apply st_call); exact g30; exact rfl; exact f3; exact rfl)
        | ((with_reducible apply st_call); exact g30; exact rfl; exact f4; exact rfl)
        | ((with_reducible apply st_some); exact hx0)
        | ((with_reducible apply st_some); exact xa)
        | ((with_reducible apply st_some); exact xb)
        | ((with_reducible apply st_some); exact s1)
        | ((with_reducible apply st_some); exact s2)
        | ((with_reducible apply st_some); exact s3)
        | ((with_reducible apply st_some); exact y1)
        | ((with_reducible apply st_some); exact y2)
        | ((with_reducible apply st_callt); assumption; exact rfl; exact rfl; assumption)
        | ((with_reducible apply st_callf); assumption; exact rfl; exact rfl; assumption)
        | ((with_reducible apply st_call); assumption; exact rfl; exact rfl; exact rfl)
        | ((with_reducible apply st_wide); exact rfl; exact rfl)
        | ((with_reducible apply st_skip); exact rfl)
        | ((with_reducible apply st_t); exact rfl; exact rfl)
        | ((with_reducible apply st_f); exact rfl; exact rfl)
        | ((with_reducible apply st_t); exact rfl; assumption)
        | ((with_reducible apply st_f); exact rfl; assumption)
        | ((with_reducible apply st_some); exact rfl)
        | exact rfl
      refine st_join (ds := [vl (vs)]) ?_ rfl ?_
      · repeat' first
          | with_reducible refine st_ift ?_
          | with_reducible refine st_iff ?_
          | ((with_reducible apply st_ift2); exact rfl)
          | ((with_reducible apply st_iff2); exact rfl)
          | ((with_reducible apply st_call); exact g13; exact rfl; exact hless; exact rfl)
          | ((with_reducible apply st_call); exact g15; exact rfl; exact hlong; exact rfl)
          | ((with_reducible apply st_call); exact g126; exact rfl; exact e126; exact rfl)
          | ((with_reducible apply st_call); exact g205; exact rfl; exact h205a; exact rfl)
          | ((with_reducible apply st_call); exact g205; exact rfl; exact h205b; exact rfl)
          | ((with_reducible apply st_call); exact g31; exact rfl; exact f1; exact rfl)
          | ((with_reducible apply st_call); exact g31; exact rfl; exact f2; exact rfl)
          | ((with_reducible apply st_call); exact g30; exact rfl; exact f3; exact rfl)
          | ((with_reducible apply st_call); exact g30; exact rfl; exact f4; exact rfl)
          | ((with_reducible apply st_some); exact hx0)
          | ((with_reducible apply st_some); exact xa)
          | ((with_reducible apply st_some); exact xb)
          | ((with_reducible apply st_some); exact s1)
          | ((with_reducible apply st_some); exact s2)
          | ((with_reducible apply st_some); exact s3)
          | ((with_reducible apply st_some); exact y1)
          | ((with_reducible apply st_some); exact y2)
          | ((with_reducible apply st_callt); assumption; exact rfl; exact rfl; assumption)
          | ((with_reducible apply st_callf); assumption; exact rfl; exact rfl; assumption)
          | ((with_reducible apply st_call); assumption; exact rfl; exact rfl; exact rfl)
          | ((with_reducible apply st_wide); exact rfl; exact rfl)
          | ((with_reducible apply st_skip); exact rfl)
          | ((with_reducible apply st_t); exact rfl; exact rfl)
          | ((with_reducible apply st_f); exact rfl; exact rfl)
          | ((with_reducible apply st_t); exact rfl; assumption)
          | ((with_reducible apply st_f); exact rfl; assumption)
          | ((with_reducible apply st_some); exact rfl)
          | exact rfl
      rfl
theorem map_range_getD {n j : Nat} {f : Nat → Bool} (h : j < n) : ((List.range n).map f).getD j false = f j := by
  rw [getD_lt (by simpa using h)]
  simp
theorem sl_nil : sl [] = .lst [] := by unfold sl; rfl
theorem fl_nil : fl [] = .lst [] := by unfold fl; rfl
set_option maxHeartbeats 4000000 in
theorem run252 {G : Told} (g247 : G 247 = F247) (g248 : G 248 = F248) (g249 : G 249 = F249) (g250 : G 250 = F250) : ∀ ds rs, F252 ds = some rs → ∃ fuel, run G fuel T252 ds = some (0, rs) := by
  intro ds rs h
  obtain ⟨B, l, i, rfl, hp⟩ := onHI_inv h
  replace h := hp
  clear hp
  split at h
  case isFalse => cases h
  rename_i hc
  simp only [Option.some.injEq] at h
  subst h
  have h7 : F247 (bd B ++ [il l, .int i]) = some [.bool (validB B && heldP B.vs.length l && inr B.ss.length i)] := by
    unfold F247
    rw [onHI_m]
    exact if_pos hc
  have h8 : F248 (bd B) = some (bd B) := F186_m hc.1
  show ∃ fuel, run G fuel T252 (bd B ++ [il l, .int i]) = _
  refine ⟨0, ?_⟩
  cases hval : (validB B && heldP B.vs.length l && inr B.ss.length i)
  case false =>
    rw [hval] at h7
    rw [if_neg (by simp)]
    unfold noB
    simp only [bd, List.cons_append, List.nil_append, vl_nil, tl_nil, sl_nil, fl_nil] at h7 ⊢
    rw [eq252]
    unfold S252
    repeat' first
      | with_reducible refine st_ift ?_
      | with_reducible refine st_iff ?_
      | ((with_reducible apply st_ift2); exact rfl)
      | ((with_reducible apply st_iff2); exact rfl)
      | ((with_reducible apply st_call); exact g247; exact rfl; exact h7; exact rfl)
      | ((with_reducible apply st_callt); assumption; exact rfl; exact rfl; assumption)
      | ((with_reducible apply st_callf); assumption; exact rfl; exact rfl; assumption)
      | ((with_reducible apply st_call); assumption; exact rfl; exact rfl; exact rfl)
      | ((with_reducible apply st_wide); exact rfl; exact rfl)
      | ((with_reducible apply st_skip); exact rfl)
      | ((with_reducible apply st_t); exact rfl; exact rfl)
      | ((with_reducible apply st_f); exact rfl; exact rfl)
      | ((with_reducible apply st_t); exact rfl; assumption)
      | ((with_reducible apply st_f); exact rfl; assumption)
      | ((with_reducible apply st_some); exact rfl)
      | exact rfl
  case true =>
    rw [hval] at h7
    rw [if_pos rfl]
    simp only [Bool.and_eq_true] at hval
    obtain ⟨⟨hvb, hh⟩, hi⟩ := hval
    obtain ⟨h64, h200, hsp⟩ := validB_spr hvb
    obtain ⟨k, rfl⟩ : ∃ k : Nat, i = k := by
      unfold inr at hi
      simp only [Bool.and_eq_true, decide_eq_true_eq] at hi
      exact ⟨i.toNat, by omega⟩
    have hk : k < B.ss.length := by
      unfold inr at hi
      simp only [Bool.and_eq_true, decide_eq_true_eq] at hi
      omega
    obtain ⟨ha, hb, hab⟩ := hsp k hk
    have h9 : F249 (bd B ++ [il l]) = some [bo ((List.range B.vs.length).map fun (c : Nat) => l.contains (c : Int))] := by
      unfold F249
      rw [onH_m]
      exact if_pos ⟨hc.1, hh⟩
    have hx := idx_sl hk
    have h10 := F250_m (s := B.ss[k]) (u := (List.range B.vs.length).map fun (c : Nat) => l.contains (c : Int)) (by simp) ha hb hab
    have ra := ha
    have rb := hb
    unfold inr at ra rb
    simp only [Bool.and_eq_true, decide_eq_true_eq] at ra rb
    rw [map_range_getD (by omega), map_range_getD (by omega), show ((B.ss[k].a.toNat : Nat) : Int) = B.ss[k].a from by omega, show ((B.ss[k].b.toNat : Nat) : Int) = B.ss[k].b from by omega] at h10
    have hpb : projB B l k = ⟨projV B.vs B.ss[k] (l.contains B.ss[k].a) (l.contains B.ss[k].b), B.ts, B.ss, B.fm, B.bn, B.ws, B.x, B.y, B.z⟩ := by
      unfold projB
      rw [Int.toNat_natCast, getD_lt hk]
    rw [hpb]
    generalize projV B.vs B.ss[k] (l.contains B.ss[k].a) (l.contains B.ss[k].b) = pv at *
    generalize ((List.range B.vs.length).map fun (c : Nat) => l.contains (c : Int)) = um at *
    clear ra rb ha hb hab hsp hi
    generalize B.ss[k] = s at *
    obtain ⟨vs, ts, ss, fm, bn, ws, x, y, z⟩ := B
    simp only [bd, List.cons_append, List.nil_append] at h7 h8 h9 h10 hx ⊢
    rw [eq252]
    unfold S252
    repeat' first
      | with_reducible refine st_ift ?_
      | with_reducible refine st_iff ?_
      | ((with_reducible apply st_ift2); exact rfl)
      | ((with_reducible apply st_iff2); exact rfl)
      | ((with_reducible apply st_call); exact g247; exact rfl; exact h7; exact rfl)
      | ((with_reducible apply st_call); exact g248; exact rfl; exact h8; exact rfl)
      | ((with_reducible apply st_call); exact g249; exact rfl; exact h9; exact rfl)
      | ((with_reducible apply st_call); exact g250; exact rfl; exact h10; exact rfl)
      | ((with_reducible apply st_some); exact hx)
      | ((with_reducible apply st_callt); assumption; exact rfl; exact rfl; assumption)
      | ((with_reducible apply st_callf); assumption; exact rfl; exact rfl; assumption)
      | ((with_reducible apply st_call); assumption; exact rfl; exact rfl; exact rfl)
      | ((with_reducible apply st_wide); exact rfl; exact rfl)
      | ((with_reducible apply st_skip); exact rfl)
      | ((with_reducible apply st_t); exact rfl; exact rfl)
      | ((with_reducible apply st_f); exact rfl; exact rfl)
      | ((with_reducible apply st_t); exact rfl; assumption)
      | ((with_reducible apply st_f); exact rfl; assumption)
      | ((with_reducible apply st_some); exact rfl)
      | exact rfl
set_option maxHeartbeats 4000000 in
theorem run252s {G : Told} (g19 : G 19 = F19) (g195 : G 195 = F195) (g245 : G 245 = F245) (g248 : G 248 = F248) (g251 : G 251 = F251) : ∀ ds rs, F252 ds = some rs → ∃ fuel, run G fuel T252s ds = some (0, rs) := by
  intro ds rs h
  obtain ⟨B, l, i, rfl, hp⟩ := onHI_inv h
  replace h := hp
  clear hp
  split at h
  case isFalse => cases h
  rename_i hc
  simp only [Option.some.injEq] at h
  subst h
  have hv := F195_m hc.1
  have hsl : B.ss.length ≤ 1048576 := by
    have e1 : szB B = szM B.vs B.ts + B.ss.length + B.ws.length := rfl
    omega
  have hs := sub1 (n := B.ss.length) (by omega) (by omega)
  have hn := len_sl (l := B.ss)
  have h5 : F245 (bd B ++ [il l]) = some [.bool (heldP B.vs.length l)] := by
    unfold F245
    rw [onH_m]
    exact if_pos hc
  have h9 := F19_in i B.ss.length
  have h8 : F248 (bd B) = some (bd B) := F186_m hc.1
  show ∃ fuel, run G fuel T252s (bd B ++ [il l, .int i]) = _
  refine ⟨0, ?_⟩
  cases v1 : validB B
  case false =>
    rw [v1] at hv
    rw [Bool.false_and, Bool.false_and, if_neg (by simp)]
    unfold noB
    simp only [bd, List.cons_append, List.nil_append, vl_nil, tl_nil, sl_nil, fl_nil] at hv ⊢
    rw [eq252s]
    unfold S252s
    repeat' first
      | with_reducible refine st_ift ?_
      | with_reducible refine st_iff ?_
      | ((with_reducible apply st_ift2); exact rfl)
      | ((with_reducible apply st_iff2); exact rfl)
      | ((with_reducible apply st_call); exact g195; exact rfl; exact hv; exact rfl)
      | ((with_reducible apply st_callt); assumption; exact rfl; exact rfl; assumption)
      | ((with_reducible apply st_callf); assumption; exact rfl; exact rfl; assumption)
      | ((with_reducible apply st_call); assumption; exact rfl; exact rfl; exact rfl)
      | ((with_reducible apply st_wide); exact rfl; exact rfl)
      | ((with_reducible apply st_skip); exact rfl)
      | ((with_reducible apply st_t); exact rfl; exact rfl)
      | ((with_reducible apply st_f); exact rfl; exact rfl)
      | ((with_reducible apply st_t); exact rfl; assumption)
      | ((with_reducible apply st_f); exact rfl; assumption)
      | ((with_reducible apply st_some); exact rfl)
      | exact rfl
  rw [v1] at hv
  cases v2 : heldP B.vs.length l
  case false =>
    rw [v2] at h5
    rw [Bool.true_and, Bool.false_and, if_neg (by simp)]
    unfold noB
    simp only [bd, List.cons_append, List.nil_append, vl_nil, tl_nil, sl_nil, fl_nil] at hv h5 ⊢
    rw [eq252s]
    unfold S252s
    repeat' first
      | with_reducible refine st_ift ?_
      | with_reducible refine st_iff ?_
      | ((with_reducible apply st_ift2); exact rfl)
      | ((with_reducible apply st_iff2); exact rfl)
      | ((with_reducible apply st_call); exact g195; exact rfl; exact hv; exact rfl)
      | ((with_reducible apply st_call); exact g245; exact rfl; exact h5; exact rfl)
      | ((with_reducible apply st_callt); assumption; exact rfl; exact rfl; assumption)
      | ((with_reducible apply st_callf); assumption; exact rfl; exact rfl; assumption)
      | ((with_reducible apply st_call); assumption; exact rfl; exact rfl; exact rfl)
      | ((with_reducible apply st_wide); exact rfl; exact rfl)
      | ((with_reducible apply st_skip); exact rfl)
      | ((with_reducible apply st_t); exact rfl; exact rfl)
      | ((with_reducible apply st_f); exact rfl; exact rfl)
      | ((with_reducible apply st_t); exact rfl; assumption)
      | ((with_reducible apply st_f); exact rfl; assumption)
      | ((with_reducible apply st_some); exact rfl)
      | exact rfl
  rw [v2] at h5
  cases v3 : inr B.ss.length i
  case false =>
    rw [v3] at h9
    rw [Bool.true_and, Bool.true_and, if_neg (by simp)]
    unfold noB
    simp only [bd, List.cons_append, List.nil_append, vl_nil, tl_nil, sl_nil, fl_nil] at hv h5 hn hs h9 ⊢
    rw [eq252s]
    unfold S252s
    repeat' first
      | with_reducible refine st_ift ?_
      | with_reducible refine st_iff ?_
      | ((with_reducible apply st_ift2); exact rfl)
      | ((with_reducible apply st_iff2); exact rfl)
      | ((with_reducible apply st_call); exact g195; exact rfl; exact hv; exact rfl)
      | ((with_reducible apply st_call); exact g245; exact rfl; exact h5; exact rfl)
      | ((with_reducible apply st_call); exact g19; exact rfl; exact h9; exact rfl)
      | ((with_reducible apply st_some); exact hn)
      | ((with_reducible apply st_some); exact hs)
      | ((with_reducible apply st_callt); assumption; exact rfl; exact rfl; assumption)
      | ((with_reducible apply st_callf); assumption; exact rfl; exact rfl; assumption)
      | ((with_reducible apply st_call); assumption; exact rfl; exact rfl; exact rfl)
      | ((with_reducible apply st_wide); exact rfl; exact rfl)
      | ((with_reducible apply st_skip); exact rfl)
      | ((with_reducible apply st_t); exact rfl; exact rfl)
      | ((with_reducible apply st_f); exact rfl; exact rfl)
      | ((with_reducible apply st_t); exact rfl; assumption)
      | ((with_reducible apply st_f); exact rfl; assumption)
      | ((with_reducible apply st_some); exact rfl)
      | exact rfl
  rw [v3] at h9
  rw [Bool.true_and, Bool.true_and, if_pos rfl]
  have h1 : F251 (bd B ++ [il l, .int i]) = some [vl (projB B l i).vs, tl B.ts, sl B.ss, fl B.ws] := by
    unfold F251
    rw [onHI_m]
    exact if_pos ⟨v1, v2, v3⟩
  have hpb : ∃ pv, projB B l i = ⟨pv, B.ts, B.ss, B.fm, B.bn, B.ws, B.x, B.y, B.z⟩ := ⟨_, rfl⟩
  obtain ⟨pv, hpb⟩ := hpb
  rw [hpb] at h1 ⊢
  clear v1 v2 v3 hpb
  obtain ⟨vs, ts, ss, fm, bn, ws, x, y, z⟩ := B
  simp only [bd, List.cons_append, List.nil_append] at hv h5 h8 h1 hn hs h9 ⊢
  rw [eq252s]
  unfold S252s
  repeat' first
    | with_reducible refine st_ift ?_
    | with_reducible refine st_iff ?_
    | ((with_reducible apply st_ift2); exact rfl)
    | ((with_reducible apply st_iff2); exact rfl)
    | ((with_reducible apply st_call); exact g195; exact rfl; exact hv; exact rfl)
    | ((with_reducible apply st_call); exact g245; exact rfl; exact h5; exact rfl)
    | ((with_reducible apply st_call); exact g19; exact rfl; exact h9; exact rfl)
    | ((with_reducible apply st_call); exact g248; exact rfl; exact h8; exact rfl)
    | ((with_reducible apply st_call); exact g251; exact rfl; exact h1; exact rfl)
    | ((with_reducible apply st_some); exact hn)
    | ((with_reducible apply st_some); exact hs)
    | ((with_reducible apply st_callt); assumption; exact rfl; exact rfl; assumption)
    | ((with_reducible apply st_callf); assumption; exact rfl; exact rfl; assumption)
    | ((with_reducible apply st_call); assumption; exact rfl; exact rfl; exact rfl)
    | ((with_reducible apply st_wide); exact rfl; exact rfl)
    | ((with_reducible apply st_skip); exact rfl)
    | ((with_reducible apply st_t); exact rfl; exact rfl)
    | ((with_reducible apply st_f); exact rfl; exact rfl)
    | ((with_reducible apply st_t); exact rfl; assumption)
    | ((with_reducible apply st_f); exact rfl; assumption)
    | ((with_reducible apply st_some); exact rfl)
    | exact rfl
theorem szB_proj {B : Bd} {l : List Int} {i : Int} : szB (projB B l i) = szB B := by
  unfold szB szM projB
  dsimp only
  rw [projV_len]
theorem szB_no : szB noB ≤ 1048576 := by
  unfold szB szM totL noB
  simp
set_option maxHeartbeats 4000000 in
theorem run253 {G : Told} (g100 : G 100 = F100) (g102 : G 102 = F102) (g143 : G 143 = F143) (g182 : G 182 = F182) (g186 : G 186 = F186) (g190 : G 190 = F190) (g193 : G 193 = F193) (g243 : G 243 = F243) (g252 : G 252 = F252) : ∀ ds rs, F253 ds = some rs → ∃ fuel, run G fuel T253 ds = some (0, rs) := by
  intro ds rs h
  obtain ⟨B, l, i, rfl, hp⟩ := onHI_inv h
  replace h := hp
  clear hp
  split at h
  case isFalse => cases h
  rename_i hc
  simp only [Option.some.injEq] at h
  subst h
  obtain ⟨hc, hcl⟩ := hc
  have z1 := F182_m hc
  have t1 := F186_m (B := B)
  have q1 := F190_m (B := B)
  have hnc := len_il (l := l)
  have m1 := F193_m (B := B)
  have hr : szB B ≤ 1048576 → l.length ≤ 1048576 → ∃ U w, F252 (bd B ++ [il l, .int i]) = some (bd U ++ [.bool w]) ∧ szB U ≤ 1048576 := by
    intro h1 h2
    unfold F252
    rw [onHI_m, if_pos ⟨h1, h2⟩]
    split
    · exact ⟨_, _, rfl, by rw [szB_proj]; exact h1⟩
    · exact ⟨_, _, rfl, szB_no⟩
  have hmk : 0 < mkB B := by unfold mkB; omega
  have hmk2 : szB B ≤ 1048576 → mkB B ≤ 1099511627776 := by
    intro h1
    have e1 : szB B = szM B.vs B.ts + B.ss.length + B.ws.length := rfl
    have e2 : szM B.vs B.ts = B.vs.length + B.ts.length + totL B.ts := by unfold szM; rfl
    unfold mkB
    omega
  generalize mkB B = km at hmk hmk2 m1
  generalize szB B = n at *
  obtain ⟨vs, ts, ss, fm, bn, ws, x, y, z⟩ := B
  simp only [bd, List.cons_append, List.nil_append] at z1 t1 q1 m1 hr ⊢
  refine ⟨0, ?_⟩
  rw [eq253]
  unfold S253
  by_cases h20 : l.length ≤ 1048576
  case neg =>
    have d0 : decide ((l.length : Int) > 1048576) = true := by simp; omega
    repeat' first
      | with_reducible refine st_ift ?_
      | with_reducible refine st_iff ?_
      | ((with_reducible apply st_ift2); exact rfl)
      | ((with_reducible apply st_iff2); exact rfl)
      | ((with_reducible apply st_some); exact hnc)
      | ((with_reducible apply st_callt); assumption; exact rfl; exact rfl; assumption)
      | ((with_reducible apply st_callf); assumption; exact rfl; exact rfl; assumption)
      | ((with_reducible apply st_call); assumption; exact rfl; exact rfl; exact rfl)
      | ((with_reducible apply st_wide); exact rfl; exact rfl)
      | ((with_reducible apply st_skip); exact rfl)
      | ((with_reducible apply st_t); exact rfl; exact rfl)
      | ((with_reducible apply st_f); exact rfl; exact rfl)
      | ((with_reducible apply st_t); exact rfl; assumption)
      | ((with_reducible apply st_f); exact rfl; assumption)
      | ((with_reducible apply st_some); exact rfl)
      | exact rfl
  have d0 : decide ((l.length : Int) > 1048576) = false := by simp; omega
  by_cases hn : n ≤ 1048576
  case neg =>
    rw [szP_neg hn] at z1
    repeat' first
      | with_reducible refine st_ift ?_
      | with_reducible refine st_iff ?_
      | ((with_reducible apply st_ift2); exact rfl)
      | ((with_reducible apply st_iff2); exact rfl)
      | ((with_reducible apply st_call); exact g182; exact rfl; exact z1; exact rfl)
      | ((with_reducible apply st_some); exact hnc)
      | ((with_reducible apply st_callt); assumption; exact rfl; exact rfl; assumption)
      | ((with_reducible apply st_callf); assumption; exact rfl; exact rfl; assumption)
      | ((with_reducible apply st_call); assumption; exact rfl; exact rfl; exact rfl)
      | ((with_reducible apply st_wide); exact rfl; exact rfl)
      | ((with_reducible apply st_skip); exact rfl)
      | ((with_reducible apply st_t); exact rfl; exact rfl)
      | ((with_reducible apply st_f); exact rfl; exact rfl)
      | ((with_reducible apply st_t); exact rfl; assumption)
      | ((with_reducible apply st_f); exact rfl; assumption)
      | ((with_reducible apply st_some); exact rfl)
      | exact rfl
  rw [szP_pos hn] at z1
  have d1 : decide ((1048576 : Int) - (n : Nat) < 0) = false := by simp; omega
  have t1 := t1 hn
  have q1 := q1 hn
  obtain ⟨U, w, hr, hu⟩ := hr hn h20
  obtain ⟨ma, mb, mc, md, m1⟩ := m1 hn
  have hmk2 := hmk2 hn
  have t2 := F143_il h20
  have q2 := F100_il h20
  have k2 : ∃ d, F102 [il l, .int km] = some [.int (km + l.length), d] := by
    unfold il
    simp only [F102, List.length_map]
    exact ⟨_, if_pos ⟨by omega, by omega⟩⟩
  obtain ⟨lm, k2⟩ := k2
  have q3 := F190_m hu
  have m3 := F193_full hu
  have hkU : 0 < mkB U := by unfold mkB; omega
  obtain ⟨us, ut, uss, ufm, ubn, uws, ux, uy, uz⟩ := U
  have n3 := F243_m (d1 := .flt ufm) (d2 := .flt ubn) (d3 := .flt ux) (d4 := .flt uy) (d5 := .flt uz) hu
  generalize mkB ⟨us, ut, uss, ufm, ubn, uws, ux, uy, uz⟩ = ku at *
  dsimp only at m3 n3
  simp only [bd, List.cons_append, List.nil_append] at hr q3 m3
  generalize vl (marksV 1 us.length) = ka at *
  generalize marksT (1 + 3 * us.length) ut = kb at *
  generalize sl (marksS (1 + 3 * us.length + totL ut) uss.length) = kc at *
  generalize fl (marksW (1 + 3 * us.length + totL ut + 4 * uss.length) uws.length) = kd at *
  have d3 : decide (km + l.length < 0) = false := by simp; omega
  have d4 : decide (ku < 0) = false := by simp; omega
  have d5 : (ku != ku) = false := by simp
  cases w
  · repeat' first
      | with_reducible refine st_ift ?_
      | with_reducible refine st_iff ?_
      | ((with_reducible apply st_ift2); exact rfl)
      | ((with_reducible apply st_iff2); exact rfl)
      | ((with_reducible apply st_call); exact g182; exact rfl; exact z1; exact rfl)
      | ((with_reducible apply st_call); exact g186; exact rfl; exact t1; exact rfl)
      | ((with_reducible apply st_call); exact g143; exact rfl; exact t2; exact rfl)
      | ((with_reducible apply st_call); exact g252; exact rfl; exact hr; exact rfl)
      | ((with_reducible apply st_call); exact g190; exact rfl; exact q1; exact rfl)
      | ((with_reducible apply st_call); exact g190; exact rfl; exact q3; exact rfl)
      | ((with_reducible apply st_call); exact g100; exact rfl; exact q2; exact rfl)
      | ((with_reducible apply st_call); exact g193; exact rfl; exact m1; exact rfl)
      | ((with_reducible apply st_call); exact g193; exact rfl; exact m3; exact rfl)
      | ((with_reducible apply st_call); exact g102; exact rfl; exact k2; exact rfl)
      | ((with_reducible apply st_call); exact g243; exact rfl; exact n3; exact rfl)
      | ((with_reducible apply st_some); exact hnc)
      | ((with_reducible apply st_callt); assumption; exact rfl; exact rfl; assumption)
      | ((with_reducible apply st_callf); assumption; exact rfl; exact rfl; assumption)
      | ((with_reducible apply st_call); assumption; exact rfl; exact rfl; exact rfl)
      | ((with_reducible apply st_wide); exact rfl; exact rfl)
      | ((with_reducible apply st_skip); exact rfl)
      | ((with_reducible apply st_t); exact rfl; exact rfl)
      | ((with_reducible apply st_f); exact rfl; exact rfl)
      | ((with_reducible apply st_t); exact rfl; assumption)
      | ((with_reducible apply st_f); exact rfl; assumption)
      | ((with_reducible apply st_some); exact rfl)
      | exact rfl
  · repeat' first
      | with_reducible refine st_ift ?_
      | with_reducible refine st_iff ?_
      | ((with_reducible apply st_ift2); exact rfl)
      | ((with_reducible apply st_iff2); exact rfl)
      | ((with_reducible apply st_call); exact g182; exact rfl; exact z1; exact rfl)
      | ((with_reducible apply st_call); exact g186; exact rfl; exact t1; exact rfl)
      | ((with_reducible apply st_call); exact g143; exact rfl; exact t2; exact rfl)
      | ((with_reducible apply st_call); exact g252; exact rfl; exact hr; exact rfl)
      | ((with_reducible apply st_call); exact g190; exact rfl; exact q1; exact rfl)
      | ((with_reducible apply st_call); exact g190; exact rfl; exact q3; exact rfl)
      | ((with_reducible apply st_call); exact g100; exact rfl; exact q2; exact rfl)
      | ((with_reducible apply st_call); exact g193; exact rfl; exact m1; exact rfl)
      | ((with_reducible apply st_call); exact g193; exact rfl; exact m3; exact rfl)
      | ((with_reducible apply st_call); exact g102; exact rfl; exact k2; exact rfl)
      | ((with_reducible apply st_call); exact g243; exact rfl; exact n3; exact rfl)
      | ((with_reducible apply st_some); exact hnc)
      | ((with_reducible apply st_callt); assumption; exact rfl; exact rfl; assumption)
      | ((with_reducible apply st_callf); assumption; exact rfl; exact rfl; assumption)
      | ((with_reducible apply st_call); assumption; exact rfl; exact rfl; exact rfl)
      | ((with_reducible apply st_wide); exact rfl; exact rfl)
      | ((with_reducible apply st_skip); exact rfl)
      | ((with_reducible apply st_t); exact rfl; exact rfl)
      | ((with_reducible apply st_f); exact rfl; exact rfl)
      | ((with_reducible apply st_t); exact rfl; assumption)
      | ((with_reducible apply st_f); exact rfl; assumption)
      | ((with_reducible apply st_some); exact rfl)
      | exact rfl

end Vs
