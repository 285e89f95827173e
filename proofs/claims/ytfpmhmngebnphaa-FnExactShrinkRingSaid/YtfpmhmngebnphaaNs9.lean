/-
  All local operations together.
-/
import Derived.Test.YtfpmhmngebnphaaNt1
import Derived.BigCall
import Derived.Laws.Externs
namespace Vs
open Go Go.RowKit

def extFn : Ext → Array Value → Sem Value
  | .sqrt => Extern.MathSqrt.sqrt
  | .f64bits => Extern.MathFloatBits.float64bits
  | .f64frombits => Extern.MathFloatBits.float64frombits
  | .f32bits => Extern.MathFloatBits.float32bits
  | .f32frombits => Extern.MathFloatBits.float32frombits

/-- The functions of the library that the executor takes for known are what the model says. -/
def ExtOk (P : Program) (X : FuncId → Option Ext) : Prop :=
  ∀ f e, X f = some e → ∀ args w, (callFunc f args).run P w = ((extFn e args).run P w).andThen fun v w' => .ok (.value v) w'

section
variable {P : Program} {w : World} {F : Nat → Prop} {hl : Nat} {μ : Mu} {ρ : List D}

theorem gd_get {g : Atom} {want : Bool} {s : SV} {v : Value} (h : SVR w F hl μ ρ (.gd g want s) v) (hg : g.get ρ = some (.bool want)) : SVR w F hl μ ρ s v := h.2.1 hg

theorem ev_bool {x : Atom} {b : Bool} (h : x.ev ρ = .bool b) : x.get ρ = some (.bool b) := by
  cases x with
  | v i =>
    simp only [Atom.ev, List.getD_eq_getElem?_getD] at h
    simp only [Atom.get]
    cases hi : ρ[i]? with
    | none => simp [hi] at h
    | some d => simp [hi] at h; rw [h]
  | c d => simp only [Atom.ev] at h; simp [Atom.get, h]

theorem guard_get {x : Atom} {want : Bool} (h : Guard.ok ρ (some (x, want)) = true) : x.get ρ = some (.bool want) := by
  simp only [Guard.ok] at h
  split at h
  · rename_i b hb
    have : b = want := by simpa using h
    subst this
    exact ev_bool hb
  · cases h

theorem strip_ok {g : Guard} {s : SV} {v : Value} (hg : g.ok ρ = true) (h : SVR w F hl μ ρ s v) : SVR w F hl μ ρ (strip g s) v := by
  unfold strip
  split
  · split
    · rename_i i want j want' s' e
      obtain ⟨rfl, rfl⟩ := e
      exact gd_get h (guard_get hg)
    · exact h
  · exact h

theorem getSV_ok {S : SS} {a : Act} {o : Operand} {s : SV} (h : getSV S o = .ok s) (hS : ∀ (i : Nat) s, S.slots[i]? = some s → SVR w F hl μ ρ s (a.tmps.getD i Go.undef)) : SVR w F hl μ ρ s (a.eval o) := by
  unfold getSV at h
  split at h
  · exact hS _ _ (need_ok h)
  · exact litSV_ok (need_ok h)
  · simp only [Except.ok.injEq] at h
    subst h
    exact ⟨#[], rfl, rfl, by intro j c u h; simp at h⟩
  · cases h

theorem lopPick_inv {n : Nat} {c A B v : SV} {ps : List Push}
    (h : (match c, A, B with
      | .c (.s (.dat (.b .bool) x)), .c (.s (.dat (.b t) y)), .c (.s (.dat (.b t') z)) => if t = t' then .ok (bdat t (.v n), [(.pick, [x, y, z])]) else .error "pick types"
      | _, _, _ => .error "pick" : Res Loc) = .ok (v, ps)) :
    ∃ x t y z, c = .c (.s (.dat (.b .bool) x)) ∧ A = .c (.s (.dat (.b t) y)) ∧ B = .c (.s (.dat (.b t) z)) ∧ v = bdat t (.v n) ∧ ps = [(.pick, [x, y, z])] := by
  split at h
  · split at h
    · rename_i e
      subst e
      simp only [Except.ok.injEq, Prod.mk.injEq] at h
      exact ⟨_, _, _, _, rfl, rfl, rfl, h.1.symm, h.2.symm⟩
    · cases h
  · cases h

/-- What a choice may take from under a guard. -/
theorem pick_arm {c s A : SV} {x : Atom} {want : Bool} {v : Value} (hA : (match c, s with | .c (.s (.dat _ (.v i))), .gd (.v j) w' s' => if w' = want then (if i = j then s' else s) else s | _, _ => s) = A)
    (hc : c = .c (.s (.dat (.b .bool) x))) (hx : x.get ρ = some (.bool want)) (hs : SVR w F hl μ ρ s v) : SVR w F hl μ ρ A v := by
  subst hc
  rw [← hA]
  split
  · rename_i t i j w' s' e
    simp only [SV.c.injEq, CV.s.injEq, CV0.dat.injEq] at e
    obtain ⟨_, rfl⟩ := e
    split
    · rename_i hw
      subst hw
      split
      · rename_i hij
        subst hij
        exact gd_get hs hx
      · exact hs
    · exact hs
  · exact hs

theorem lopPick_ok {c sa sb v : SV} {ps : List Push} {vc va vb : Value} {ρ' : List D} (h : lopPick ρ.length c sa sb = .ok (v, ps)) (hc : SVR w F hl μ ρ c vc) (ha : SVR w F hl μ ρ sa va) (hb : SVR w F hl μ ρ sb vb)
    (hp : pushAll ps ρ = some ρ') : ∃ b, vc = .bool b ∧ SVR w F hl μ ρ' v (if b then va else vb) := by
  unfold lopPick at h
  dsimp only at h
  obtain ⟨x, t, y, z, rfl, hA, hB, rfl, rfl⟩ := lopPick_inv h
  obtain ⟨b, rfl, hx⟩ := rd_bool hc
  obtain ⟨d, hd, rfl⟩ := pushAll_one hp
  simp only [evs, List.map_cons, List.map_nil, Atom.ev_of_get hx, Prim.ev, Option.some.injEq] at hd
  refine ⟨b, rfl, ?_⟩
  cases b with
  | true =>
    obtain ⟨d', hy, hr⟩ := pick_arm hA rfl hx ha
    simp only [if_true] at hd ⊢
    rw [Atom.ev_of_get hy] at hd
    subst hd
    exact ⟨_, get_new rfl, hr⟩
  | false =>
    obtain ⟨d', hz, hr⟩ := pick_arm hB rfl hx hb
    simp only [Bool.false_eq_true, if_false] at hd ⊢
    rw [Atom.ev_of_get hz] at hd
    subst hd
    exact ⟨_, get_new rfl, hr⟩

theorem run_sqrt (x : Nat) : ∃ c w', (Extern.MathSqrt.sqrt #[.float .f64 x]).run P w = .ok (.float .f64 c) w' ∧ Quiet w w' ∧ canon .f64 c = fsqrt .f64 (canon .f64 x) := by
  unfold fsqrt
  rw [sqrt_canon]
  have e : Extern.MathSqrt.sqrt #[.float .f64 x] = (match FloatKind.f64.format.sqrt x with | some r => pure (.float .f64 r) | none => do pure (.float .f64 (← choose (.nanBits .f64 x x)))) := rfl
  rw [e]
  cases FloatKind.f64.format.sqrt x with
  | some r => exact ⟨r, w, rfl, Quiet.refl w, rfl⟩
  | none =>
    refine ⟨(Question.nanBits .f64 x x).cut (w.tape w.drawn (.nanBits .f64 x x)), { w with drawn := w.drawn + 1 }, ?_, Quiet.drew w, canon_nan (nanBits_cut .f64 x x _)⟩
    simp [Question.forced]

theorem lopExt_ok {e : Ext} {xs : List SV} {v : SV} {ps : List Push} {vs : List Value} {ρ' : List D} (h : lopExt ρ.length e xs = .ok (v, ps))
    (hl' : xs.length = vs.length) (hx : ∀ (j : Nat) s u, xs[j]? = some s → vs[j]? = some u → SVR w F hl μ ρ s u) (hp : pushAll ps ρ = some ρ') :
    ∃ u w', (extFn e vs.toArray).run P w = .ok u w' ∧ Quiet w w' ∧ SVR w F hl μ ρ' v u := by
  unfold lopExt at h
  split at h
  all_goals first
    | (cases h; done)
    | skip
  all_goals
    simp only [Except.ok.injEq, Prod.mk.injEq] at h
    obtain ⟨rfl, rfl⟩ := h
    obtain ⟨d, hd, rfl⟩ := pushAll_one hp
    obtain ⟨u, rfl⟩ : ∃ u, vs = [u] := List.length_eq_one_iff.1 (by simpa using hl'.symm)
    have hu := hx 0 _ u rfl rfl
  · obtain ⟨n, rfl, hn⟩ := rd_flt hu
    simp only [evs, List.map_cons, List.map_nil, Atom.ev_of_get hn, Prim.ev, Option.some.injEq] at hd
    subst hd
    obtain ⟨c, w', e, q, hc⟩ := run_sqrt (P := P) (w := w) n
    exact ⟨_, w', e, q, mk_flt (by rw [hc]; exact get_new rfl)⟩
  · obtain ⟨n, rfl, hn⟩ := rd_flt hu
    simp only [evs, List.map_cons, List.map_nil, Atom.ev_of_get hn, Prim.ev] at hd
    split at hd
    · cases hd
    · rename_i hnan
      simp only [Option.some.injEq] at hd
      subst hd
      rw [isnan_canon] at hnan
      refine ⟨.int .u64 n, w, rfl, Quiet.refl w, mk_int ?_⟩
      rw [canon_of (by simpa using hnan)]
      exact get_new rfl
  · obtain ⟨n, rfl, hn⟩ := rd_flt hu
    simp only [evs, List.map_cons, List.map_nil, Atom.ev_of_get hn, Prim.ev] at hd
    split at hd
    · cases hd
    · rename_i hnan
      simp only [Option.some.injEq] at hd
      subst hd
      rw [isnan_canon] at hnan
      refine ⟨.int .u32 n, w, rfl, Quiet.refl w, mk_int ?_⟩
      rw [canon_of (by simpa using hnan)]
      exact get_new rfl
  · obtain ⟨n, rfl, hn⟩ := rd_int hu
    simp only [evs, List.map_cons, List.map_nil, Atom.ev_of_get hn, Prim.ev, Option.some.injEq] at hd
    subst hd
    exact ⟨.float .f64 n.toNat, w, rfl, Quiet.refl w, mk_flt (get_new rfl)⟩
  · obtain ⟨n, rfl, hn⟩ := rd_int hu
    simp only [evs, List.map_cons, List.map_nil, Atom.ev_of_get hn, Prim.ev, Option.some.injEq] at hd
    subst hd
    exact ⟨.float .f32 n.toNat, w, rfl, Quiet.refl w, mk_flt (get_new rfl)⟩

end

section
variable {P : Program} {X : Nat → Prop} {M : Hand} {w0 w : World} {S : SS} {μ : Mu} {ρ : List D} {a : Act}

theorem getSVs_ok {g : Guard} (hg : g.ok ρ = true) (hS : ∀ (i : Nat) s, S.slots[i]? = some s → SVR w (Fz X S.heap μ w) S.heap.length μ ρ s (a.tmps.getD i Go.undef)) :
    ∀ {os : List Operand} {ss : List SV}, getSVs S g os = .ok ss → ss.length = os.length ∧ ∀ (j : Nat) s u, ss[j]? = some s → (os.map a.eval)[j]? = some u → SVR w (Fz X S.heap μ w) S.heap.length μ ρ s u
  | [], ss, h => by simp only [getSVs, Except.ok.injEq] at h; subst h; simp
  | o :: os, ss, h => by
    simp only [getSVs] at h
    obtain ⟨s, hs, h1⟩ := bind_ok h
    obtain ⟨l, hl, h2⟩ := bind_ok h1
    simp only [Except.ok.injEq] at h2
    subst h2
    obtain ⟨i1, i2⟩ := getSVs_ok hg hS hl
    refine ⟨by simp [i1], fun j s' u hj hu => ?_⟩
    cases j with
    | zero =>
      simp only [List.getElem?_cons_zero, Option.some.injEq, List.map_cons] at hj hu
      subst hj hu
      exact strip_ok hg (getSV_ok hs hS)
    | succ j => simp only [List.getElem?_cons_succ, List.map_cons] at hj hu; exact i2 j s' u hj hu

theorem svParts_ok {g : Guard} (hg : g.ok ρ = true) (hS : ∀ (i : Nat) s, S.slots[i]? = some s → SVR w (Fz X S.heap μ w) S.heap.length μ ρ s (a.tmps.getD i Go.undef)) :
    ∀ {os : List (Nat × Operand)} {ss : List (Nat × SV)}, svParts S g os = .ok ss → PartsR w (Fz X S.heap μ w) S.heap.length μ ρ ss (os.map fun (i, x) => (i, a.eval x))
  | [], ss, h => by simp only [svParts, Except.ok.injEq] at h; subst h; trivial
  | (i, o) :: os, ss, h => by
    simp only [svParts] at h
    obtain ⟨s, hs, h1⟩ := bind_ok h
    obtain ⟨l, hl, h2⟩ := bind_ok h1
    simp only [Except.ok.injEq] at h2
    subst h2
    exact ⟨rfl, strip_ok hg (getSV_ok hs hS), svParts_ok hg hS hl⟩

theorem capsOf_ok : ∀ {ss : List SV} {cs : List CV0}, capsOf ss = .ok cs → cs.length = ss.length ∧ ∀ (j : Nat) c, cs[j]? = some c → ss[j]? = some (.c (.s c))
  | [], cs, h => by simp only [capsOf, Except.ok.injEq] at h; subst h; simp
  | s :: ss, cs, h => by
    unfold capsOf at h
    split at h
    · rename_i heq; cases heq
    · rename_i c r heq
      simp only [List.cons.injEq] at heq
      obtain ⟨rfl, rfl⟩ := heq
      obtain ⟨l, h1, h2⟩ := bind_ok h
      simp only [Except.ok.injEq] at h2
      subst h2
      obtain ⟨i1, i2⟩ := capsOf_ok h1
      refine ⟨by simp [i1], fun j c' hj => ?_⟩
      cases j with
      | zero => simp only [List.getElem?_cons_zero, Option.some.injEq] at hj; subst hj; rfl
      | succ j => simp only [List.getElem?_cons_succ] at hj ⊢; exact i2 j c' hj
    · cases h

theorem lop_ok {XE : FuncId → Option Ext} {g : Guard} {o : Oper} {v : SV} {ps : List Push} {ρ' : List D} (hX : ExtOk P XE) (h : lop P XE S g o = .ok (v, ps)) (hR : R X M w0 S μ ρ a w) (hg : g.ok ρ = true)
    (hp : pushAll ps ρ = some ρ') : ∃ u w', (execOp a.eval o).run P w = .ok (.value u) w' ∧ Quiet w w' ∧ SVR w (Fz X S.heap μ w) S.heap.length μ ρ' v u := by
  have get : ∀ {x : Operand} {s : SV}, (do let a ← getSV S x; Except.ok (strip g a) : Res SV) = .ok s → SVR w (Fz X S.heap μ w) S.heap.length μ ρ s (a.eval x) := by
    intro x s hs
    obtain ⟨s', h1, h2⟩ := bind_ok hs
    simp only [Except.ok.injEq] at h2
    subst h2
    exact strip_ok hg (getSV_ok h1 hR.slots)
  have hn : S.n = ρ.length := hR.len.symm
  unfold lop at h
  dsimp only at h
  split at h
  · -- move
    rename_i x ho
    obtain ⟨s, hs, h1⟩ := bind_ok h
    simp only [Except.ok.injEq, Prod.mk.injEq] at h1
    obtain ⟨rfl, rfl⟩ := h1
    simp only [pushAll, Option.some.injEq] at hp
    subst hp
    exact ⟨_, w, by simp [execOp, ho], Quiet.refl w, get hs⟩
  · rename_i x ho
    obtain ⟨s, hs, h1⟩ := bind_ok h
    simp only [Except.ok.injEq, Prod.mk.injEq] at h1
    obtain ⟨rfl, rfl⟩ := h1
    simp only [pushAll, Option.some.injEq] at hp
    subst hp
    exact ⟨_, w, by simp [execOp, ho], Quiet.refl w, get hs⟩
  · -- pick
    rename_i c x y ho
    obtain ⟨sc, h1, h2⟩ := bind_ok h
    obtain ⟨sx, h3, h4⟩ := bind_ok h2
    obtain ⟨sy, h5, h6⟩ := bind_ok h4
    rw [hn] at h6
    obtain ⟨b, hb, hr⟩ := lopPick_ok h6 (get h1) (get h3) (get h5) hp
    exact ⟨_, w, by simp [execOp, ho, hb, asBool], Quiet.refl w, hr⟩
  · -- nilCheck
    rename_i x ho
    obtain ⟨s, hs, h1⟩ := bind_ok h
    obtain ⟨q, hq, h2⟩ := bind_ok h1
    simp only [Except.ok.injEq, Prod.mk.injEq] at h2
    obtain ⟨rfl, rfl⟩ := h2
    simp only [pushAll, Option.some.injEq] at hp
    subst hp
    obtain ⟨b, o', hv, hr⟩ := ptrAdd_ok hq (get hs)
    exact ⟨.pointer (some ⟨b, o', none⟩), w, by simp [execOp, ho, hv], Quiet.refl w, hr⟩
  · -- binOp
    rename_i op t x y t' ho
    obtain ⟨sx, h1, h2⟩ := bind_ok h
    obtain ⟨sy, h3, h4⟩ := bind_ok h2
    rw [hn] at h4
    obtain ⟨he, u, w', hu, q, hr⟩ := lopBin_ok (P := P) (t := t) h4 (get h1) (get h3) hp
    exact ⟨u, w', by simp [execOp, ho, he, hu], q, hr w⟩
  · -- unOp
    rename_i op t x ho
    obtain ⟨sx, h1, h2⟩ := bind_ok h
    have hx := get h1
    split at h2
    · rename_i y
      simp only [Except.ok.injEq, Prod.mk.injEq] at h2
      obtain ⟨rfl, rfl⟩ := h2
      obtain ⟨b, hb, hy⟩ := rd_bool hx
      obtain ⟨d, hd, rfl⟩ := pushAll_one hp
      simp only [evs, List.map_cons, List.map_nil, Atom.ev_of_get hy, Prim.ev, Option.some.injEq] at hd
      subst hd
      exact ⟨.bool !b, w, by simp [execOp, ho, hb, Op.unary], Quiet.refl w, mk_bool (get_new hR.len)⟩
    · rename_i k y
      simp only [Except.ok.injEq, Prod.mk.injEq] at h2
      obtain ⟨rfl, rfl⟩ := h2
      obtain ⟨b, hb, hy⟩ := rd_flt hx
      obtain ⟨d, hd, rfl⟩ := pushAll_one hp
      simp only [evs, List.map_cons, List.map_nil, Atom.ev_of_get hy, Prim.ev, Option.some.injEq] at hd
      subst hd
      exact ⟨.float k (Op.negFloat k b), w, by simp [execOp, ho, hb, Op.unary], Quiet.refl w, mk_flt (by rw [← canon_neg]; exact get_new hR.len)⟩
    · rename_i k y
      simp only [Except.ok.injEq, Prod.mk.injEq] at h2
      obtain ⟨rfl, rfl⟩ := h2
      obtain ⟨b, hb, hy⟩ := rd_int hx
      obtain ⟨d, hd, rfl⟩ := pushAll_one hp
      have e0 : (Atom.c (.int 0)).ev ρ = .int 0 := rfl
      simp only [evs, List.map_cons, List.map_nil, e0, Atom.ev_of_get hy, Prim.ev, iarith, Option.map_some, Option.some.injEq] at hd
      subst hd
      exact ⟨.int k (k.wrap (0 - b)), w, by simp [execOp, ho, hb, Op.unary, Op.intArith], Quiet.refl w, mk_int (get_new hR.len)⟩
    · cases h2
  · -- convert
    rename_i src dst x ho
    obtain ⟨sx, h1, h2⟩ := bind_ok h
    rw [hn] at h2
    obtain ⟨u, w', hu, q, hr⟩ := lopConv_ok h2 (get h1) hp
    exact ⟨u, w', by simp [execOp, ho, hu], q, hr w⟩
  · -- load
    rename_i t x ho
    obtain ⟨sx, h1, h2⟩ := bind_ok h
    obtain ⟨u, hu, hr⟩ := lopLoad_ok h2 hR (get h1) hp
    exact ⟨u, w, by simp [execOp, ho, hu], Quiet.refl w, hr⟩
  · rename_i s x f ho
    obtain ⟨sx, h1, h2⟩ := bind_ok h
    obtain ⟨rfl, u, hu, hr⟩ := lopFieldAddr_ok h2 (get h1)
    simp only [pushAll, Option.some.injEq] at hp
    subst hp
    exact ⟨u, w, by simp [execOp, ho, hu], Quiet.refl w, hr⟩
  · rename_i s x f ho
    obtain ⟨sx, h1, h2⟩ := bind_ok h
    obtain ⟨rfl, u, hu, hr⟩ := lopField_ok h2 (get h1)
    simp only [pushAll, Option.some.injEq] at hp
    subst hp
    exact ⟨u, w, by simp [execOp, ho, hu], Quiet.refl w, hr⟩
  · rename_i t x i ho
    obtain ⟨sx, h1, h2⟩ := bind_ok h
    obtain ⟨si, h3, h4⟩ := bind_ok h2
    obtain ⟨u, hu, hr⟩ := lopIndexAddr_ok h4 hR (get h1) (get h3) hp
    exact ⟨u, w, by simp [execOp, ho, hu], Quiet.refl w, hr⟩
  · rename_i t x i ho
    obtain ⟨sx, h1, h2⟩ := bind_ok h
    obtain ⟨si, h3, h4⟩ := bind_ok h2
    obtain ⟨rfl, u, hu, hr⟩ := lopIndex_ok h4 (get h1) (get h3)
    simp only [pushAll, Option.some.injEq] at hp
    subst hp
    exact ⟨u, w, by simp [execOp, ho, hu], Quiet.refl w, hr⟩
  · -- extract
    rename_i t j ho
    obtain ⟨st, h1, h2⟩ := bind_ok h
    split at h2
    · rename_i vs
      obtain ⟨arr, harr, htr⟩ := get h1
      split at h2
      · rename_i ag cs hj
        obtain ⟨s, hs, h3⟩ := bind_ok h2
        simp only [Except.ok.injEq, Prod.mk.injEq] at h3
        obtain ⟨rfl, rfl⟩ := h3
        simp only [pushAll, Option.some.injEq] at hp
        subst hp
        have key : ∀ {vs : List (Bool × List CV)} {us : List Value} {j : Nat}, TVR w (Fz X S.heap μ w) S.heap.length μ ρ vs us → vs[j]? = some (ag, cs) → ∃ u, us[j]? = some u ∧ PVR w (Fz X S.heap μ w) S.heap.length μ ρ ag cs u := by
          intro vs
          induction vs with
          | nil => intro us j _ h; simp at h
          | cons p vs ih =>
            intro us j ht h
            cases us with
            | nil => exact ht.elim
            | cons u us =>
              cases j with
              | zero => simp only [List.getElem?_cons_zero, Option.some.injEq] at h; subst h; exact ⟨u, rfl, ht.1⟩
              | succ j => simp only [List.getElem?_cons_succ] at h ⊢; exact ih ht.2 h
        obtain ⟨u, hu, hr⟩ := key htr hj
        have hu' : arr[j]? = some u := by simpa using hu
        refine ⟨u, w, by simp [execOp, ho, harr, Instr.extract, hu'], Quiet.refl w, ?_⟩
        have hm := need_ok hs
        unfold mkSV at hm
        cases ag with
        | true =>
          simp only [if_true, Option.some.injEq] at hm
          subst hm
          exact hr
        | false =>
          obtain ⟨c, rfl, hc⟩ := hr
          simp only [Bool.false_eq_true, if_false, Option.some.injEq] at hm
          subst hm
          exact hc
      · cases h2
    · cases h2
  · -- build
    rename_i t parts ho
    obtain ⟨sp, h1, h2⟩ := bind_ok h
    have hpr := svParts_ok hg hR.slots h1
    obtain ⟨rfl, u, hu, hr⟩ := lopBuild_ok (vals := parts.map fun (i, x) => (i, a.eval x)) h2 (by simpa using hpr)
    simp only [pushAll, Option.some.injEq] at hp
    subst hp
    exact ⟨u, w, by simp [execOp, ho, hu], Quiet.refl w, hr⟩
  · -- len
    rename_i args ats ho
    obtain ⟨sp, h1, h2⟩ := bind_ok h
    split at h2
    · rename_i x t hat
      obtain ⟨hl, hx⟩ := getSVs_ok hg hR.slots h1
      match hargs : args.toList, hl with
      | [y], _ =>
        have hy := hx 0 x (a.eval y) rfl (by rw [hargs]; rfl)
        obtain ⟨u, hu, hr⟩ := lopLen_ok (ty := o.type) h2 hR hat hy hp
        have ea : args = #[y] := by apply Array.ext'; simpa using hargs
        refine ⟨u, w, ?_, Quiet.refl w, hr⟩
        subst ea
        simp [execOp, ho, resolve, invoke, builtin, hu]
    · cases h2
  · -- a function's value
    rename_i f first captured ho
    split at h
    · rename_i hf
      obtain ⟨cs, h1, h2⟩ := bind_ok h
      obtain ⟨l, h3, h4⟩ := bind_ok h2
      simp only [Except.ok.injEq, Prod.mk.injEq] at h4
      obtain ⟨rfl, rfl⟩ := h4
      simp only [pushAll, Option.some.injEq] at hp
      subst hp
      obtain ⟨hl, hx⟩ := getSVs_ok hg hR.slots h1
      obtain ⟨hl2, hc⟩ := capsOf_ok h3
      have hf' : first = #[] := Array.eq_empty_of_size_eq_zero hf
      subst hf'
      refine ⟨.func (.func f) #[] (captured.map a.eval), w, by simp [execOp, ho, Instr.makeFunc], Quiet.refl w, captured.map a.eval, rfl, by simp [hl2, hl], fun j c u hj hu => ?_⟩
      exact hx j _ u (hc j c hj) (by simpa using hu)
    · cases h
  · -- a part of a slice
    rename_i t x lo hi ho
    obtain ⟨s, h1, h2⟩ := bind_ok h
    split at h2
    · rename_i ct l
      obtain ⟨slo, h3, h4⟩ := bind_ok h2
      obtain ⟨shi, h5, h6⟩ := bind_ok h4
      obtain ⟨d, hd, hr⟩ := get h1
      have opt : ∀ {y : Option Operand} {so : Option SV}, (match y with | none => .ok none | some y => (do let v ← (do let a ← getSV S y; Except.ok (strip g a)); Except.ok (some v) : Res (Option SV)) : Res (Option SV)) = .ok so →
          OptR (SVR w (Fz X S.heap μ w) S.heap.length μ ρ) so (y.map a.eval) := by
        intro y so hy
        cases y with
        | none => simp only [Except.ok.injEq] at hy; subst hy; trivial
        | some y =>
          obtain ⟨v', g1, g2⟩ := bind_ok hy
          simp only [Except.ok.injEq] at g2
          subst g2
          exact get g1
      rw [hn] at h6
      have hlst : isSl ct = true := by
        unfold lopSlice at h6
        split at h6
        · split at h6
          · split at h6
            · rename_i hc; exact hc.2
            · cases h6
          · cases h6
        · cases h6
      obtain ⟨ds, rfl⟩ : ∃ ds, d = .lst ds := by
        obtain ⟨ls, e, _⟩ := rowRd_sl hr (fun b e => by subst e; cases hlst)
        exact ⟨_, e⟩
      obtain ⟨u, hu, hv⟩ := lopSlice_ok (P := P) (vlo := lo.map a.eval) (vhi := hi.map a.eval) h6 hd hr (opt h3) (opt h5) hp
      exact ⟨u, w, by simp [execOp, ho, hu], Quiet.refl w, hv⟩
    · cases h2
  · -- min
    rename_i args ats ho
    obtain ⟨sp, h1, h2⟩ := bind_ok h
    split at h2
    · rename_i k x k' y
      split at h2
      · rename_i hk
        subst hk
        simp only [Except.ok.injEq, Prod.mk.injEq] at h2
        obtain ⟨rfl, rfl⟩ := h2
        obtain ⟨hl, hx⟩ := getSVs_ok hg hR.slots h1
        match hargs : args.toList, hl with
        | [p, q], _ =>
          obtain ⟨m, em, hm⟩ := rd_int (hx 0 _ (a.eval p) rfl (by rw [hargs]; rfl))
          obtain ⟨n, en, hn'⟩ := rd_int (hx 1 _ (a.eval q) rfl (by rw [hargs]; rfl))
          obtain ⟨d, hd, rfl⟩ := pushAll_one hp
          simp only [evs, List.map_cons, List.map_nil, Atom.ev_of_get hm, Atom.ev_of_get hn', Prim.ev, Option.some.injEq] at hd
          subst hd
          have ea : args = #[p, q] := by apply Array.ext'; simpa using hargs
          subst ea
          refine ⟨.int k (min m n), w, ?_, Quiet.refl w, mk_int (by rw [hn]; exact get_new rfl)⟩
          have : (if n < m then n else m) = min m n := by rw [Int.min_def]; split <;> split <;> omega
          simp [execOp, ho, resolve, invoke, builtin, Builtin.min_, Builtin.min2, em, en, this]
      · cases h2
    · cases h2
  · -- max
    rename_i args ats ho
    obtain ⟨sp, h1, h2⟩ := bind_ok h
    split at h2
    · rename_i k x k' y
      split at h2
      · rename_i hk
        subst hk
        simp only [Except.ok.injEq, Prod.mk.injEq] at h2
        obtain ⟨rfl, rfl⟩ := h2
        obtain ⟨hl, hx⟩ := getSVs_ok hg hR.slots h1
        match hargs : args.toList, hl with
        | [p, q], _ =>
          obtain ⟨m, em, hm⟩ := rd_int (hx 0 _ (a.eval p) rfl (by rw [hargs]; rfl))
          obtain ⟨n, en, hn'⟩ := rd_int (hx 1 _ (a.eval q) rfl (by rw [hargs]; rfl))
          obtain ⟨d, hd, rfl⟩ := pushAll_one hp
          simp only [evs, List.map_cons, List.map_nil, Atom.ev_of_get hm, Atom.ev_of_get hn', Prim.ev, Option.some.injEq] at hd
          subst hd
          have ea : args = #[p, q] := by apply Array.ext'; simpa using hargs
          subst ea
          refine ⟨.int k (max m n), w, ?_, Quiet.refl w, mk_int (by rw [hn]; exact get_new rfl)⟩
          have : (if n > m then n else m) = max m n := by rw [Int.max_def]; split <;> split <;> omega
          simp [execOp, ho, resolve, invoke, builtin, Builtin.max_, Builtin.max2, em, en, this]
      · cases h2
    · cases h2
  · -- a function of the library
    rename_i f args ats ho
    split at h
    · rename_i e he
      obtain ⟨sp, h1, h2⟩ := bind_ok h
      obtain ⟨hl, hx⟩ := getSVs_ok hg hR.slots h1
      rw [hn] at h2
      obtain ⟨u, w', hu, q, hr⟩ := lopExt_ok (P := P) (w := w) (vs := args.toList.map a.eval) h2 (by simpa using hl) hx hp
      refine ⟨u, w', ?_, q, hr⟩
      have e1 : execOp a.eval o = callFunc f (#[] ++ args.map a.eval ++ #[]) := by
        obtain ⟨dst, op, ty, pos, after, guard⟩ := o
        simp only at ho
        subst ho
        rfl
      rw [e1, hX f e he]
      have e2 : (#[] ++ args.map a.eval ++ #[] : Array Value) = (args.toList.map a.eval).toArray := by apply Array.ext'; simp
      rw [e2, hu]
      rfl
    · cases h
  · cases h

end
end Vs
