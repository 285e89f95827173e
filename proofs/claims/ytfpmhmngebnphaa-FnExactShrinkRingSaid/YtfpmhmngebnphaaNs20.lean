/-
  From a law's contract to its row: the arguments read behind the call as before, the result is 'true'.
-/
import Derived.Test.YtfpmhmngebnphaaNs18
import Derived.ProofKit
import Derived.ChangeStays
namespace Vs
open Go Go.RowKit Go.ChangeShapes Go.WideShapes

section
variable {H : Type} {enc : TypeId × Value → H} {P : Program} {W W' : World}

theorem Keeps.sameAt (h : Keeps (fun _ => False) W W') {p : MemPlace} (hp : p.block < W.heap.size) : W.sameAt W' p := by
  cases p with
  | cell b off => exact World.cell?_of_block (a := ⟨b, off, none⟩) (h.block b hp (fun h => h))
  | map b => exact h.block b hp (fun h => h)

theorem Keeps.keptBut (h : Keeps (fun _ => False) W W') (may : MemPlace → Prop) : W.keptBut W' may := by
  refine ⟨h.os, h.output, fun i hi => ?_⟩
  have := h.block i hi (fun h => h)
  split
  · rename_i c t fr c' t' fr' h1 h2
    rw [this, h1] at h2
    cases h2
    exact ⟨rfl, rfl, rfl, fun _ _ => rfl⟩
  · rename_i es cl es' cl' h1 h2
    rw [this, h1] at h2
    cases h2
    exact .inr ⟨rfl, rfl⟩
  · exact this

theorem args_again (K : Kids P (· < P.types.size)) (hz : ∀ {t e : TypeId}, t < P.types.size → P.underlying t = some (.slice e) → 0 < P.cellsOf e) (hk : Keeps (fun _ => False) W W') {sp : Nat → Bool} :
    ∀ {ts : List TypeId} {vs : List Value} {ds : List (DataW H)} {p : List MemPlace}, (∀ t ∈ ts, t < P.types.size) → DataW.TrodAll enc P W 0 (fun _ => true) true ts vs ds p → (∀ q ∈ p, sp q.block = true) → DataW.TrodAll enc P W' 0 sp true ts vs ds p
  | [], [], [], _, _, h, _ => h
  | t :: ts, v :: vs, d :: ds, _, hT, ⟨p, q, ⟨n, h1⟩, h2, e⟩, hs => by
    refine ⟨p, q, ⟨n, ?_⟩, args_again K hz hk (fun t ht => hT t (List.mem_cons.2 (.inr ht))) h2 (fun x hx => hs x (by rw [e]; exact List.mem_append_right _ hx)), e⟩
    exact DataW.trod_stays (x := (d, p)) K hz (fun h => by cases h) (hT t (List.mem_cons.2 (.inl rfl))) h1 (fun x hx => hk.sameAt (DataW.trod_lt n _ _ _ h1 x hx)) (fun x hx => hs x (by rw [e]; exact List.mem_append_left _ hx))

theorem post_same {f : Func} {s : ChangeSpec} {apart fresh handsOn again : Bool} {args : Array Value} {v : Value} {ds gs : List (DataW H)} {before pa pv : List MemPlace}
    (hW : DataW.Whole enc P f.params.toList s.vars apart W args.toList ds gs before)
    (hres : ∀ (b : Nat) (sp : Nat → Bool) (hd : Bool), DataW.TrodAll enc P W' b sp hd f.resultTypes.toList (v.resultList f.resultTypes.size) (s.fn H (ds ++ gs)).results [])
    (hargs : ∀ sp : Nat → Bool, (∀ p ∈ before, sp p.block = true) → DataW.TrodAll enc P W' 0 sp true f.params.toList args.toList (s.fn H (ds ++ gs)).args pa)
    (hvars : ∀ sp : Nat → Bool, (∀ p ∈ before, sp p.block = true) → DataW.TrodVars enc P W' sp s.vars (s.fn H (ds ++ gs)).vars pv)
    (hps : before = pa ++ pv) (hk : W.keptBut W' (· ∈ before)) (hfz : ∀ b off, b < W.heap.size → W'.frozen? ⟨b, off, none⟩ = W.frozen? ⟨b, off, none⟩)
    (hok : ∀ (j : Nat) (t : TypeId) (r : Value), f.resultTypes[j]? = some t → (v.resultList f.resultTypes.size)[j]? = some r → Value.okWide P W' .any 0 t r) :
    s.post enc P f apart fresh handsOn again W args v W' := by
  have hlt := hW.lt
  have hold : ∀ p ∈ before, (fun b => decide (b < W.heap.size)) p.block = true := fun p hp => by simpa using hlt p hp
  refine ⟨ds, gs, before, [], pa, pv, hW, hres _ _ _, hargs _ hold, hvars _ hold, World.keptBut_mono (fun p hp => ⟨hp, ?_⟩) hk, fun _ => ?_⟩
  · rw [hps, List.mem_append] at hp
    exact Or.inr hp
  · obtain ⟨_, _, _, _, _, hz, hn⟩ := hW
    refine ⟨hok, _, _, ([] ++ pa) ++ pv, ⟨[] ++ pa, pv, trodAll_append (hargs _ (fun _ _ => rfl)) (hres _ _ _), hvars _ (fun _ _ => rfl), rfl, ?_, ?_⟩, ?_⟩
    · intro b off hp
      have hp' : MemPlace.cell b off ∈ before := by rw [hps]; simpa using hp
      rw [hfz b off (hlt _ hp')]
      exact hz b off hp'
    · intro ha
      have := hn ha
      rw [hps] at this
      simpa using this
    · intro p hp _
      rw [hps]
      simpa using hp

/-- The law's row, from its contract. -/
theorem law_of_sound {fn : Func} {s : ChangeSpec} {apart fresh handsOn again : Bool} {args : Array Value} {ds gs : List (DataW H)} {before : List MemPlace} {f key : Nat} {sg : Sig} {G : Told} {tb : TypeId} {bT : Bool}
    (hl : laidOutB P = true) (hm : mapsRowed P = true) (hz : ((List.range P.types.size).all fun t => match P.underlying t with | some (.slice e) => decide (0 < P.cellsOf e) | _ => true) = true)
    (hts : (fn.params.toList.all fun t => decide (t < P.types.size)) = true) (hres : fn.resultTypes = #[tb]) (hb : P.underlying tb = some .bool) (hvars : s.vars = [])
    (hspec : (s.fn H ds).results = [.lit (.bool bT)] ∧ (s.fn H ds).args = ds ∧ (s.fn H ds).vars = [])
    (hS : SoundCall P f sg (G key)) (hsg : sg.results = [(false, [.cell .bool])])
    (hW : DataW.Whole enc P fn.params.toList s.vars apart W args.toList ds gs before)
    (hargs : ∃ xs, ArgsR W (Fm W []) sg.params args.toList xs [] ∧ G key xs = some [.bool bT]) :
    Calls P f args W fun e W' => ∃ v, e = .returned v ∧ s.post enc P fn apart fresh handsOn again W args v W' := by
  obtain ⟨xs, hA, hG⟩ := hargs
  have hc := hS.calls args.toList xs [] W _ hA (fun i j m m' hi => by simp at hi) hG
  rw [Array.toArray_toList] at hc
  refine hc.mono fun e W' ⟨v, he, hk0, hr⟩ => ⟨v, he, ?_⟩
  have hk : Keeps (fun _ => False) W W' := ⟨hk0.os, hk0.tape, hk0.output, hk0.size, fun k h1 _ => hk0.block k h1 (by rintro ⟨h, hm, _⟩; simp at hm)⟩
  have hv : v = .bool bT := by
    rw [hsg] at hr
    obtain ⟨vs, os, ks, da, db, h1, e0, h2, h6, _⟩ := hr
    simp only [List.length_cons, List.length_nil, if_true] at h1
    subst h1
    obtain ⟨hdb, _⟩ : db = [] ∧ ks = [] := h6
    subst hdb
    rw [List.append_nil] at e0
    obtain ⟨d1, d2, o1, o2, e1, e2, h3, h4, h5⟩ := h2
    subst h4
    rw [List.append_nil] at e1
    subst e1
    obtain ⟨_, h3⟩ := h3
    match da, o1, h3 with
    | [d], [], ⟨⟨b, hv, hd⟩, _⟩ =>
      subst hd
      simp only [List.cons.injEq, D.bool.injEq, and_true] at e0
      rw [hv, ← e0]
  subst hv
  have hW' := hW
  obtain ⟨p, q, hT, hV, hpq, hfz, hnd⟩ := hW'
  rw [hvars] at hV
  obtain ⟨rfl, rfl⟩ := trodVars_none hV
  rw [List.append_nil] at hpq
  subst hpq
  have K := kids_rows hl hm
  have hT' : ∀ t ∈ fn.params.toList, t < P.types.size := fun t ht => by simpa using List.all_eq_true.1 hts t ht
  refine post_same (pa := before) (pv := []) hW (fun b sp hd => ?_) (fun sp hsp => ?_) (fun sp _ => ?_) (by simp) (hk.keptBut _) (fun b off hlt => ?_) ?_
  · rw [List.append_nil, hspec.1, hres]
    exact trodAll_mk1 (shut_bool hb bT)
  · rw [List.append_nil, hspec.2.1]
    exact args_again K (fun h1 h2 => slices_full_of P hz _ _ h1 h2) hk hT' hT hsp
  · rw [List.append_nil, hspec.2.2, hvars]
    rfl
  · unfold World.frozen?
    rw [hk.block b hlt (fun h => h)]
  · exact ok_one hres rfl (okWide_bool_mk hb bT)

/-! ### Arguments that are plain -/
theorem arg_val {r : Reach} {b0 : Nat} {t : TypeId} {bt : BT} {v : Value} (ht : ctOf P t = some bt) (hval : Value.okWide P W r b0 t v) : ∃ x, RdB bt v x := by
  unfold ctOf at ht
  unfold Value.okWide at hval
  split at ht
  all_goals first
    | (cases ht; done)
    | skip
  all_goals
    rename_i hu
    simp only [hu, Cell.okWide, Cell.ok] at hval
    simp only [Option.some.injEq] at ht
    subst ht
    cases v <;> simp at hval
  · exact ⟨_, _, rfl, rfl⟩
  · obtain ⟨rfl, _⟩ := hval
    exact ⟨_, _, rfl, rfl⟩
  · obtain ⟨rfl, _⟩ := hval
    exact ⟨_, _, rfl, rfl⟩
  · exact ⟨_, _, rfl, rfl⟩

def Fits : List BT → List D → Prop
  | [], [] => True
  | b :: bs, d :: ds => (∃ v, RdB b v d) ∧ Fits bs ds
  | _, _ => False

theorem args_plain {r : Reach} {b0 : Nat} {F : Nat → Prop} {base : Nat} {sp : Nat → Bool} {hd : Bool} : ∀ {ts : List TypeId} {bts : List BT} {vs : List Value} {ds : List (DataW H)} {p : List MemPlace}, ts.map (ctOf P) = bts.map some →
    DataW.TrodAll enc P W base sp hd ts vs ds p → (∀ (j : Nat) t v, ts[j]? = some t → vs[j]? = some v → Value.okWide P W r b0 t v) →
    ∃ xs, ArgsR W F (bts.map fun b => .val false [.rd (.b b)]) vs xs [] ∧ Fits bts xs
  | [], [], [], [], _, _, _, _ => ⟨[], ⟨rfl, rfl⟩, trivial⟩
  | t :: ts, b :: bts, v :: vs, d :: ds, _, hm, ⟨_, _, _, h2, _⟩, hv => by
    simp only [List.map_cons, List.cons.injEq] at hm
    obtain ⟨x, hx⟩ := arg_val hm.1 (hv 0 t v rfl rfl)
    obtain ⟨xs, h3, h4⟩ := args_plain (F := F) hm.2 h2 (fun j t v h1 h2 => hv (j + 1) t v (by simpa using h1) (by simpa using h2))
    exact ⟨x :: xs, ⟨[x], xs, [], [], rfl, rfl, ⟨x, [], [], [], rfl, rfl, ⟨rfl, hx⟩, rfl, rfl⟩, h3⟩, ⟨v, hx⟩, h4⟩
  | [], _ :: _, _, _, _, hm, _, _ => by simp at hm
  | _ :: _, [], _, _, _, hm, _, _ => by simp at hm

theorem fits_flt {k : FloatKind} {bs : List BT} {xs : List D} (h : Fits (.flt k :: bs) xs) : ∃ x ys, xs = .flt x :: ys ∧ Fits bs ys := by
  match xs, h with
  | d :: ds, ⟨⟨v, b, _, hd⟩, h⟩ => exact ⟨_, ds, by rw [hd], h⟩
theorem fits_int {k : IntKind} {bs : List BT} {xs : List D} (h : Fits (.int k :: bs) xs) : ∃ n ys, xs = .int n :: ys ∧ Fits bs ys := by
  match xs, h with
  | d :: ds, ⟨⟨v, b, _, hd⟩, h⟩ => exact ⟨_, ds, by rw [hd], h⟩
theorem fits_nil {xs : List D} (h : Fits [] xs) : xs = [] := by
  cases xs with
  | nil => rfl
  | cons d ds => cases h

end
end Vs
