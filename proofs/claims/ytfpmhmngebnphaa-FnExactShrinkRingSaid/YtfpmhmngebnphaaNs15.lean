/-
  Code: from the program's text to the small language, and that it holds.
-/
import Derived.Test.YtfpmhmngebnphaaNd6
import Derived.LoopN
namespace Vs
open Go Go.RowKit

/-! ### How one state fills another: a guess, which 'leSS' looks at -/
structure Acc where
  as : List (Nat × Atom)
  bs : List (Nat × Nat)
  nils : List MK

def look {α : Type} (l : List (Nat × α)) (k : Nat) : Option α := match l with | [] => none | (i, x) :: r => if i = k then some x else look r k

section
variable (n hb hl : Nat) (Hj : List SB)
def gAtom (acc : Acc) : Atom → Atom → Acc
  | .v j, y => if j < n then acc else match look acc.as j with | some _ => acc | none => { acc with as := (j, y) :: acc.as }
  | .c _, _ => acc
def gBlk (acc : Acc) (β γ : Nat) : Acc := if β < hb then acc else match look acc.bs β with | some _ => acc | none => { acc with bs := (β, γ) :: acc.bs }
def gFC (acc : Acc) : FC → FC → Acc
  | .d _ x, .d _ y => gAtom n acc x y
  | .o β, .o γ => gBlk hb acc β γ
  | _, _ => acc
def gList {α : Type} (g : Acc → α → α → Acc) (acc : Acc) : List α → List α → Acc
  | a :: r, b :: q => gList g (g acc a b) r q
  | _, _ => acc
def gCV0 (acc : Acc) : CV0 → CV0 → Acc
  | .dat _ x, .dat _ y => gAtom n acc x y
  | .dat _ x, .nils => gAtom n acc x (.c (.lst []))
  | .own β, .own γ => gBlk hb acc β γ
  | .own β, .nils =>
    if β < hb then acc else
    match look acc.bs β, Hj[β]? with
    | none, some (.row t e x) => gAtom n { acc with bs := (β, hl + acc.nils.length) :: acc.bs, nils := acc.nils ++ [.row t e] } x (.c (.lst []))
    | none, some (.rows et e' e _ x) => gAtom n { acc with bs := (β, hl + acc.nils.length) :: acc.bs, nils := acc.nils ++ [.rows et e' e] } x (.c (.lst []))
    | _, _ => acc
  | .vptr β _, .vptr γ _ => gBlk hb acc β γ
  | .eptr β i _ _, .eptr γ j _ _ => gAtom n (gBlk hb acc β γ) i j
  | .rref β _ i, .rref γ _ j => gAtom n (gBlk hb acc β γ) i j
  | .fcel cs _, .fcel ds _ => gList (gFC n hb) acc cs ds
  | _, _ => acc
def gCV (acc : Acc) : CV → CV → Acc
  | .s c, .s d => gCV0 n hb hl Hj acc c d
  | .fn _ cs, .fn _ ds => gList (gCV0 n hb hl Hj) acc cs ds
  | _, _ => acc
def gSV (acc : Acc) : SV → SV → Acc
  | .c x, .c y => gCV n hb hl Hj acc x y
  | .agg xs, .agg ys => gList (gCV n hb hl Hj) acc xs ys
  | .tup xs, .tup ys => gList (fun acc a b => gList (gCV n hb hl Hj) acc a.2 b.2) acc xs ys
  | _, _ => acc
def gSB (acc : Acc) : SB → SB → Acc
  | .var xs, .var ys => gList (gCV n hb hl Hj) acc xs ys
  | .row _ _ x, .row _ _ y => gAtom n acc x y
  | .rows _ _ _ _ x, .rows _ _ _ _ y => gAtom n acc x y
  | _, _ => acc
end

def guess (n hb : Nat) (Sj S : SS) : Fill :=
  let acc0 : Acc := ⟨[], [], []⟩
  let acc1 := gList (gSV n hb S.heap.length Sj.heap) acc0 Sj.slots S.slots
  let acc2 := (List.range Sj.heap.length).foldl (fun acc β =>
    match Sj.heap[β]?, S.heap[if β < hb then β else (look acc.bs β).getD S.heap.length]? with
    | some sb, some sb' => gSB n hb S.heap.length Sj.heap acc sb sb'
    | _, _ => acc) acc1
  { n, hb, hj := Sj.heap.length, θ := (List.range (Sj.n - n)).map fun k => (look acc2.as (n + k)).getD (.c .undef),
    bs := (List.range (Sj.heap.length - hb)).map fun k => (look acc2.bs (hb + k)).getD (S.heap.length + acc2.nils.length), nils := acc2.nils,
    ver := (S.heap ++ acc2.nils.map fun k => k.sb 0 (.c (.lst []))).map verOf }

def fill (n hb : Nat) (Sj S : SS) : Res (List Atom) :=
  let f := guess n hb Sj S
  if f.n = n ∧ f.hb = hb ∧ leSS f Sj S = true then .ok f.θ else .error "states do not fit"

/-- What a place where ways meet looks like, against the state at the construct's entry. -/
structure J where
  m : Nat
  h : Nat
  slots : List (Nat × SV)
  heap : List (Nat × SB)

/-- A state without the past of its own rows. -/
def nowCV0 (h : List SB) : CV0 → CV0
  | .rref β v i => if (h[β]?).bind verOf = some v then .rref β 0 i else .undef
  | c => c
def nowCV (h : List SB) : CV → CV
  | .s c => .s (nowCV0 h c)
  | .fn f cs => .fn f (cs.map (nowCV0 h))
def nowSV (h : List SB) : SV → SV
  | .c x => .c (nowCV h x)
  | .agg cs => .agg (cs.map (nowCV h))
  | .tup vs => .tup (vs.map fun x => (x.1, x.2.map (nowCV h)))
  | .gd g w s => .gd g w (nowSV h s)
def nowSB (h : List SB) : SB → SB
  | .var cs => .var (cs.map (nowCV h))
  | .rows et e' e _ x => .rows et e' e 0 x
  | sb => sb
def SS.now (S : SS) : SS := { S with slots := S.slots.map (nowSV S.heap), heap := S.heap.map (nowSB S.heap) }

def mkJ (S0 : SS) (j : J) : SS :=
  let S := S0.now
  { n := S.n + j.m, slots := j.slots.foldl (fun l p => l.set p.1 p.2) S.slots,
    heap := j.heap.foldl (fun l p => l.set p.1 p.2) (S.heap ++ List.replicate j.h .dead) }

inductive H where
  | e
  | n (j : Option J) (l r : H)
def H.l : H → H | .e => .e | .n _ l _ => l
def H.r : H → H | .e => .e | .n _ _ r => r
def H.j : H → Option J | .e => none | .n j _ _ => j

inductive XK where
  | exit (id : Nat) | ret
  deriving DecidableEq
def XK.toExit : XK → Exit | .exit id => .exit id | .ret => .ret

def primT (g : Guard) : List Push → T → T
  | [], t => t
  | (p, xs) :: ps, t => .op g p xs (primT g ps t)
def effT (g : Guard) : Eff → T → T
  | .prims ps, t => primT g ps t
  | .call pre f xs m post, t => primT g pre (.call g f xs m (primT g post t))

def symOps (E : Env) (ops : List Oper) : List Oper → SS → (SS → Res T) → Res T
  | [], S, k => k S
  | o :: os, S, k => do
    let (S', g, eff, _) ← sop E ops S o
    let t ← symOps E ops os S' k
    .ok (effT g eff t)

/-- What is told ahead of a region whose order is open: out of a run in the order of the text. -/
def pass1 (E : Env) (ops : List Oper) : List Oper → SS → Res (List (List Nat) × List Nat)
  | [], S => .ok ([], [S.heap.length])
  | o :: os, S => do
    let (S', _, _, tch) ← sop E ops S o
    let (ts, ls) ← pass1 E ops os S'
    .ok (tch :: ts, S.heap.length :: ls)
def masksGo : List Oper → List Nat → List Nat
  | [], acc => acc
  | o :: os, acc => masksGo os (acc ++ [o.after.toList.foldl (fun s e => if Region.binds .any e then s ||| 2 ^ e.on ||| (acc[e.on]?).getD 0 else s) 0])
def symDraw (E : Env) (ops : List Oper) (S : SS) (k : SS → Res T) : Res T :=
  if E.P.follows .mixedOrders = true then do
    let (tchs, lens) ← pass1 E ops ops S
    let (rs, Z) ← build E ops { dsts := ops.map (·.dst), tchs, lens, masks := masksGo ops [] } ops 0 S
    let t ← k Z
    .ok (rs.foldr (fun r t => effT r.g r.eff t) t)
  else .error "mixed orders"
def symRegion (E : Env) (ops : List Oper) (draw : Bool) (S : SS) (k : SS → Res T) : Res T :=
  if draw then symDraw E ops S k else symOps E ops ops S k

abbrev KX := XK → SS → Res (Nat × List Atom)
def KX.up (K : KX) : KX := fun e S => do let (l, xs) ← K e S; .ok (l + 1, xs)

def symCode (E : Env) : Code → H → SS → KX → (SS → Res T) → Res T
  | .skip, _, S, _, k => k S
  | .region _ ops d, _, S, _, k => symRegion E ops.toList d S k
  | .seq a b, h, S, K, k => symCode E a h.l S K fun S' => symCode E b h.r S' K k
  | .cond c x y, h, S, K, k => do
    match ← getSV S c with
    | .c (.s (.dat (.b .bool) v)) =>
      match h.j with
      | none => do
        let t ← symCode E x h.l S K k
        let e ← symCode E y h.r S K k
        .ok (.ite v t e)
      | some j => do
        let Sj := mkJ S j
        let k' : SS → Res T := fun S' => do let θ ← fill S.n S.heap.length Sj S'; .ok (.out 0 θ)
        let t ← symCode E x h.l S K.up k'
        let e ← symCode E y h.r S K.up k'
        let r ← k Sj
        .ok (.join j.m (.ite v t e) r)
    | _ => .error "condition"
  | .block id body, h, S, K, k =>
    match h.j with
    | none => symCode E body h.l S (fun e S' => if e = .exit id then .error "an exit of a block without a meeting place" else K e S') k
    | some j => do
      let Sj := mkJ S j
      let k' : SS → Res T := fun S' => do let θ ← fill S.n S.heap.length Sj S'; .ok (.out 0 θ)
      let t ← symCode E body h.l S (fun e S' => if e = .exit id then (do let θ ← fill S.n S.heap.length Sj S'; .ok (0, θ)) else K.up e S') k'
      let r ← k Sj
      .ok (.join j.m t r)
  | .loop body, h, S, K, _ =>
    match h.j with
    | none => .error "a loop without a head"
    | some j => do
      let Sl := mkJ S j
      let θ ← fill S.n S.heap.length Sl S
      let b ← symCode E body h.l Sl K.up (fun S' => do let θ' ← fill S.n S.heap.length Sl S'; if θ'.length = θ.length then .ok (.out 0 θ') else .error "loop")
      .ok (.loop θ b)
  | .ret, _, S, K, _ => do let (l, xs) ← K .ret S; .ok (.out l xs)
  | .exit id, _, S, K, _ => do let (l, xs) ← K (.exit id) S; .ok (.out l xs)
  | _, _, _, _, _ => .error "code"

/-! ### That it holds -/
section
variable {X : Nat → Prop} {M : Hand} {w0 w : World} {S : SS} {μ : Mu} {ρ : List D} {a : Act} {G : Nat → List D → Option (List D)} {fuel : Nat}

theorem fill_ok {n hb : Nat} {Sj : SS} {θ : List Atom} (hf : fill n hb Sj S = .ok θ) (h : R X M w0 S μ ρ a w) (hanc : ∀ (β : Nat) v, M.anc[β]? = some v → β < hb) : ∃ μ', R X M w0 Sj μ' (ρ.take n ++ evs ρ θ) a w := by
  unfold fill at hf
  dsimp only at hf
  split at hf
  · rename_i hc
    simp only [Except.ok.injEq] at hf
    subst hf
    have := leSS_ok h hc.2.2 (by rw [hc.2.1]; exact hanc)
    unfold Fill.env at this
    rw [hc.1] at this
    exact this
  · cases hf

theorem guard_append' {g : Guard} (hg : ∀ x want, g = some (x, want) → x.get ρ ≠ none) (σ : List D) : ∀ x want, g = some (x, want) → x.get (ρ ++ σ) ≠ none := fun x want e => by
  have := hg x want e
  cases hx : x.get ρ with
  | none => exact absurd hx this
  | some d => rw [Atom.get_append hx]; simp

theorem primT_run {g : Guard} {t : T} {r : Nat × List D} : ∀ {ps : List Push} {ρ : List D}, (∀ x want, g = some (x, want) → x.get ρ ≠ none) → run G fuel (primT g ps t) ρ = some r →
    (g.ok ρ = true → ∃ ρ', pushAll ps ρ = some ρ' ∧ run G fuel t ρ' = some r) ∧ (g.ok ρ = false → run G fuel t (ρ ++ List.replicate ps.length .undef) = some r)
  | [], ρ, _, h => ⟨fun _ => ⟨ρ, rfl, h⟩, fun _ => by simpa [primT] using h⟩
  | (p, xs) :: ps, ρ, hg, h => by
    simp only [primT, run] at h
    refine ⟨fun hok => ?_, fun hno => ?_⟩
    · rw [if_pos hok] at h
      simp only [pushAll]
      split at h
      · rename_i d hd
        obtain ⟨ρ', h1, h2⟩ := (primT_run (guard_append' hg [d]) h).1 (by rw [guard_append hg]; exact hok)
        exact ⟨ρ', by rw [hd]; exact h1, h2⟩
      · cases h
    · rw [hno] at h
      simp only [Bool.false_eq_true, if_false] at h
      have := (primT_run (guard_append' hg [D.undef]) h).2 (by rw [guard_append hg]; exact hno)
      simpa [List.replicate_succ] using this

theorem effT_run {g : Guard} {t : T} {r : Nat × List D} {eff : Eff} (hg : ∀ x want, g = some (x, want) → x.get ρ ≠ none) (h : run G fuel (effT g eff t) ρ = some r) :
    (g.ok ρ = true → ∃ ρ', effRun G ρ eff = some ρ' ∧ run G fuel t ρ' = some r) ∧ (g.ok ρ = false → run G fuel t (ρ ++ List.replicate (effLen eff) .undef) = some r) := by
  cases eff with
  | prims ps => exact primT_run hg h
  | call pre f xs m post =>
    simp only [effT] at h
    obtain ⟨p1, p2⟩ := primT_run hg h
    refine ⟨fun hok => ?_, fun hno => ?_⟩
    · obtain ⟨ρ1, h1, h2⟩ := p1 hok
      obtain ⟨σ, rfl, _⟩ := pushAll_env h1
      have hok1 : g.ok (ρ ++ σ) = true := by rw [guard_append hg]; exact hok
      simp only [run] at h2
      rw [if_pos hok1] at h2
      split at h2
      · rename_i ds hds
        split at h2
        · rename_i hm
          have hg1 := guard_append' (guard_append' hg σ) ds
          obtain ⟨ρ', h3, h4⟩ := (primT_run hg1 h2).1 (by rw [guard_append (guard_append' hg σ)]; exact hok1)
          exact ⟨ρ', by simp only [effRun, h1, Option.bind_some, hds, hm, if_true]; exact h3, h4⟩
        · cases h2
      · cases h2
    · have h2 := p2 hno
      have hno1 : g.ok (ρ ++ List.replicate pre.length .undef) = false := by rw [guard_append hg]; exact hno
      simp only [run] at h2
      rw [hno1] at h2
      simp only [Bool.false_eq_true, if_false] at h2
      have hg1 := guard_append' (guard_append' hg (List.replicate pre.length .undef)) (List.replicate m .undef)
      have h3 := (primT_run hg1 h2).2 (by rw [guard_append (guard_append' hg _)]; exact hno1)
      rw [List.append_assoc, List.append_assoc, List.replicate_append_replicate, List.replicate_append_replicate, ← Nat.add_assoc] at h3
      exact h3

theorem effRun_len {eff : Eff} {ρ ρ' : List D} (h : effRun G ρ eff = some ρ') : ∃ σ, ρ' = ρ ++ σ ∧ σ.length = effLen eff := by
  cases eff with
  | prims ps => exact pushAll_env h
  | call pre f xs m post =>
    simp only [effRun] at h
    cases hp : pushAll pre ρ with
    | none => rw [hp] at h; cases h
    | some ρ1 =>
      rw [hp, Option.bind_some] at h
      obtain ⟨σ1, rfl, l1⟩ := pushAll_env hp
      split at h
      · rename_i ds _
        split at h
        · rename_i hm
          obtain ⟨σ2, rfl, l2⟩ := pushAll_env h
          exact ⟨σ1 ++ ds ++ σ2, by simp, by simp [effLen, l1, l2, hm]; omega⟩
        · cases h
      · cases h

theorem effRun_env {eff : Eff} {ρ' : List D} (h : effRun G ρ eff = some ρ') : ∃ σ, ρ' = ρ ++ σ := by
  obtain ⟨σ, e, _⟩ := effRun_len h
  exact ⟨σ, e⟩

theorem symOps_ok {E : Env} (hE : EnvOk E G) {ops : Array Oper} {Q : Exit → Act → World → Prop} {r : Nat × List D} : ∀ {os : List Oper} {S : SS} {k : SS → Res T} {t : T} {μ : Mu} {ρ : List D} {a : Act} {w : World},
    symOps E ops.toList os S k = .ok t → R X M w0 S μ ρ a w → run G fuel t ρ = some r →
    (∀ S' t' μ' σ a' w', k S' = .ok t' → R X M w0 S' μ' (ρ ++ σ) a' w' → run G fuel t' (ρ ++ σ) = some r → Q .normal a' w') → wpList E.P ops Q os a w
  | [], S, k, t, μ, ρ, a, w, h, hR, hr, hk => hk S t μ [] a w h (by simpa using hR) (by simpa using hr)
  | o :: os, S, k, t, μ, ρ, a, w, h, hR, hr, hk => by
    simp only [symOps] at h
    obtain ⟨⟨S', g, eff, tch⟩, h1, h2⟩ := bind_ok h
    dsimp only at h2
    obtain ⟨t', h3, h4⟩ := bind_ok h2
    simp only [Except.ok.injEq] at h4
    subst h4
    obtain ⟨hw, hgg, hno, hyes⟩ := sop_ok hE h1 hR
    obtain ⟨e1, e2⟩ := effT_run hgg hr
    unfold wpList
    cases hok : g.ok ρ with
    | true =>
      rw [hw, if_pos hok]
      obtain ⟨ρ', hρ', hrun⟩ := e1 hok
      obtain ⟨σ, rfl⟩ := effRun_env hρ'
      refine .inl (hyes hok _ hρ' _ _ fun μ' a' w' hR' _ => ?_)
      exact symOps_ok hE h3 hR' hrun fun S'' t'' μ'' σ' a'' w'' hk1 hk2 hk3 => hk S'' t'' μ'' (σ ++ σ') a'' w'' hk1 (by simpa using hk2) (by simpa using hk3)
    | false =>
      rw [hw, hok]
      simp only [Bool.false_eq_true, if_false]
      exact symOps_ok hE h3 (hno hok).2.2 (e2 hok) fun S'' t'' μ'' σ' a'' w'' hk1 hk2 hk3 => hk S'' t'' μ'' (List.replicate (effLen eff) .undef ++ σ') a'' w'' hk1 (by simpa using hk2) (by simpa using hk3)

theorem chain_go {r : Rg} {rs : List Rec} {t : T} {res : Nat × List D} (hN : r.N = rs.length) (hg : ∀ i rc, rs[i]? = some rc → r.g i = rc.g ∧ r.eff i = rc.eff ∧ r.n (i + 1) = r.n i + effLen rc.eff ∧ gdB rc.g (r.n i) = true) :
    ∀ (m i : Nat) (ρi : List D), i + m = r.N → ρi.length = r.n i → run G fuel ((rs.drop i).foldr (fun r t => effT r.g r.eff t) t) ρi = some res →
      ∃ ρN, ρN.take (r.n i) = ρi ∧ ρN.length = r.n r.N ∧ r.n i ≤ r.n r.N ∧ run G fuel t ρN = some res ∧
        ∀ j, i ≤ j → j < r.N → ((r.g j).ok (ρN.take (r.n j)) = true → effRun G (ρN.take (r.n j)) (r.eff j) = some (ρN.take (r.n (j + 1)))) ∧
          ((r.g j).ok (ρN.take (r.n j)) = false → ρN.take (r.n (j + 1)) = ρN.take (r.n j) ++ List.replicate (effLen (r.eff j)) .undef)
  | 0, i, ρi, hi, hl, hr => by
    have : i = r.N := by omega
    subst this
    rw [List.drop_of_length_le (by omega)] at hr
    exact ⟨ρi, by rw [← hl]; exact List.take_length, hl, Nat.le_refl _, hr, fun j h1 h2 => absurd h2 (by omega)⟩
  | m + 1, i, ρi, hi, hl, hr => by
    have hlt : i < rs.length := by omega
    rw [List.drop_eq_getElem_cons hlt, List.foldr_cons] at hr
    obtain ⟨e1, e2, e3, e4⟩ := hg i rs[i] (List.getElem?_eq_getElem hlt)
    have hgg : ∀ x want, rs[i].g = some (x, want) → x.get ρi ≠ none := by
      intro x want he
      rw [he] at e4
      cases x with
      | v k =>
        simp only [gdB, decide_eq_true_eq] at e4
        simp only [Atom.get, ne_eq, List.getElem?_eq_none_iff, Nat.not_le]
        omega
      | c d => simp [gdB] at e4
    obtain ⟨g1, g2⟩ := effT_run hgg hr
    have key : ∀ ρ', (∃ σ, ρ' = ρi ++ σ ∧ σ.length = effLen rs[i].eff) → run G fuel ((rs.drop (i + 1)).foldr (fun r t => effT r.g r.eff t) t) ρ' = some res →
        ((r.g i).ok ρi = true → effRun G ρi (r.eff i) = some ρ') → ((r.g i).ok ρi = false → ρ' = ρi ++ List.replicate (effLen (r.eff i)) .undef) → ∃ ρN, ρN.take (r.n i) = ρi ∧ ρN.length = r.n r.N ∧ r.n i ≤ r.n r.N ∧ run G fuel t ρN = some res ∧
        ∀ j, i ≤ j → j < r.N → ((r.g j).ok (ρN.take (r.n j)) = true → effRun G (ρN.take (r.n j)) (r.eff j) = some (ρN.take (r.n (j + 1)))) ∧
          ((r.g j).ok (ρN.take (r.n j)) = false → ρN.take (r.n (j + 1)) = ρN.take (r.n j) ++ List.replicate (effLen (r.eff j)) .undef) := by
      rintro ρ' ⟨σ, rfl, hσ⟩ hr' hyes hno
      obtain ⟨ρN, a1, a2, a3, a4, a5⟩ := chain_go hN hg m (i + 1) (ρi ++ σ) (by omega) (by rw [e3, List.length_append, hl, hσ]) hr'
      have hi1 : ρN.take (r.n i) = ρi := by
        have : ρN.take (r.n i) = (ρN.take (r.n (i + 1))).take (r.n i) := by rw [List.take_take, Nat.min_eq_left (by omega)]
        rw [this, a1, ← hl, List.take_left']
        rfl
      refine ⟨ρN, hi1, a2, by omega, a4, fun j h1 h2 => ?_⟩
      rcases Nat.lt_or_eq_of_le h1 with h3 | rfl
      · exact a5 j h3 h2
      · rw [hi1, a1]
        exact ⟨hyes, hno⟩
    cases hok : rs[i].g.ok ρi with
    | true =>
      obtain ⟨ρ', h1, h2⟩ := g1 hok
      exact key ρ' (effRun_len h1) h2 (fun _ => by rw [e2]; exact h1) (fun hn => by rw [e1, hok] at hn; cases hn)
    | false =>
      exact key _ ⟨_, rfl, by simp⟩ (g2 hok) (fun hy => by rw [e1, hok] at hy; cases hy) (fun _ => by rw [e2])

theorem symDraw_ok {E : Env} (hE : EnvOk E G) {id : Nat} {ops : Array Oper} {Q : Exit → Act → World → Prop} {r : Nat × List D} {k : SS → Res T} {t : T} (h : symDraw E ops.toList S k = .ok t) (hR : R X M w0 S μ ρ a w)
    (hr : run G fuel t ρ = some r) (hk : ∀ S' t' μ' σ a' w', k S' = .ok t' → R X M w0 S' μ' (ρ ++ σ) a' w' → run G fuel t' (ρ ++ σ) = some r → Q .normal a' w') : (Code.region id ops true).wp E.P Q a w := by
  unfold symDraw at h
  split at h
  · rename_i hm
    obtain ⟨⟨tchs, lens⟩, h1, h2⟩ := bind_ok h
    dsimp only at h2
    obtain ⟨⟨rs, Z⟩, h3, h4⟩ := bind_ok h2
    dsimp only at h4
    obtain ⟨t', h5, h6⟩ := bind_ok h4
    simp only [Except.ok.injEq] at h6
    subst h6
    generalize hH : ({ dsts := ops.toList.map (·.dst), tchs := tchs, lens := lens, masks := masksGo ops.toList [] } : Hint) = Hn at h3
    have hn : Hn.N = ops.size := by rw [← hH]; simp [Hint.N]
    have hok := rg_ok h3 hn
    obtain ⟨q1, q2, q3, q4⟩ := rec_at h3
    have hNr : (rgOf Hn rs Z).N = rs.length := rfl
    obtain ⟨ρN, a1, a2, a3, a4, a5⟩ := chain_go (G := G) (fuel := fuel) (r := rgOf Hn rs Z) (rs := rs) (t := t') (res := r) hNr (fun i rc hrc => by
      have hi : i < ops.size := by rw [← q1]; exact (List.getElem?_eq_some_iff.1 hrc).1
      have ho : ops[i]? = some ops[i] := by simp [hi]
      have hrec := q4 i _ ho
      have hst := stepB_ok hrec.step
      have e1 : (rgOf Hn rs Z).g i = rc.g := by simp [rgOf, hrc]
      have e2 : (rgOf Hn rs Z).eff i = rc.eff := by simp [rgOf, hrc]
      refine ⟨e1, e2, ?_, ?_⟩
      · show ((rgOf Hn rs Z).A (i + 1)).n = _
        rw [hrec.next]
        show ((rgOf Hn rs Z).S' i).n = _
        rw [hst.n, e2]
        rfl
      · have := hrec.gd
        rw [e1] at this
        exact this) rs.length 0 ρ (by rw [hNr]; omega) (by show ρ.length = ((rgOf Hn rs Z).A 0).n; rw [q2]; exact hR.len) (by simpa using hr)
    have hR0 : R X M w0 ((rgOf Hn rs Z).A 0) μ (ρN.take ((rgOf Hn rs Z).n 0)) a w := by rw [q2, a1]; exact hR
    refine region_any_ok hE hok hm ⟨a2, fun i hi => a5 i (Nat.zero_le i) hi⟩ hR0 fun μ' a' w' hR' => ?_
    have hsplit : ρN = ρ ++ ρN.drop ((rgOf Hn rs Z).n 0) := by
      have := List.take_append_drop ((rgOf Hn rs Z).n 0) ρN
      rw [a1] at this
      exact this.symm
    rw [hNr, q3] at hR'
    rw [hsplit] at hR' a4
    exact hk Z t' μ' _ a' w' h5 hR' a4
  · cases h

theorem symRegion_ok {E : Env} (hE : EnvOk E G) {id : Nat} {ops : Array Oper} {d : Bool} {Q : Exit → Act → World → Prop} {r : Nat × List D} {k : SS → Res T} {t : T} (h : symRegion E ops.toList d S k = .ok t) (hR : R X M w0 S μ ρ a w)
    (hr : run G fuel t ρ = some r) (hk : ∀ S' t' μ' σ a' w', k S' = .ok t' → R X M w0 S' μ' (ρ ++ σ) a' w' → run G fuel t' (ρ ++ σ) = some r → Q .normal a' w') : (Code.region id ops d).wp E.P Q a w := by
  unfold symRegion at h
  split at h
  · rename_i hd
    subst hd
    exact symDraw_ok hE h hR hr hk
  · rename_i hd
    have : d = false := by simpa using hd
    subst this
    exact wp_region_list (symOps_ok hE h hR hr hk)

theorem up_ok {K : KX} {e : XK} {S : SS} {l : Nat} {xs : List Atom} (h : K.up e S = .ok (l, xs)) : ∃ l', l = l' + 1 ∧ K e S = .ok (l', xs) := by
  unfold KX.up at h
  obtain ⟨⟨l', xs'⟩, h1, h2⟩ := bind_ok h
  simp only [Except.ok.injEq, Prod.mk.injEq] at h2
  obtain ⟨rfl, rfl⟩ := h2
  exact ⟨l', rfl, h1⟩

theorem symCode_ok {E : Env} (hE : EnvOk E G) : ∀ (c : Code) {h : H} {S : SS} {K : KX} {k : SS → Res T} {t : T} {μ : Mu} {ρ : List D} {a : Act} {w : World} {Q : Exit → Act → World → Prop} {r : Nat × List D},
    symCode E c h S K k = .ok t → R X M w0 S μ ρ a w → run G fuel t ρ = some r →
    (∀ S' t' μ' σ a' w', k S' = .ok t' → R X M w0 S' μ' (ρ ++ σ) a' w' → run G fuel t' (ρ ++ σ) = some r → Q .normal a' w') →
    (∀ e S' l xs μ' σ a' w', K e S' = .ok (l, xs) → R X M w0 S' μ' (ρ ++ σ) a' w' → r = (l, evs (ρ ++ σ) xs) → Q e.toExit a' w') →
    c.wp E.P Q a w
  | .skip, h, S, K, k, t, μ, ρ, a, w, Q, r, hs, hR, hr, hk, _ => wp_skip (hk S t μ [] a w hs (by simpa using hR) (by simpa using hr))
  | .region id ops d, h, S, K, k, t, μ, ρ, a, w, Q, r, hs, hR, hr, hk, _ => symRegion_ok hE hs hR hr hk
  | .seq x y, h, S, K, k, t, μ, ρ, a, w, Q, r, hs, hR, hr, hk, hK => by
    refine wp_seq ?_
    refine symCode_ok hE x hs hR hr (fun S' t' μ' σ a' w' h1 h2 h3 => ?_) (fun e S' l xs μ' σ a' w' h1 h2 h3 => ?_)
    · exact symCode_ok hE y h1 h2 h3 (fun S'' t'' μ'' σ' a'' w'' g1 g2 g3 => hk S'' t'' μ'' (σ ++ σ') a'' w'' g1 (by simpa using g2) (by simpa using g3))
        (fun e S'' l xs μ'' σ' a'' w'' g1 g2 g3 => hK e S'' l xs μ'' (σ ++ σ') a'' w'' g1 (by simpa using g2) (by simpa using g3))
    · have := hK e S' l xs μ' σ a' w' h1 h2 h3
      cases e <;> exact this
  | .cond c x y, h, S, K, k, t, μ, ρ, a, w, Q, r, hs, hR, hr, hk, hK => by
    simp only [symCode] at hs
    obtain ⟨s, h1, h2⟩ := bind_ok hs
    split at h2
    · rename_i v
      obtain ⟨b, hb, hv⟩ := rd_bool (getSV_ok h1 hR.slots)
      split at h2
      · rename_i hj
        obtain ⟨t1, h3, h4⟩ := bind_ok h2
        obtain ⟨t2, h5, h6⟩ := bind_ok h4
        simp only [Except.ok.injEq] at h6
        subst h6
        simp only [run, Atom.ev_of_get hv] at hr
        refine wp_cond hb ?_
        cases b with
        | true => exact symCode_ok hE x h3 hR hr hk hK
        | false => exact symCode_ok hE y h5 hR hr hk hK
      · rename_i j hj
        obtain ⟨t1, h3, h4⟩ := bind_ok h2
        obtain ⟨t2, h5, h6⟩ := bind_ok h4
        obtain ⟨t3, h7, h8⟩ := bind_ok h6
        simp only [Except.ok.injEq] at h8
        subst h8
        simp only [run, Atom.ev_of_get hv] at hr
        refine wp_cond hb ?_
        have key : ∀ (z : Code) (tz : T) (hz : H), (∀ {h : H} {S : SS} {K : KX} {k : SS → Res T} {t : T} {μ : Mu} {ρ : List D} {a : Act} {w : World} {Q : Exit → Act → World → Prop} {r : Nat × List D},
            symCode E z h S K k = .ok t → R X M w0 S μ ρ a w → run G fuel t ρ = some r →
            (∀ S' t' μ' σ a' w', k S' = .ok t' → R X M w0 S' μ' (ρ ++ σ) a' w' → run G fuel t' (ρ ++ σ) = some r → Q .normal a' w') →
            (∀ e S' l xs μ' σ a' w', K e S' = .ok (l, xs) → R X M w0 S' μ' (ρ ++ σ) a' w' → r = (l, evs (ρ ++ σ) xs) → Q e.toExit a' w') → z.wp E.P Q a w) →
            symCode E z hz S K.up (fun S' => do let θ ← fill S.n S.heap.length (mkJ S j) S'; Except.ok (.out 0 θ)) = .ok tz →
            (match run G fuel tz ρ with | some (0, ds) => if ds.length = j.m then run G fuel t3 (ρ ++ ds) else none | some (l + 1, ds) => some (l, ds) | none => none) = some r → z.wp E.P Q a w := by
          intro z tz hz ih hs' hr'
          split at hr'
          · rename_i ds hrt
            split at hr'
            · refine ih hs' hR hrt (fun S' t' μ' σ a' w' g1 g2 g3 => ?_) (fun e S' l xs μ' σ a' w' g1 g2 g3 => ?_)
              · obtain ⟨θ, f1, f2⟩ := bind_ok g1
                simp only [Except.ok.injEq] at f2
                subst f2
                simp only [run, Option.some.injEq, Prod.mk.injEq, true_and] at g3
                obtain ⟨μ'', hR'⟩ := fill_ok f1 g2 fun β v hv => (hR.anc β v hv).1
                rw [g3] at hR'
                have : (ρ ++ σ).take S.n = ρ := by rw [← hR.len]; simp
                rw [this] at hR'
                exact hk _ _ μ'' ds a' w' h7 hR' hr'
              · obtain ⟨l', rfl, _⟩ := up_ok g1
                simp at g3
            · cases hr'
          · rename_i l ds hrt
            simp only [Option.some.injEq] at hr'
            subst hr'
            refine ih hs' hR hrt (fun S' t' μ' σ a' w' g1 g2 g3 => ?_) (fun e S' l xs μ' σ a' w' g1 g2 g3 => ?_)
            · obtain ⟨θ, f1, f2⟩ := bind_ok g1
              simp only [Except.ok.injEq] at f2
              subst f2
              simp [run] at g3
            · obtain ⟨l', rfl, f1⟩ := up_ok g1
              simp only [Prod.mk.injEq] at g3
              exact hK e S' l' xs μ' σ a' w' f1 g2 (by rw [Nat.succ.inj g3.1, g3.2])
          · cases hr'
        cases b with
        | true => exact key x t1 h.l (fun a b c d e => symCode_ok hE x a b c d e) h3 hr
        | false => exact key y t2 h.r (fun a b c d e => symCode_ok hE y a b c d e) h5 hr
    · cases h2
  | .block id body, h, S, K, k, t, μ, ρ, a, w, Q, r, hs, hR, hr, hk, hK => by
    simp only [symCode] at hs
    refine wp_block ?_
    split at hs
    · refine symCode_ok hE body hs hR hr hk (fun e S' l xs μ' σ a' w' g1 g2 g3 => ?_)
      split at g1
      · cases g1
      · rename_i hne
        have := hK e S' l xs μ' σ a' w' g1 g2 g3
        cases e with
        | ret => exact this
        | exit id' =>
          simp only [XK.toExit, Exit.inBlock]
          rw [if_neg (fun e => hne (by rw [e]))]
          exact this
    · rename_i j hj
      obtain ⟨t1, h3, h4⟩ := bind_ok hs
      obtain ⟨t3, h7, h8⟩ := bind_ok h4
      simp only [Except.ok.injEq] at h8
      subst h8
      simp only [run] at hr
      have meet : ∀ {S' : SS} {θ : List Atom} {μ' : Mu} {σ ds : List D} {a' : Act} {w' : World}, fill S.n S.heap.length (mkJ S j) S' = .ok θ → R X M w0 S' μ' (ρ ++ σ) a' w' → evs (ρ ++ σ) θ = ds → run G fuel t3 (ρ ++ ds) = some r → Q .normal a' w' := by
        intro S' θ μ' σ ds a' w' f1 g2 g3 hr'
        obtain ⟨μ'', hR'⟩ := fill_ok f1 g2 fun β v hv => (hR.anc β v hv).1
        rw [g3] at hR'
        have : (ρ ++ σ).take S.n = ρ := by rw [← hR.len]; simp
        rw [this] at hR'
        exact hk _ _ μ'' ds a' w' h7 hR' hr'
      split at hr
      · rename_i ds hrt
        split at hr
        · refine symCode_ok hE body h3 hR hrt (fun S' t' μ' σ a' w' g1 g2 g3 => ?_) (fun e S' l xs μ' σ a' w' g1 g2 g3 => ?_)
          · obtain ⟨θ, f1, f2⟩ := bind_ok g1
            simp only [Except.ok.injEq] at f2
            subst f2
            simp only [run, Option.some.injEq, Prod.mk.injEq, true_and] at g3
            exact meet f1 g2 g3 hr
          · split at g1
            · rename_i he
              subst he
              obtain ⟨θ, f1, f2⟩ := bind_ok g1
              simp only [Except.ok.injEq, Prod.mk.injEq] at f2
              obtain ⟨rfl, rfl⟩ := f2
              simp only [Prod.mk.injEq, true_and] at g3
              simp only [XK.toExit, Exit.inBlock, if_true]
              exact meet f1 g2 g3.symm hr
            · obtain ⟨l', rfl, _⟩ := up_ok g1
              simp at g3
        · cases hr
      · rename_i l ds hrt
        simp only [Option.some.injEq] at hr
        subst hr
        refine symCode_ok hE body h3 hR hrt (fun S' t' μ' σ a' w' g1 g2 g3 => ?_) (fun e S' l xs μ' σ a' w' g1 g2 g3 => ?_)
        · obtain ⟨θ, f1, f2⟩ := bind_ok g1
          simp only [Except.ok.injEq] at f2
          subst f2
          simp [run] at g3
        · split at g1
          · obtain ⟨θ, f1, f2⟩ := bind_ok g1
            simp only [Except.ok.injEq, Prod.mk.injEq] at f2
            obtain ⟨rfl, rfl⟩ := f2
            simp at g3
          · rename_i hne
            obtain ⟨l', rfl, f1⟩ := up_ok g1
            simp only [Prod.mk.injEq] at g3
            have := hK e S' l' xs μ' σ a' w' f1 g2 (by rw [Nat.succ.inj g3.1, g3.2])
            cases e with
            | ret => exact this
            | exit id' =>
              simp only [XK.toExit, Exit.inBlock]
              rw [if_neg (fun e => hne (by rw [e]))]
              exact this
      · cases hr
  | .loop body, h, S, K, k, t, μ, ρ, a, w, Q, r, hs, hR, hr, hk, hK => by
    simp only [symCode] at hs
    split at hs
    · cases hs
    · rename_i j hj
      obtain ⟨θ, h3, h4⟩ := bind_ok hs
      obtain ⟨b, h5, h6⟩ := bind_ok h4
      simp only [Except.ok.injEq] at h6
      subst h6
      simp only [run] at hr
      have rounds : ∀ (n : Nat) (ds : List D) (μ : Mu) (a : Act) (w : World), R X M w0 (mkJ S j) μ (ρ ++ ds) a w →
          iter (fun ds => if ds.length = θ.length then run G fuel b (ρ ++ ds) else none) n ds = some r → Code.rounds E.P body Q n a w := by
        intro n
        induction n with
        | zero => intro ds μ a w _ hi; simp [iter] at hi
        | succ n ih =>
          intro ds μ a w hRl hi
          simp only [iter] at hi
          rw [rounds_succ]
          split at hi
          · rename_i ds' hb
            split at hb
            · refine symCode_ok hE body h5 hRl hb (fun S' t' μ' σ a' w' g1 g2 g3 => ?_) (fun e S' l xs μ' σ a' w' g1 g2 g3 => ?_)
              · obtain ⟨θ', f1, f2⟩ := bind_ok g1
                split at f2
                · simp only [Except.ok.injEq] at f2
                  subst f2
                  simp only [run, Option.some.injEq, Prod.mk.injEq, true_and] at g3
                  obtain ⟨μ'', hR'⟩ := fill_ok f1 g2 fun β v hv => (hR.anc β v hv).1
                  rw [g3] at hR'
                  have : (ρ ++ ds ++ σ).take S.n = ρ := by rw [← hR.len]; simp
                  rw [this] at hR'
                  exact ih ds' μ'' a' w' hR' hi
                · cases f2
              · obtain ⟨l', rfl, _⟩ := up_ok g1
                simp at g3
            · cases hb
          · rename_i l ds' hb
            simp only [Option.some.injEq] at hi
            subst hi
            split at hb
            · refine symCode_ok hE body h5 hRl hb (fun S' t' μ' σ a' w' g1 g2 g3 => ?_) (fun e S' l xs μ' σ a' w' g1 g2 g3 => ?_)
              · obtain ⟨θ', f1, f2⟩ := bind_ok g1
                split at f2
                · simp only [Except.ok.injEq] at f2
                  subst f2
                  simp [run] at g3
                · cases f2
              · obtain ⟨l', rfl, f1⟩ := up_ok g1
                simp only [Prod.mk.injEq] at g3
                have := hK e S' l' xs μ' (ds ++ σ) a' w' f1 (by simpa using g2) (by rw [Nat.succ.inj g3.1, g3.2]; simp)
                cases e <;> exact this
            · cases hb
          · cases hi
      obtain ⟨μ', hR'⟩ := fill_ok h3 hR fun β v hv => (hR.anc β v hv).1
      have : ρ.take S.n = ρ := by rw [← hR.len]; simp
      rw [this] at hR'
      exact wp_loop_rounds fuel (rounds fuel _ μ' a w hR' hr)
  | .ret, h, S, K, k, t, μ, ρ, a, w, Q, r, hs, hR, hr, _, hK => by
    simp only [symCode] at hs
    obtain ⟨⟨l, xs⟩, h1, h2⟩ := bind_ok hs
    simp only [Except.ok.injEq] at h2
    subst h2
    simp only [run, Option.some.injEq] at hr
    exact wp_ret (hK .ret S l xs μ [] a w h1 (by simpa using hR) (by simpa using hr.symm))
  | .exit id, h, S, K, k, t, μ, ρ, a, w, Q, r, hs, hR, hr, _, hK => by
    simp only [symCode] at hs
    obtain ⟨⟨l, xs⟩, h1, h2⟩ := bind_ok hs
    simp only [Except.ok.injEq] at h2
    subst h2
    simp only [run, Option.some.injEq] at hr
    exact wp_exit (hK (.exit id) S l xs μ [] a w h1 (by simpa using hR) (by simpa using hr.symm))
  | .rangeFunc .., h, S, K, k, t, μ, ρ, a, w, Q, r, hs, _, _, _, _ => by simp [symCode] at hs
  | .scope _, h, S, K, k, t, μ, ρ, a, w, Q, r, hs, _, _, _, _ => by simp [symCode] at hs
  | .label _, h, S, K, k, t, μ, ρ, a, w, Q, r, hs, _, _, _, _ => by simp [symCode] at hs
  | .goto _, h, S, K, k, t, μ, ρ, a, w, Q, r, hs, _, _, _, _ => by simp [symCode] at hs
  | .refuse _, h, S, K, k, t, μ, ρ, a, w, Q, r, hs, _, _, _, _ => by simp [symCode] at hs

end
end Vs
