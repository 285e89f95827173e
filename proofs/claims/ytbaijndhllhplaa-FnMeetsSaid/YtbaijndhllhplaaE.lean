/-
  Code: from the program's text to the small language, and that it holds.
-/
import Derived.Test.YtbaijndhllhplaaC
import Derived.LoopN
import Derived.Conc.MuLone
import Derived.Test.YtbaijndhllhplaaA
import Derived.ProofKit
import Derived.ChangeStays
namespace Vs
open Go Go.RowKit
structure Acc where
 as : List (Nat × Atom)
 bs : List (Nat × Nat)
 nils : List MK
def look {α : Type} (l : List (Nat × α)) (k : Nat) : Option α := match l with | [] => none | (i, x) :: r => if i = k then some x else look r k
section
variable (n hb hl : Nat) (Hj : List SB)
def gAtom (acc : Acc) : Atom → Atom → Acc
 | .v j, y => if j < n then acc else match look acc.as j with | some _ => acc | none => { acc with as := (j, y) :: acc.as }
 | .c _, _ => acc
def gBlk (acc : Acc) (β γ : Nat) : Acc := if β < hb then acc else match look acc.bs β with | some _ => acc | none => { acc with bs := (β, γ) :: acc.bs }
def gFC (acc : Acc) : FC → FC → Acc
 | .d _ x, .d _ y => gAtom n acc x y
 | .o β, .o γ => gBlk hb acc β γ
 | .p β, .p γ => gBlk hb acc β γ
 | _, _ => acc
def gList {α : Type} (g : Acc → α → α → Acc) (acc : Acc) : List α → List α → Acc
 | a :: r, b :: q => gList g (g acc a b) r q
 | _, _ => acc
def gCV0 (acc : Acc) : CV0 → CV0 → Acc
 | .dat _ x, .dat _ y => gAtom n acc x y
 | .dat _ x, .nils => gAtom n acc x (.c (.lst []))
 | .own β, .own γ => gBlk hb acc β γ
 | .own β, .nils =>
  if β < hb then acc else
  match look acc.bs β, Hj[β]? with
  | none, some (.row t e x) => gAtom n { acc with bs := (β, hl + acc.nils.length) :: acc.bs, nils := acc.nils ++ [.row t e] } x (.c (.lst []))
  | none, some (.rows et e' e _ x) => gAtom n { acc with bs := (β, hl + acc.nils.length) :: acc.bs, nils := acc.nils ++ [.rows et e' e] } x (.c (.lst []))
  | _, _ => acc
 | .vptr β _, .vptr γ _ => gBlk hb acc β γ
 | .eptr β i _ _, .eptr γ j _ _ => gAtom n (gBlk hb acc β γ) i j
 | .fcel cs _, .fcel ds _ => gList (gFC n hb) acc cs ds
 | .omap β, .omap γ => gBlk hb acc β γ
 | _, _ => acc
def gCV (acc : Acc) : CV → CV → Acc
 | .s c, .s d => gCV0 n hb hl Hj acc c d
 | .fn _ cs, .fn _ ds => gList (gCV0 n hb hl Hj) acc cs ds
 | _, _ => acc
def gSV (acc : Acc) : SV → SV → Acc
 | .c x, .c y => gCV n hb hl Hj acc x y
 | .agg xs, .agg ys => gList (gCV n hb hl Hj) acc xs ys
 | .tup xs, .tup ys => gList (fun acc a b => gList (gCV n hb hl Hj) acc a.2 b.2) acc xs ys
 | _, _ => acc
def gSB (acc : Acc) : SB → SB → Acc
 | .var xs, .var ys => gList (gCV n hb hl Hj) acc xs ys
 | .row _ _ x, .row _ _ y => gAtom n acc x y
 | .rows _ _ _ _ x, .rows _ _ _ _ y => gAtom n acc x y
 | .row _ _ x, .rows _ _ _ _ y => gAtom n acc x y
 | .bx _ x, .bx _ y => gAtom n acc x y
 | .map _ _ x _, .map _ _ y _ => gAtom n acc x y
 | _, _ => acc
end
def guess (n hb : Nat) (Sj S : SS) : Fill :=
 let acc0 : Acc := ⟨[], [], []⟩
 let acc1 := gList (gSV n hb S.heap.length Sj.heap) acc0 Sj.slots S.slots
 let acc2 := (List.range Sj.heap.length).foldl (fun acc β =>
  match Sj.heap[β]?, S.heap[if β < hb then β else (look acc.bs β).getD S.heap.length]? with
  | some sb, some sb' => gSB n hb S.heap.length Sj.heap acc sb sb'
  | _, _ => acc) acc1
 {n, hb, hj := Sj.heap.length, θ := (List.range (Sj.n - n)).map fun k => (look acc2.as (n + k)).getD (.c .undef),
  bs := (List.range (Sj.heap.length - hb)).map fun k => (look acc2.bs (hb + k)).getD (S.heap.length + acc2.nils.length), nils := acc2.nils,
  ver := (S.heap ++ acc2.nils.map fun k => k.sb 0 (.c (.lst []))).map verOf }
def fill (n hb : Nat) (Sj S : SS) : Res (List Atom) :=
 let f := guess n hb Sj S
 if f.n = n ∧ f.hb = hb ∧ leSS f Sj S = true then .ok f.θ else .error "states do not fit"
structure J where
 m : Nat
 h : Nat
 slots : List (Nat × SV)
 heap : List (Nat × SB)
def nowCV0 (_h : List SB) : CV0 → CV0
 | .rref _ _ _ _ _ => .undef
 | .rptr _ _ _ _ _ _ _ _ => .undef
 | .mref _ _ _ _ _ => .undef
 | .ment _ _ _ _ _ => .undef
 | .mptr _ _ _ _ _ _ => .undef
 | c => c
def nowCV (h : List SB) : CV → CV
 | .s c => .s (nowCV0 h c)
 | .fn f cs => .fn f (cs.map (nowCV0 h))
def nowSV (h : List SB) : SV → SV
 | .c x => .c (nowCV h x)
 | .agg cs => .agg (cs.map (nowCV h))
 | .tup vs => .tup (vs.map fun x => (x.1, x.2.map (nowCV h)))
 | .gd g w s => .gd g w (nowSV h s)
def nowSB (h : List SB) : SB → SB
 | .var cs => .var (cs.map (nowCV h))
 | .rows et e' e _ x => .rows et e' e 0 x
 | .map m _ x hole => .map m 0 x hole
 | sb => sb
def SS.now (S : SS) : SS := { S with slots := S.slots.map (nowSV S.heap), heap := S.heap.map (nowSB S.heap) }
def mkJ (S0 : SS) (j : J) : SS :=
 let S := S0.now
 {n := S.n + j.m, slots := j.slots.foldl (fun l p => l.set p.1 p.2) S.slots,
  heap := j.heap.foldl (fun l p => l.set p.1 p.2) (S.heap ++ List.replicate j.h .dead) }
inductive H where
 | e
 | n (j : Option J) (l r : H)
def H.l : H → H | .e => .e | .n _ l _ => l
def H.r : H → H | .e => .e | .n _ _ r => r
def H.j : H → Option J | .e => none | .n j _ _ => j
inductive XK where
 | exit (id : Nat) | ret
 deriving DecidableEq
def XK.toExit : XK → Exit | .exit id => .exit id | .ret => .ret
def primT (g : Guard) : List Push → T → T
 | [], t => t
 | (p, xs) :: ps, t => .op g p xs (primT g ps t)
def effT (g : Guard) : Eff → T → T
 | .prims ps, t => primT g ps t
 | .call pre f xs m post, t => primT g pre (.call g f xs m (primT g post t))
def symOps (E : Env) (ops : List Oper) : List Oper → SS → (SS → Res T) → Res T
 | [], S, k => k S
 | o :: os, S, k => do
  let (S', g, eff, _) ← sop E ops S o
  let t ← forceSS S' fun S' => symOps E ops os S' k
  .ok (effT g eff t)
def pass1 (E : Env) (ops : List Oper) : List Oper → SS → Res (List (List Nat) × List Nat)
 | [], S => .ok ([], [S.heap.length])
 | o :: os, S => do
  let (S', _, _, tch) ← sop E ops S o
  let (ts, ls) ← forceSS S' fun S' => pass1 E ops os S'
  .ok (tch :: ts, S.heap.length :: ls)
def masksGo {α : Type} : List Oper → List Nat → Nat → (List Nat → α) → α
 | [], acc, _, f => f acc.reverse
 | o :: os, acc, n, f => forceN (o.after.toList.foldl (fun s e => if Region.binds .any e then s ||| 2 ^ e.on ||| (acc[n - 1 - e.on]?).getD 0 else s) 0) fun m => masksGo os (m :: acc) (n + 1) f
def isEntry (o : Oper) : Bool := match o.op with | .mapEntry _ _ _ => true | _ => false
def symDraw (E : Env) (ops : List Oper) (S : SS) (k : SS → Res T) : Res T :=
 if E.P.follows .mixedOrders = true then do
  let (tchs, lens) ← pass1 E ops ops S
  let H : Hint := { dsts := ops.map (·.dst), tchs, lens, masks := masksGo ops [] 0 (fun l => l), soft := ops.map isEntry }
  let (rs, Z) ← build E ops H ops 0 S
  if softB (rgOf H rs Z) = true then do
   let t ← k Z
   .ok (rs.foldr (fun r t => effT r.g r.eff t) t)
  else .error "a map in a region whose order is open"
 else .error "mixed orders"
def symRegion (E : Env) (ops : List Oper) (draw : Bool) (S : SS) (k : SS → Res T) : Res T :=
 if draw then symDraw E ops S k else symOps E ops ops S k
abbrev KX := XK → SS → Res (Nat × List Atom)
def KX.up (K : KX) : KX := fun e S => do let (l, xs) ← K e S; .ok (l + 1, xs)
def symCode (E : Env) : Code → H → SS → KX → (SS → Res T) → Res T
 | .skip, _, S, _, k => k S
 | .region _ ops d, _, S, _, k => symRegion E ops.toList d S k
 | .seq a b, h, S, K, k => symCode E a h.l S K fun S' => symCode E b h.r S' K k
 | .cond c x y, h, S, K, k => do
  match ← getSV S c with
  | .c (.s (.dat (.b .bool) v)) =>
   match h.j with
   | none => do
    let t ← symCode E x h.l S K k
    let e ← symCode E y h.r S K k
    .ok (.ite v t e)
   | some j => do
    let Sj := mkJ S j
    let k' : SS → Res T := fun S' => do let θ ← fill S.n S.heap.length Sj S'; .ok (.out 0 θ)
    let t ← symCode E x h.l S K.up k'
    let e ← symCode E y h.r S K.up k'
    let r ← k Sj
    .ok (.join j.m (.ite v t e) r)
  | _ => .error "condition"
 | .block id body, h, S, K, k =>
  match h.j with
  | none => symCode E body h.l S (fun e S' => if e = .exit id then .error "an exit of a block without a meeting place" else K e S') k
  | some j => do
   let Sj := mkJ S j
   let k' : SS → Res T := fun S' => do let θ ← fill S.n S.heap.length Sj S'; .ok (.out 0 θ)
   let t ← symCode E body h.l S (fun e S' => if e = .exit id then (do let θ ← fill S.n S.heap.length Sj S'; .ok (0, θ)) else K.up e S') k'
   let r ← k Sj
   .ok (.join j.m t r)
 | .loop body, h, S, K, _ =>
  match h.j with
  | none => .error "a loop without a head"
  | some j => do
   let Sl := mkJ S j
   let θ ← fill S.n S.heap.length Sl S
   let b ← symCode E body h.l Sl K.up (fun S' => do let θ' ← fill S.n S.heap.length Sl S'; if θ'.length = θ.length then .ok (.out 0 θ') else .error "loop")
   .ok (.loop θ b)
 | .ret, _, S, K, _ => do let (l, xs) ← K .ret S; .ok (.out l xs)
 | .exit id, _, S, K, _ => do let (l, xs) ← K (.exit id) S; .ok (.out l xs)
 | _, _, _, _, _ => .error "code"
section
variable {X : Nat → Prop} {M : Hand} {w0 w : World} {S : SS} {μ : Mu} {ρ : List D} {a : Act} {G : Nat → List D → Option (List D)} {fuel : Nat}
theorem fill_ok {n hb : Nat} {Sj : SS} {θ : List Atom} (hf : fill n hb Sj S = .ok θ) (h : R X M w0 S μ ρ a w) (hanc : ∀ (β : Nat) v, M.anc[β]? = some v → β < hb) : ∃ μ', R X M w0 Sj μ' (ρ.take n ++ evs ρ θ) a w := by
 unfold fill at hf
 dsimp only at hf
 split at hf
 ·rename_i hc
  simp only [Except.ok.injEq] at hf;subst hf;have := leSS_ok h hc.2.2 (by rw [hc.2.1]; exact hanc)
  unfold Fill.env at this;rw [hc.1] at this;exact this
 ·cases hf
theorem guard_append' {g : Guard} (hg : ∀ x want, g = some (x, want) → x.get ρ ≠ none) (σ : List D) : ∀ x want, g = some (x, want) → x.get (ρ ++ σ) ≠ none := fun x want e => by
 have := hg x want e
 cases hx : x.get ρ with
 | none => exact absurd hx this
 | some d => rw [Atom.get_append hx]; simp
theorem primT_run {g : Guard} {t : T} {r : Nat × List D} : ∀ {ps : List Push} {ρ : List D}, (∀ x want, g = some (x, want) → x.get ρ ≠ none) → run G fuel (primT g ps t) ρ = some r →
  (g.ok ρ = true → ∃ ρ', pushAll ps ρ = some ρ' ∧ run G fuel t ρ' = some r) ∧ (g.ok ρ = false → run G fuel t (ρ ++ List.replicate ps.length .undef) = some r)
 | [], ρ, _, h => ⟨fun _ => ⟨ρ, rfl, h⟩, fun _ => by simpa [primT] using h⟩
 | (p, xs) :: ps, ρ, hg, h => by
  simp only [primT, run] at h;refine ⟨fun hok => ?_, fun hno => ?_⟩
  ·rw [if_pos hok] at h
   simp only [pushAll];split at h
   ·rename_i d hd
    obtain ⟨ρ', h1, h2⟩ := (primT_run (guard_append' hg [d]) h).1 (by rw [guard_append hg]; exact hok)
    exact ⟨ρ', by first | exact h1 | (rw [hd]; exact h1), h2⟩
   ·cases h
  ·rw [hno] at h
   simp only [Bool.false_eq_true, if_false] at h;have := (primT_run (guard_append' hg [D.undef]) h).2 (by rw [guard_append hg]; exact hno)
   simpa [List.replicate_succ] using this
theorem effT_run {g : Guard} {t : T} {r : Nat × List D} {eff : Eff} (hg : ∀ x want, g = some (x, want) → x.get ρ ≠ none) (h : run G fuel (effT g eff t) ρ = some r) :
  (g.ok ρ = true → ∃ ρ', effRun G ρ eff = some ρ' ∧ run G fuel t ρ' = some r) ∧ (g.ok ρ = false → run G fuel t (ρ ++ List.replicate (effLen eff) .undef) = some r) := by
 cases eff with
 | prims ps => exact primT_run hg h
 | call pre f xs m post =>
  simp only [effT] at h;obtain ⟨p1, p2⟩ := primT_run hg h;refine ⟨fun hok => ?_, fun hno => ?_⟩
  ·obtain ⟨ρ1, h1, h2⟩ := p1 hok
   obtain ⟨σ, rfl, _⟩ := pushAll_env h1;have hok1 : g.ok (ρ ++ σ) = true := by rw [guard_append hg]; exact hok
   simp only [run] at h2;rw [if_pos hok1] at h2;split at h2
   ·rename_i ds hds
    split at h2
    ·rename_i hm
     have hg1 := guard_append' (guard_append' hg σ) ds;obtain ⟨ρ', h3, h4⟩ := (primT_run hg1 h2).1 (by rw [guard_append (guard_append' hg σ)]; exact hok1)
     exact ⟨ρ', by simp only [effRun, h1, Option.bind_some, hds, hm, if_true]; exact h3, h4⟩
    ·cases h2
   ·cases h2
  ·have h2 := p2 hno
   have hno1 : g.ok (ρ ++ List.replicate pre.length .undef) = false := by rw [guard_append hg]; exact hno
   simp only [run] at h2;rw [hno1] at h2;simp only [Bool.false_eq_true, if_false] at h2;have hg1 := guard_append' (guard_append' hg (List.replicate pre.length .undef)) (List.replicate m .undef);have h3 := (primT_run hg1 h2).2 (by rw [guard_append (guard_append' hg _)]; exact hno1)
   rw [List.append_assoc, List.append_assoc, List.replicate_append_replicate, List.replicate_append_replicate, ← Nat.add_assoc] at h3;exact h3
theorem effRun_len {eff : Eff} {ρ ρ' : List D} (h : effRun G ρ eff = some ρ') : ∃ σ, ρ' = ρ ++ σ ∧ σ.length = effLen eff := by
 cases eff with
 | prims ps => exact pushAll_env h
 | call pre f xs m post =>
  simp only [effRun] at h
  cases hp : pushAll pre ρ with
  | none => rw [hp] at h; cases h
  | some ρ1 =>
   rw [hp, Option.bind_some] at h;obtain ⟨σ1, rfl, l1⟩ := pushAll_env hp;split at h
   ·rename_i ds _
    split at h
    ·rename_i hm
     obtain ⟨σ2, rfl, l2⟩ := pushAll_env h;exact ⟨σ1 ++ ds ++ σ2, by simp, by simp [effLen, l1, l2, hm]; omega⟩
    ·cases h
   ·cases h
theorem effRun_env {eff : Eff} {ρ' : List D} (h : effRun G ρ eff = some ρ') : ∃ σ, ρ' = ρ ++ σ := by
 obtain ⟨σ, e, _⟩ := effRun_len h
 exact ⟨σ, e⟩
theorem symOps_ok {E : Env} (hE : EnvOk E G) {ops : Array Oper} {Q : Exit → Act → World → Prop} {r : Nat × List D} : ∀ {os : List Oper} {S : SS} {k : SS → Res T} {t : T} {μ : Mu} {ρ : List D} {a : Act} {w : World},
  symOps E ops.toList os S k = .ok t → R X M w0 S μ ρ a w → run G fuel t ρ = some r →
  (∀ S' t' μ' σ a' w', k S' = .ok t' → R X M w0 S' μ' (ρ ++ σ) a' w' → run G fuel t' (ρ ++ σ) = some r → Q .normal a' w') → wpList E.P ops Q os a w
 | [], S, k, t, μ, ρ, a, w, h, hR, hr, hk => hk S t μ [] a w h (by simpa using hR) (by simpa using hr)
 | o :: os, S, k, t, μ, ρ, a, w, h, hR, hr, hk => by
  simp only [symOps, forceSS_eq] at h;obtain ⟨⟨S', g, eff, tch⟩, h1, h2⟩ := bind_ok h
  dsimp only at h2
  obtain ⟨t', h3, h4⟩ := bind_ok h2;simp only [Except.ok.injEq] at h4;subst h4;obtain ⟨hw, hgg, hno, hyes⟩ := sop_ok hE h1 hR;obtain ⟨e1, e2⟩ := effT_run hgg hr;unfold wpList
  cases hok : g.ok ρ with
  | true =>
   rw [hw, if_pos hok];obtain ⟨ρ', hρ', hrun⟩ := e1 hok;obtain ⟨σ, rfl⟩ := effRun_env hρ';refine .inl (hyes hok _ hρ' _ _ fun μ' a' w' hR' _ => ?_)
   exact symOps_ok hE h3 hR' hrun fun S'' t'' μ'' σ' a'' w'' hk1 hk2 hk3 => hk S'' t'' μ'' (σ ++ σ') a'' w'' hk1 (by simpa using hk2) (by simpa using hk3)
  | false =>
   rw [hw, hok];simp only [Bool.false_eq_true, if_false];exact symOps_ok hE h3 (hno hok).2.2 (e2 hok) fun S'' t'' μ'' σ' a'' w'' hk1 hk2 hk3 => hk S'' t'' μ'' (List.replicate (effLen eff) .undef ++ σ') a'' w'' hk1 (by simpa using hk2) (by simpa using hk3)
theorem chain_go {r : Rg} {rs : List Rec} {t : T} {res : Nat × List D} (hN : r.N = rs.length) (hg : ∀ i rc, rs[i]? = some rc → r.g i = rc.g ∧ r.eff i = rc.eff ∧ r.n (i + 1) = r.n i + effLen rc.eff ∧ gdB rc.g (r.n i) = true) :
  ∀ (m i : Nat) (ρi : List D), i + m = r.N → ρi.length = r.n i → run G fuel ((rs.drop i).foldr (fun r t => effT r.g r.eff t) t) ρi = some res →
   ∃ ρN, ρN.take (r.n i) = ρi ∧ ρN.length = r.n r.N ∧ r.n i ≤ r.n r.N ∧ run G fuel t ρN = some res ∧
    ∀ j, i ≤ j → j < r.N → ((r.g j).ok (ρN.take (r.n j)) = true → effRun G (ρN.take (r.n j)) (r.eff j) = some (ρN.take (r.n (j + 1)))) ∧
     ((r.g j).ok (ρN.take (r.n j)) = false → ρN.take (r.n (j + 1)) = ρN.take (r.n j) ++ List.replicate (effLen (r.eff j)) .undef)
 | 0, i, ρi, hi, hl, hr => by
  have : i = r.N := by omega
  subst this;rw [List.drop_of_length_le (by omega)] at hr
  exact ⟨ρi, by rw [← hl]; exact List.take_length, hl, Nat.le_refl _, hr, fun j h1 h2 => absurd h2 (by omega)⟩
 | m + 1, i, ρi, hi, hl, hr => by
  have hlt : i < rs.length := by omega
  rw [List.drop_eq_getElem_cons hlt, List.foldr_cons] at hr;obtain ⟨e1, e2, e3, e4⟩ := hg i rs[i] (List.getElem?_eq_getElem hlt);have hgg : ∀ x want, rs[i].g = some (x, want) → x.get ρi ≠ none := by
   intro x want he;rw [he] at e4
   cases x with
   | v k =>
    simp only [gdB, decide_eq_true_eq] at e4;simp only [Atom.get, ne_eq, List.getElem?_eq_none_iff, Nat.not_le];omega
   | c d => simp [gdB] at e4
  obtain ⟨g1, g2⟩ := effT_run hgg hr;have key : ∀ ρ', (∃ σ, ρ' = ρi ++ σ ∧ σ.length = effLen rs[i].eff) → run G fuel ((rs.drop (i + 1)).foldr (fun r t => effT r.g r.eff t) t) ρ' = some res →
    ((r.g i).ok ρi = true → effRun G ρi (r.eff i) = some ρ') → ((r.g i).ok ρi = false → ρ' = ρi ++ List.replicate (effLen (r.eff i)) .undef) → ∃ ρN, ρN.take (r.n i) = ρi ∧ ρN.length = r.n r.N ∧ r.n i ≤ r.n r.N ∧ run G fuel t ρN = some res ∧
    ∀ j, i ≤ j → j < r.N → ((r.g j).ok (ρN.take (r.n j)) = true → effRun G (ρN.take (r.n j)) (r.eff j) = some (ρN.take (r.n (j + 1)))) ∧
     ((r.g j).ok (ρN.take (r.n j)) = false → ρN.take (r.n (j + 1)) = ρN.take (r.n j) ++ List.replicate (effLen (r.eff j)) .undef) := by
   rintro ρ' ⟨σ, rfl, hσ⟩ hr' hyes hno
   obtain ⟨ρN, a1, a2, a3, a4, a5⟩ := chain_go hN hg m (i + 1) (ρi ++ σ) (by omega) (by rw [e3, List.length_append, hl, hσ]) hr'
   have hi1 : ρN.take (r.n i) = ρi := by
    have : ρN.take (r.n i) = (ρN.take (r.n (i + 1))).take (r.n i) := by rw [List.take_take, Nat.min_eq_left (by omega)]
    rw [this, a1, ← hl, List.take_left'];rfl
   refine ⟨ρN, hi1, a2, by omega, a4, fun j h1 h2 => ?_⟩
   rcases Nat.lt_or_eq_of_le h1 with h3 | rfl
   ·exact a5 j h3 h2
   ·rw [hi1, a1]
    exact ⟨hyes, hno⟩
  cases hok : rs[i].g.ok ρi with
  | true =>
   obtain ⟨ρ', h1, h2⟩ := g1 hok;exact key ρ' (effRun_len h1) h2 (fun _ => by rw [e2]; exact h1) (fun hn => by rw [e1, hok] at hn; cases hn)
  | false =>
   exact key _ ⟨_, rfl, by simp⟩ (g2 hok) (fun hy => by rw [e1, hok] at hy; cases hy) (fun _ => by rw [e2])
theorem symDraw_ok {E : Env} (hE : EnvOk E G) {id : Nat} {ops : Array Oper} {Q : Exit → Act → World → Prop} {r : Nat × List D} {k : SS → Res T} {t : T} (h : symDraw E ops.toList S k = .ok t) (hR : R X M w0 S μ ρ a w)
  (hr : run G fuel t ρ = some r) (hk : ∀ S' t' μ' σ a' w', k S' = .ok t' → R X M w0 S' μ' (ρ ++ σ) a' w' → run G fuel t' (ρ ++ σ) = some r → Q .normal a' w') : (Code.region id ops true).wp E.P Q a w := by
 unfold symDraw at h
 split at h
 ·rename_i hm
  obtain ⟨⟨tchs, lens⟩, h1, h2⟩ := bind_ok h
  dsimp only at h2
  obtain ⟨⟨rs, Z⟩, h3, h4⟩ := bind_ok h2
  dsimp only at h4
  generalize hH : ({ dsts := ops.toList.map (·.dst), tchs := tchs, lens := lens, masks := masksGo ops.toList [] 0 (fun l => l), soft := ops.toList.map isEntry } : Hint) = Hn at h3 h4
  split at h4
  case isFalse => cases h4
  rename_i hsf;obtain ⟨t', h5, h6⟩ := bind_ok h4;simp only [Except.ok.injEq] at h6;subst h6;have hn : Hn.N = ops.size := by rw [← hH]; simp [Hint.N]
  have hok := rg_ok h3 hn hsf;obtain ⟨q1, q2, q3, q4⟩ := rec_at h3;have hNr : (rgOf Hn rs Z).N = rs.length := rfl
  obtain ⟨ρN, a1, a2, a3, a4, a5⟩ := chain_go (G := G) (fuel := fuel) (r := rgOf Hn rs Z) (rs := rs) (t := t') (res := r) hNr (fun i rc hrc => by
   have hi : i < ops.size := by rw [← q1]; exact (List.getElem?_eq_some_iff.1 hrc).1
   have ho : ops[i]? = some ops[i] := by simp [hi]
   have hrec := q4 i _ ho;have hst := stepB_ok hrec.step;have e1 : (rgOf Hn rs Z).g i = rc.g := by simp [rgOf, hrc]
   have e2 : (rgOf Hn rs Z).eff i = rc.eff := by simp [rgOf, hrc]
   refine ⟨e1, e2, ?_, ?_⟩
   ·show ((rgOf Hn rs Z).A (i + 1)).n = _
    rw [hrec.next];show ((rgOf Hn rs Z).S' i).n = _;rw [hst.n, e2];rfl
   ·have := hrec.gd
    rw [e1] at this
    exact this) rs.length 0 ρ (by rw [hNr]; omega) (by show ρ.length = ((rgOf Hn rs Z).A 0).n; rw [q2]; exact hR.len) (by simpa using hr)
  have hR0 : R X M w0 ((rgOf Hn rs Z).A 0) μ (ρN.take ((rgOf Hn rs Z).n 0)) a w := by rw [q2, a1]; exact hR
  refine region_any_ok hE hok hm ⟨a2, fun i hi => a5 i (Nat.zero_le i) hi⟩ hR0 fun μ' a' w' hR' => ?_
  have hsplit : ρN = ρ ++ ρN.drop ((rgOf Hn rs Z).n 0) := by have := List.take_append_drop ((rgOf Hn rs Z).n 0) ρN;rw [a1] at this;exact this.symm
  rw [hNr, q3] at hR';rw [hsplit] at hR' a4;exact hk Z t' μ' _ a' w' h5 hR' a4
 ·cases h
theorem symRegion_ok {E : Env} (hE : EnvOk E G) {id : Nat} {ops : Array Oper} {d : Bool} {Q : Exit → Act → World → Prop} {r : Nat × List D} {k : SS → Res T} {t : T} (h : symRegion E ops.toList d S k = .ok t) (hR : R X M w0 S μ ρ a w)
  (hr : run G fuel t ρ = some r) (hk : ∀ S' t' μ' σ a' w', k S' = .ok t' → R X M w0 S' μ' (ρ ++ σ) a' w' → run G fuel t' (ρ ++ σ) = some r → Q .normal a' w') : (Code.region id ops d).wp E.P Q a w := by
 unfold symRegion at h
 split at h
 ·rename_i hd
  subst hd;exact symDraw_ok hE h hR hr hk
 ·rename_i hd
  have : d = false := by simpa using hd
  subst this;exact wp_region_list (symOps_ok hE h hR hr hk)
theorem up_ok {K : KX} {e : XK} {S : SS} {l : Nat} {xs : List Atom} (h : K.up e S = .ok (l, xs)) : ∃ l', l = l' + 1 ∧ K e S = .ok (l', xs) := by
 unfold KX.up at h
 obtain ⟨⟨l', xs'⟩, h1, h2⟩ := bind_ok h
 simp only [Except.ok.injEq, Prod.mk.injEq] at h2
 obtain ⟨rfl, rfl⟩ := h2
 exact ⟨l', rfl, h1⟩
theorem symCode_ok {E : Env} (hE : EnvOk E G) : ∀ (c : Code) {h : H} {S : SS} {K : KX} {k : SS → Res T} {t : T} {μ : Mu} {ρ : List D} {a : Act} {w : World} {Q : Exit → Act → World → Prop} {r : Nat × List D},
  symCode E c h S K k = .ok t → R X M w0 S μ ρ a w → run G fuel t ρ = some r →
  (∀ S' t' μ' σ a' w', k S' = .ok t' → R X M w0 S' μ' (ρ ++ σ) a' w' → run G fuel t' (ρ ++ σ) = some r → Q .normal a' w') →
  (∀ e S' l xs μ' σ a' w', K e S' = .ok (l, xs) → R X M w0 S' μ' (ρ ++ σ) a' w' → r = (l, evs (ρ ++ σ) xs) → Q e.toExit a' w') →
  c.wp E.P Q a w
 | .skip, h, S, K, k, t, μ, ρ, a, w, Q, r, hs, hR, hr, hk, _ => wp_skip (hk S t μ [] a w hs (by simpa using hR) (by simpa using hr))
 | .region id ops d, h, S, K, k, t, μ, ρ, a, w, Q, r, hs, hR, hr, hk, _ => symRegion_ok hE hs hR hr hk
 | .seq x y, h, S, K, k, t, μ, ρ, a, w, Q, r, hs, hR, hr, hk, hK => by
  refine wp_seq ?_;refine symCode_ok hE x hs hR hr (fun S' t' μ' σ a' w' h1 h2 h3 => ?_) (fun e S' l xs μ' σ a' w' h1 h2 h3 => ?_)
  ·exact symCode_ok hE y h1 h2 h3 (fun S'' t'' μ'' σ' a'' w'' g1 g2 g3 => hk S'' t'' μ'' (σ ++ σ') a'' w'' g1 (by simpa using g2) (by simpa using g3))
    (fun e S'' l xs μ'' σ' a'' w'' g1 g2 g3 => hK e S'' l xs μ'' (σ ++ σ') a'' w'' g1 (by simpa using g2) (by simpa using g3))
  ·have := hK e S' l xs μ' σ a' w' h1 h2 h3
   cases e <;> exact this
 | .cond c x y, h, S, K, k, t, μ, ρ, a, w, Q, r, hs, hR, hr, hk, hK => by
  simp only [symCode] at hs;obtain ⟨s, h1, h2⟩ := bind_ok hs;split at h2
  ·rename_i v
   obtain ⟨b, hb, hv⟩ := rd_bool (getSV_ok h1 hR.slots);split at h2
   ·rename_i hj
    obtain ⟨t1, h3, h4⟩ := bind_ok h2;obtain ⟨t2, h5, h6⟩ := bind_ok h4;simp only [Except.ok.injEq] at h6;subst h6;simp only [run, Atom.ev_of_get hv] at hr;refine wp_cond hb ?_
    cases b with
    | true => exact symCode_ok hE x h3 hR hr hk hK
    | false => exact symCode_ok hE y h5 hR hr hk hK
   ·rename_i j hj
    obtain ⟨t1, h3, h4⟩ := bind_ok h2;obtain ⟨t2, h5, h6⟩ := bind_ok h4;obtain ⟨t3, h7, h8⟩ := bind_ok h6;simp only [Except.ok.injEq] at h8;subst h8;simp only [run, Atom.ev_of_get hv] at hr;refine wp_cond hb ?_
    have key : ∀ (z : Code) (tz : T) (hz : H), (∀ {h : H} {S : SS} {K : KX} {k : SS → Res T} {t : T} {μ : Mu} {ρ : List D} {a : Act} {w : World} {Q : Exit → Act → World → Prop} {r : Nat × List D},
      symCode E z h S K k = .ok t → R X M w0 S μ ρ a w → run G fuel t ρ = some r →
      (∀ S' t' μ' σ a' w', k S' = .ok t' → R X M w0 S' μ' (ρ ++ σ) a' w' → run G fuel t' (ρ ++ σ) = some r → Q .normal a' w') →
      (∀ e S' l xs μ' σ a' w', K e S' = .ok (l, xs) → R X M w0 S' μ' (ρ ++ σ) a' w' → r = (l, evs (ρ ++ σ) xs) → Q e.toExit a' w') → z.wp E.P Q a w) →
      symCode E z hz S K.up (fun S' => do let θ ← fill S.n S.heap.length (mkJ S j) S'; Except.ok (.out 0 θ)) = .ok tz →
      (match run G fuel tz ρ with | some (0, ds) => if ds.length = j.m then run G fuel t3 (ρ ++ ds) else none | some (l + 1, ds) => some (l, ds) | none => none) = some r → z.wp E.P Q a w := by
     intro z tz hz ih hs' hr';split at hr'
     ·rename_i ds hrt
      split at hr'
      ·refine ih hs' hR hrt (fun S' t' μ' σ a' w' g1 g2 g3 => ?_) (fun e S' l xs μ' σ a' w' g1 g2 g3 => ?_)
       ·obtain ⟨θ, f1, f2⟩ := bind_ok g1
        simp only [Except.ok.injEq] at f2;subst f2;simp only [run, Option.some.injEq, Prod.mk.injEq, true_and] at g3;obtain ⟨μ'', hR'⟩ := fill_ok f1 g2 fun β v hv => (hR.anc β v hv).1
        rw [g3] at hR';have : (ρ ++ σ).take S.n = ρ := by rw [← hR.len]; simp
        rw [this] at hR';exact hk _ _ μ'' ds a' w' h7 hR' hr'
       ·obtain ⟨l', rfl, _⟩ := up_ok g1
        simp at g3
      ·cases hr'
     ·rename_i l ds hrt
      simp only [Option.some.injEq] at hr';subst hr';refine ih hs' hR hrt (fun S' t' μ' σ a' w' g1 g2 g3 => ?_) (fun e S' l xs μ' σ a' w' g1 g2 g3 => ?_)
      ·obtain ⟨θ, f1, f2⟩ := bind_ok g1
       simp only [Except.ok.injEq] at f2;subst f2;simp [run] at g3
      ·obtain ⟨l', rfl, f1⟩ := up_ok g1
       simp only [Prod.mk.injEq] at g3;exact hK e S' l' xs μ' σ a' w' f1 g2 (by rw [Nat.succ.inj g3.1, g3.2])
     ·cases hr'
    cases b with
    | true => exact key x t1 h.l (fun a b c d e => symCode_ok hE x a b c d e) h3 hr
    | false => exact key y t2 h.r (fun a b c d e => symCode_ok hE y a b c d e) h5 hr
  ·cases h2
 | .block id body, h, S, K, k, t, μ, ρ, a, w, Q, r, hs, hR, hr, hk, hK => by
  simp only [symCode] at hs;refine wp_block ?_;split at hs
  ·refine symCode_ok hE body hs hR hr hk (fun e S' l xs μ' σ a' w' g1 g2 g3 => ?_)
   split at g1
   ·cases g1
   ·rename_i hne
    have := hK e S' l xs μ' σ a' w' g1 g2 g3
    cases e with
    | ret => exact this
    | exit id' =>
     simp only [XK.toExit, Exit.inBlock];rw [if_neg (fun e => hne (by rw [e]))]
     exact this
  ·rename_i j hj
   obtain ⟨t1, h3, h4⟩ := bind_ok hs;obtain ⟨t3, h7, h8⟩ := bind_ok h4;simp only [Except.ok.injEq] at h8;subst h8;simp only [run] at hr;have meet : ∀ {S' : SS} {θ : List Atom} {μ' : Mu} {σ ds : List D} {a' : Act} {w' : World}, fill S.n S.heap.length (mkJ S j) S' = .ok θ → R X M w0 S' μ' (ρ ++ σ) a' w' → evs (ρ ++ σ) θ = ds → run G fuel t3 (ρ ++ ds) = some r → Q .normal a' w' := by
    intro S' θ μ' σ ds a' w' f1 g2 g3 hr';obtain ⟨μ'', hR'⟩ := fill_ok f1 g2 fun β v hv => (hR.anc β v hv).1
    rw [g3] at hR';have : (ρ ++ σ).take S.n = ρ := by rw [← hR.len]; simp
    rw [this] at hR';exact hk _ _ μ'' ds a' w' h7 hR' hr'
   split at hr
   ·rename_i ds hrt
    split at hr
    ·refine symCode_ok hE body h3 hR hrt (fun S' t' μ' σ a' w' g1 g2 g3 => ?_) (fun e S' l xs μ' σ a' w' g1 g2 g3 => ?_)
     ·obtain ⟨θ, f1, f2⟩ := bind_ok g1
      simp only [Except.ok.injEq] at f2;subst f2;simp only [run, Option.some.injEq, Prod.mk.injEq, true_and] at g3;exact meet f1 g2 g3 hr
     ·split at g1
      ·rename_i he
       subst he;obtain ⟨θ, f1, f2⟩ := bind_ok g1;simp only [Except.ok.injEq, Prod.mk.injEq] at f2;obtain ⟨rfl, rfl⟩ := f2;simp only [Prod.mk.injEq, true_and] at g3;simp only [XK.toExit, Exit.inBlock, if_true];exact meet f1 g2 g3.symm hr
      ·obtain ⟨l', rfl, _⟩ := up_ok g1
       simp at g3
    ·cases hr
   ·rename_i l ds hrt
    simp only [Option.some.injEq] at hr;subst hr;refine symCode_ok hE body h3 hR hrt (fun S' t' μ' σ a' w' g1 g2 g3 => ?_) (fun e S' l xs μ' σ a' w' g1 g2 g3 => ?_)
    ·obtain ⟨θ, f1, f2⟩ := bind_ok g1
     simp only [Except.ok.injEq] at f2;subst f2;simp [run] at g3
    ·split at g1
     ·obtain ⟨θ, f1, f2⟩ := bind_ok g1
      simp only [Except.ok.injEq, Prod.mk.injEq] at f2;obtain ⟨rfl, rfl⟩ := f2;simp at g3
     ·rename_i hne
      obtain ⟨l', rfl, f1⟩ := up_ok g1;simp only [Prod.mk.injEq] at g3;have := hK e S' l' xs μ' σ a' w' f1 g2 (by rw [Nat.succ.inj g3.1, g3.2])
      cases e with
      | ret => exact this
      | exit id' =>
       simp only [XK.toExit, Exit.inBlock];rw [if_neg (fun e => hne (by rw [e]))]
       exact this
   ·cases hr
 | .loop body, h, S, K, k, t, μ, ρ, a, w, Q, r, hs, hR, hr, hk, hK => by
  simp only [symCode] at hs;split at hs
  ·cases hs
  ·rename_i j hj
   obtain ⟨θ, h3, h4⟩ := bind_ok hs;obtain ⟨b, h5, h6⟩ := bind_ok h4;simp only [Except.ok.injEq] at h6;subst h6;simp only [run] at hr;have rounds : ∀ (n : Nat) (ds : List D) (μ : Mu) (a : Act) (w : World), R X M w0 (mkJ S j) μ (ρ ++ ds) a w →
     iter (fun ds => if ds.length = θ.length then run G fuel b (ρ ++ ds) else none) n ds = some r → Code.rounds E.P body Q n a w := by
    intro n
    induction n with
    | zero => intro ds μ a w _ hi; simp [iter] at hi
    | succ n ih =>
     intro ds μ a w hRl hi;simp only [iter] at hi;rw [rounds_succ];split at hi
     ·rename_i ds' hb
      split at hb
      ·refine symCode_ok hE body h5 hRl hb (fun S' t' μ' σ a' w' g1 g2 g3 => ?_) (fun e S' l xs μ' σ a' w' g1 g2 g3 => ?_)
       ·obtain ⟨θ', f1, f2⟩ := bind_ok g1
        split at f2
        ·simp only [Except.ok.injEq] at f2
         subst f2;simp only [run, Option.some.injEq, Prod.mk.injEq, true_and] at g3;obtain ⟨μ'', hR'⟩ := fill_ok f1 g2 fun β v hv => (hR.anc β v hv).1
         rw [g3] at hR';have : (ρ ++ ds ++ σ).take S.n = ρ := by rw [← hR.len]; simp
         rw [this] at hR';exact ih ds' μ'' a' w' hR' hi
        ·cases f2
       ·obtain ⟨l', rfl, _⟩ := up_ok g1
        simp at g3
      ·cases hb
     ·rename_i l ds' hb
      simp only [Option.some.injEq] at hi;subst hi;split at hb
      ·refine symCode_ok hE body h5 hRl hb (fun S' t' μ' σ a' w' g1 g2 g3 => ?_) (fun e S' l xs μ' σ a' w' g1 g2 g3 => ?_)
       ·obtain ⟨θ', f1, f2⟩ := bind_ok g1
        split at f2
        ·simp only [Except.ok.injEq] at f2
         subst f2;simp [run] at g3
        ·cases f2
       ·obtain ⟨l', rfl, f1⟩ := up_ok g1
        simp only [Prod.mk.injEq] at g3;have := hK e S' l' xs μ' (ds ++ σ) a' w' f1 (by simpa using g2) (by rw [Nat.succ.inj g3.1, g3.2]; simp)
        cases e <;> exact this
      ·cases hb
     ·cases hi
   obtain ⟨μ', hR'⟩ := fill_ok h3 hR fun β v hv => (hR.anc β v hv).1
   have : ρ.take S.n = ρ := by rw [← hR.len]; simp
   rw [this] at hR';exact wp_loop_rounds fuel (rounds fuel _ μ' a w hR' hr)
 | .ret, h, S, K, k, t, μ, ρ, a, w, Q, r, hs, hR, hr, _, hK => by simp only [symCode] at hs;obtain ⟨⟨l, xs⟩, h1, h2⟩ := bind_ok hs;simp only [Except.ok.injEq] at h2;subst h2;simp only [run, Option.some.injEq] at hr;exact wp_ret (hK .ret S l xs μ [] a w h1 (by simpa using hR) (by simpa using hr.symm))
 | .exit id, h, S, K, k, t, μ, ρ, a, w, Q, r, hs, hR, hr, _, hK => by simp only [symCode] at hs;obtain ⟨⟨l, xs⟩, h1, h2⟩ := bind_ok hs;simp only [Except.ok.injEq] at h2;subst h2;simp only [run, Option.some.injEq] at hr;exact wp_exit (hK (.exit id) S l xs μ [] a w h1 (by simpa using hR) (by simpa using hr.symm))
 | .rangeFunc .., h, S, K, k, t, μ, ρ, a, w, Q, r, hs, _, _, _, _ => by simp [symCode] at hs
 | .scope _, h, S, K, k, t, μ, ρ, a, w, Q, r, hs, _, _, _, _ => by simp [symCode] at hs
 | .label _, h, S, K, k, t, μ, ρ, a, w, Q, r, hs, _, _, _, _ => by simp [symCode] at hs
 | .goto _, h, S, K, k, t, μ, ρ, a, w, Q, r, hs, _, _, _, _ => by simp [symCode] at hs
 | .refuse _, h, S, K, k, t, μ, ρ, a, w, Q, r, hs, _, _, _, _ => by simp [symCode] at hs
end
end Vs

namespace Vs
open Go Go.RowKit
def cellsAt : Nat → Nat → List PC → List FC × List SB
 | _, _, [] => ([], [])
 | n, h, .rd t :: r => let p := cellsAt (n + 1) h r; (.d t (.v n) :: p.1, p.2)
 | n, h, .mt k _ :: r => let p := cellsAt (n + 1) (h + 1) r; (k.fc h :: p.1, k.sb 0 (.v n) :: p.2)
def capsAt : Nat → Nat → List (List PC) → List CV0 × List SB
 | _, _, [] => ([], [])
 | n, h, ts :: r => let p := cellsAt n h ts; let q := capsAt (n + ts.length) (h + p.2.length) r; (.fcel p.1 0 :: q.1, p.2 ++ q.2)
def capCount : List (List PC) → Nat
 | [] => 0
 | ts :: r => ts.length + capCount r
def initP : List PK → Nat → Nat → List SV × List SB
 | [], _, _ => ([], [])
 | .val ag ts :: ps, n, h => let p := cellsAt n h ts; let q := initP ps (n + ts.length) (h + p.2.length); ((if ag then .agg (p.1.map FC.cv) else match p.1 with | [x] => .c x.cv | _ => SV.undef) :: q.1, p.2 ++ q.2)
 | .ptr ts :: ps, n, h => let p := cellsAt n h ts; let q := initP ps (n + ts.length) (h + p.2.length); (.c (.s (.fcel p.1 0)) :: q.1, p.2 ++ q.2)
 | .fn f caps :: ps, n, h => let p := capsAt n h caps; let q := initP ps (n + capCount caps) (h + p.2.length); (.c (.fn f p.1) :: q.1, p.2 ++ q.2)
def initCount : List PK → Nat
 | [] => 0
 | .val _ ts :: ps => ts.length + initCount ps
 | .ptr ts :: ps => ts.length + initCount ps
 | .fn _ caps :: ps => capCount caps + initCount ps
def initSS (ps : List PK) (ntmps : Nat) : SS := { n := initCount ps, slots := (initP ps 0 0).1 ++ List.replicate (ntmps - ps.length) SV.undef, heap := (initP ps 0 0).2 }
def handsC : List PC → List (MK × Bool)
 | [] => []
 | .rd _ :: r => handsC r
 | .mt k keep :: r => (k, keep) :: handsC r
def handsP : List PK → List (MK × Bool)
 | [] => []
 | .val _ ts :: r => handsC ts ++ handsP r
 | .ptr ts :: r => handsC ts ++ handsP r
 | .fn _ caps :: r => caps.flatMap handsC ++ handsP r
def resCell (S : SS) : RK → CV → Res (Atom × Option Nat)
 | .cell t, .s (.dat t' x) => if t' = .b t then .ok (x, none) else .error "result cell"
 | .own k, .s (.own β) =>
  match S.heap[β]?, k with
  | some (.row t' e' x), .row t e => if t = t' ∧ e = e' then .ok (x, some β) else .error "result row"
  | some (.rows et' f' e' _ x), .rows et f e => if et = et' ∧ f = f' ∧ e = e' then .ok (x, some β) else .error "result rows"
  | _, _ => .error "result block"
 | .own (.map m), .s (.omap β) =>
  match S.heap[β]? with
  | some (.map m' _ x none) => if m = m' then .ok (x, some β) else .error "result map"
  | _ => .error "result map block"
 | .own (.row (.s1 et) e), .s (.rref β ver d _ y) =>
  match rowsNow S β ver d with
  | some (et', e') => if et = et' ∧ e = e' then .ok (y, some β) else .error "result row of rows"
  | none => .error "result of rows"
 | .own (.row (.s1 _) _), .s .nils => .ok (.c (.lst []), none)
 | .own (.rows _ _ _), .s .nils => .ok (.c (.lst []), none)
 | .own (.row (.s2 _) _), .s .nils => .ok (.c (.lst []), none)
 | .own (.box ts), .s (.vptr β off) =>
  match S.heap[β]? with
  | some (.bx ts' x) => if ts = ts' ∧ off = 0 then .ok (x, some β) else .error "result box"
  | _ => .error "result box block"
 | _, _ => .error "result"
def keptA (S : SS) : Nat → List (MK × Bool) → Res (List Atom × List (Option Nat))
 | _, [] => .ok ([], [])
 | β, (k, keep) :: r =>
  if keep = true then do
   let (x, o) ← resCell S (.own k) (match k with | .box _ => .s (.vptr β 0) | _ => .s (.own β))
   let (xs, os) ← keptA S (β + 1) r
   .ok (x :: xs, o :: os)
  else keptA S (β + 1) r
def resCellsA (S : SS) : List RK → List CV → Res (List Atom × List (Option Nat))
 | [], [] => .ok ([], [])
 | r :: rs, c :: cs => do
  let (x, o) ← resCell S r c
  let (xs, os) ← resCellsA S rs cs
  .ok (x :: xs, (match r with | .own _ => o :: os | .cell _ => os))
 | _, _ => .error "results"
def resVarS (P : Program) (S : SS) : ResultVar → Res (Bool × List CV)
 | .tmp t => do
  let s ← need S.slots[t]? "result slot"
  need (svCells s) "result value"
 | .cell p t => do
  let agg ← need (isAggB P t) "result type"
  let sz ← need (sizeB P t) "result size"
  match S.slots[p]? with
  | some (.c (.s (.vptr β off))) =>
   match S.heap[β]? with
   | some (.var cs) =>
    let part := (cs.drop off).take sz
    if part.length = sz ∧ 0 < sz ∧ (agg = true ∨ sz = 1) then .ok (agg, part) else .error "result part"
   | _ => .error "result variable"
  | _ => .error "result pointer"
def retAll (P : Program) (S : SS) : List (Bool × List RK) → List ResultVar → Res (List Atom × List (Option Nat))
 | [], [] => .ok ([], [])
 | (ag, rks) :: rs, r :: vs => do
  let (ag', cs) ← resVarS P S r
  if ag = ag' then do
   let (xs, os) ← resCellsA S rks cs
   let (ys, ps) ← retAll P S rs vs
   .ok (xs ++ ys, os ++ ps)
  else .error "result shape"
 | _, _ => .error "number of results"
def retAtoms (P : Program) (S : SS) (sg : Sig) (vs : List ResultVar) : Res (List Atom) := do
 let (xs, os) ← retAll P S sg.results vs
 let (ys, ps) ← keptA S 0 (handsP sg.params)
 if ((os ++ ps).filterMap id).Nodup then .ok (xs ++ ys) else .error "an own row twice in a result"
def symFun (E : Env) (fn : Func) (c : Code) (sg : Sig) (h : H) : Res T :=
 symCode E c h (initSS sg.params fn.ntmps) (fun e S => match e with | .ret => (do let xs ← retAtoms E.P S sg fn.results.toList; .ok (0, xs)) | .exit _ => .error "exit")
  (fun S => do let xs ← retAtoms E.P S sg fn.results.toList; .ok (.out 0 xs))
section
variable {P : Program} {X : Nat → Prop} {M : Hand} {w0 w : World} {S : SS} {μ : Mu} {ρ : List D} {a : Act}
theorem OwnK.fcv {F F2 : Nat → Prop} {hl : Nat} {k : MK} {m : MV} {d : D} {h : Nat} (hk : OwnK w F k m d) (hs : k.arg = true) (hh : h < hl) (hμ : μ h = m) : CVR w F2 hl μ ρ (k.fc h).cv m.v := by
 cases k with
 | row t e => obtain ⟨_, n, xs, ls, h1, _⟩ := hk; obtain ⟨a, cap, e⟩ := ownsRow_slice h1; exact ⟨hh, by rw [hμ], a, n, cap, by rw [hμ]; exact e⟩
 | rows et e' e => obtain ⟨_, n, ls, h1, _⟩ := hk; obtain ⟨a, cap, e⟩ := ownsRow_slice h1; exact ⟨hh, by rw [hμ], a, n, cap, by rw [hμ]; exact e⟩
 | map mk => cases hs
 | box ts => obtain ⟨_, b, arr, T, ds, h1, _⟩ := hk; exact ⟨hh, b, by rw [hμ]; exact h1, h1⟩
def BlocksR (w : World) (F : Nat → Prop) (ρ : List D) (sbs : List SB) (ms : List HM) : Prop :=
 sbs.length = ms.length ∧ ∀ (j : Nat) sb m, sbs[j]? = some sb → ms[j]? = some m → ∃ x d, sb = m.k.sb 0 x ∧ x.get ρ = some d ∧ OwnK w F m.k m.m d
theorem BlocksR.append {F : Nat → Prop} {a b : List SB} {m k : List HM} (h : BlocksR w F ρ a m) (h' : BlocksR w F ρ b k) : BlocksR w F ρ (a ++ b) (m ++ k) := by
 refine ⟨by simp [h.1, h'.1], fun j sb x hj hx => ?_⟩
 rcases Nat.lt_or_ge j a.length with hlt | hge
 ·rw [List.getElem?_append_left hlt] at hj
  rw [List.getElem?_append_left (by rw [← h.1]; exact hlt)] at hx
  exact h.2 j sb x hj hx
 ·rw [List.getElem?_append_right hge] at hj
  rw [List.getElem?_append_right (by rw [← h.1]; exact hge), ← h.1] at hx
  exact h'.2 _ sb x hj hx
def MuAt (μ : Mu) (h : Nat) (ms : List HM) : Prop := ∀ (j : Nat) m, ms[j]? = some m → μ (h + j) = m.m
theorem MuAt.left {h : Nat} {a b : List HM} (hm : MuAt μ h (a ++ b)) : MuAt μ h a := fun j m hj => hm j m (by rw [List.getElem?_append_left (List.getElem?_eq_some_iff.1 hj).1]; exact hj)
theorem MuAt.right {h : Nat} {a b : List HM} (hm : MuAt μ h (a ++ b)) : MuAt μ (h + a.length) b := fun j m hj => by
 have := hm (a.length + j) m (by rw [List.getElem?_append_right (by omega)]; simpa using hj)
 rwa [← Nat.add_assoc] at this
theorem cellsAt_ok {F : Nat → Prop} {hl : Nat} : ∀ {ts : List PC} {vs : List Value} {d0 d1 d2 : List D} {ms : List HM} {h : Nat}, ArgCs w F ts vs d1 ms → MuAt μ h ms → h + ms.length ≤ hl →
  CVRs w F hl μ (d0 ++ d1 ++ d2) ((cellsAt d0.length h ts).1.map FC.cv) vs ∧ BlocksR w F (d0 ++ d1 ++ d2) (cellsAt d0.length h ts).2 ms ∧ d1.length = ts.length ∧ handsC ts = ms.map fun m => (m.k, m.keep)
 | [], [], d0, d1, d2, ms, h, ⟨e1, e2⟩, _, _ => by subst e1 e2;exact ⟨trivial, ⟨rfl, by simp [cellsAt]⟩, rfl, rfl⟩
 | t :: ts, v :: vs, d0, d1, d2, ms, h, ⟨d, dd, m1, m2, e1, e2, h1, h2⟩, hm, hle => by
  subst e1 e2
  cases t with
  | rd t =>
   obtain ⟨rfl, hr⟩ := h1;obtain ⟨i1, i2, i3, i4⟩ := cellsAt_ok (hl := hl) (d0 := d0 ++ [d]) (d2 := d2) (h := h) h2 (by simpa using hm) (by simpa using hle)
   simp only [List.length_append, List.length_cons, List.length_nil] at i1 i2;refine ⟨⟨⟨d, by simp [Atom.get], hr⟩, by simpa using i1⟩, by simpa [cellsAt] using i2, by simp [i3], by simp [handsC, i4]⟩
  | mt k keep =>
   obtain ⟨m, rfl, rfl, hk, hks⟩ := h1;have hmu : μ h = m := by simpa using hm 0 _ rfl
   obtain ⟨i1, i2, i3, i4⟩ := cellsAt_ok (hl := hl) (d0 := d0 ++ [d]) (d2 := d2) (h := h + 1) h2 hm.right (by simp at hle; omega)
   simp only [List.length_append, List.length_cons, List.length_nil] at i1 i2;refine ⟨⟨hk.fcv hks (by simp at hle; omega) hmu, by simpa using i1⟩, ?_, by simp [i3], by simp [handsC, i4]⟩
   refine BlocksR.append (a := [k.sb 0 (.v d0.length)]) (m := [⟨m, k, keep⟩]) ⟨rfl, fun j sb x hj hx => ?_⟩ (by simpa using i2)
   cases j with
   | zero =>
    simp only [List.getElem?_cons_zero, Option.some.injEq] at hj hx;subst hj hx;exact ⟨_, d, rfl, by simp [Atom.get], hk⟩
   | succ j => simp at hj
theorem capsAt_ok {F : Nat → Prop} {hl : Nat} : ∀ {tss : List (List PC)} {vs : List Value} {d0 d1 d2 : List D} {ms : List HM} {h : Nat}, CapsR w F tss vs d1 ms → MuAt μ h ms → h + ms.length ≤ hl →
  vs.length = (capsAt d0.length h tss).1.length ∧ (∀ (j : Nat) c u, (capsAt d0.length h tss).1[j]? = some c → vs[j]? = some u → CVR0 w F hl μ (d0 ++ d1 ++ d2) c u) ∧ BlocksR w F (d0 ++ d1 ++ d2) (capsAt d0.length h tss).2 ms ∧
   d1.length = capCount tss ∧ tss.flatMap handsC = ms.map fun m => (m.k, m.keep)
 | [], [], d0, d1, d2, ms, h, ⟨e1, e2⟩, _, _ => by subst e1 e2;exact ⟨rfl, by simp [capsAt], ⟨rfl, by simp [capsAt]⟩, rfl, rfl⟩
 | ts :: tss, v :: vs, d0, d1, d2, ms, h, ⟨da, db, m1, m2, e1, e2, h1, h2⟩, hm, hle => by
  subst e1 e2;obtain ⟨b, o, us, rfl, hb, hcell, hc⟩ := h1;simp only [List.length_append] at hle;obtain ⟨i1, i2, i3, i4⟩ := cellsAt_ok (hl := hl) (d0 := d0) (d2 := db ++ d2) (h := h) hc hm.left (by omega)
  have hbl := i2.1;obtain ⟨j1, j2, j3, j4, j5⟩ := capsAt_ok (hl := hl) (d0 := d0 ++ da) (d2 := d2) (h := h + m1.length) h2 hm.right (by omega)
  rw [List.length_append, i3, ← hbl] at j1 j2 j3;refine ⟨by simp [capsAt, j1], fun j c u hj hu => ?_, ?_, by simp [capCount, i3, j4], by simp [i4, j5]⟩
  ·cases j with
   | zero =>
    simp only [capsAt, List.getElem?_cons_zero, Option.some.injEq] at hj hu;subst hj hu;refine ⟨b, o, rfl, hb, fun j c hj => ?_⟩
    obtain ⟨u, hu, hr⟩ := i1.get (j := j) (c := c.cv) (by rw [List.getElem?_map, hj]; rfl)
    exact ⟨u, hcell j u hu, FCR_cv.2 (by simpa using hr)⟩
   | succ j =>
    simp only [capsAt, List.getElem?_cons_succ] at hj hu;simpa using j2 j c u hj hu
  ·exact BlocksR.append (by simpa using i2) (by simpa using j3)
theorem initP_ok {F : Nat → Prop} {hl : Nat} : ∀ {ps : List PK} {vs : List Value} {d0 ds : List D} {ms : List HM} {h : Nat}, ArgsR w F ps vs ds ms → MuAt μ h ms → h + ms.length ≤ hl →
  (initP ps d0.length h).1.length = ps.length ∧ vs.length = ps.length ∧ ds.length = initCount ps ∧ BlocksR w F (d0 ++ ds) (initP ps d0.length h).2 ms ∧ handsP ps = ms.map (fun m => (m.k, m.keep)) ∧
  ∀ (i : Nat) s, (initP ps d0.length h).1[i]? = some s → ∃ v, vs[i]? = some v ∧ SVR w F hl μ (d0 ++ ds) s v
 | [], [], d0, ds, ms, h, ⟨e1, e2⟩, _, _ => by subst e1 e2;exact ⟨rfl, rfl, rfl, ⟨rfl, by simp [initP]⟩, rfl, by simp [initP]⟩
 | .val ag ts :: ps, v :: vs, d0, ds, ms, h, ⟨d1, d2, m1, m2, e1, e2, hv, hr⟩, hm, hle => by
  subst e1 e2;simp only [List.length_append] at hle;have hcs : ∃ us, ArgCs w F ts us d1 m1 ∧ (∀ {cs : List FC}, CVRs w F hl μ (d0 ++ (d1 ++ d2)) (cs.map FC.cv) us → SVR w F hl μ (d0 ++ (d1 ++ d2)) (if ag then .agg (cs.map FC.cv) else match cs with | [x] => .c x.cv | _ => SV.undef) v) := by
   cases ag with
   | true => obtain ⟨arr, rfl, hc⟩ := hv; exact ⟨_, hc, fun h => ⟨arr, rfl, h⟩⟩
   | false =>
    refine ⟨[v], hv, fun {cs} h => ?_⟩
    cases cs with
    | nil => trivial
    | cons c cs => cases cs with
     | nil => exact h.1
     | cons _ _ => trivial
  obtain ⟨us, hc, hfin⟩ := hcs;obtain ⟨i1, i2, i3, i4⟩ := cellsAt_ok (hl := hl) (d0 := d0) (d2 := d2) (h := h) hc hm.left (by omega)
  have hbl := i2.1;obtain ⟨j1, j2, j3, j4, j5, j6⟩ := initP_ok (hl := hl) (d0 := d0 ++ d1) (h := h + m1.length) hr hm.right (by omega)
  rw [List.length_append, i3, ← hbl] at j1 j4 j6;refine ⟨by simp [initP, j1], by simp [j2], by simp [initCount, j3, i3], BlocksR.append (by simpa using i2) (by simpa using j4), by simp [handsP, i4, j5], fun i s hi => ?_⟩
  cases i with
  | zero =>
   simp only [initP, List.getElem?_cons_zero, Option.some.injEq] at hi;subst hi;exact ⟨v, rfl, hfin (by simpa using i1)⟩
  | succ i =>
   simp only [initP, List.getElem?_cons_succ] at hi ⊢;obtain ⟨u, hu, hs⟩ := j6 i s hi;exact ⟨u, hu, by simpa using hs⟩
 | .ptr ts :: ps, v :: vs, d0, ds, ms, h, ⟨d1, d2, m1, m2, e1, e2, hv, hr⟩, hm, hle => by
  subst e1 e2;simp only [List.length_append] at hle;obtain ⟨b, o, us, rfl, hb, hcell, hc⟩ := hv;obtain ⟨i1, i2, i3, i4⟩ := cellsAt_ok (hl := hl) (d0 := d0) (d2 := d2) (h := h) hc hm.left (by omega)
  have hbl := i2.1;obtain ⟨j1, j2, j3, j4, j5, j6⟩ := initP_ok (hl := hl) (d0 := d0 ++ d1) (h := h + m1.length) hr hm.right (by omega)
  rw [List.length_append, i3, ← hbl] at j1 j4 j6;refine ⟨by simp [initP, j1], by simp [j2], by simp [initCount, j3, i3], BlocksR.append (by simpa using i2) (by simpa using j4), by simp [handsP, i4, j5], fun i s hi => ?_⟩
  cases i with
  | zero =>
   simp only [initP, List.getElem?_cons_zero, Option.some.injEq] at hi;subst hi;refine ⟨_, rfl, b, o, rfl, hb, fun j c hj => ?_⟩
   obtain ⟨u, hu, hr⟩ := i1.get (j := j) (c := c.cv) (by rw [List.getElem?_map, hj]; rfl)
   exact ⟨u, hcell j u hu, FCR_cv.2 (by simpa using hr)⟩
  | succ i =>
   simp only [initP, List.getElem?_cons_succ] at hi ⊢;obtain ⟨u, hu, hs⟩ := j6 i s hi;exact ⟨u, hu, by simpa using hs⟩
 | .fn f caps :: ps, v :: vs, d0, ds, ms, h, ⟨d1, d2, m1, m2, e1, e2, hv, hr⟩, hm, hle => by
  subst e1 e2;simp only [List.length_append] at hle;obtain ⟨cs, rfl, hc⟩ := hv;obtain ⟨i1, i2, i5, i3, i4⟩ := capsAt_ok (hl := hl) (d0 := d0) (d2 := d2) (h := h) hc hm.left (by omega)
  have hbl := i5.1;obtain ⟨j1, j2, j3, j4, j5, j6⟩ := initP_ok (hl := hl) (d0 := d0 ++ d1) (h := h + m1.length) hr hm.right (by omega)
  rw [List.length_append, i3, ← hbl] at j1 j4 j6;refine ⟨by simp [initP, j1], by simp [j2], by simp [initCount, j3, i3], BlocksR.append (by simpa using i5) (by simpa using j4), by simp [handsP, i4, j5], fun i s hi => ?_⟩
  cases i with
  | zero =>
   simp only [initP, List.getElem?_cons_zero, Option.some.injEq] at hi;subst hi;exact ⟨_, rfl, cs, rfl, by simpa using i1, fun j c u hj hu => by simpa using i2 j c u hj (by simpa using hu)⟩
  | succ i =>
   simp only [initP, List.getElem?_cons_succ] at hi ⊢;obtain ⟨u, hu, hs⟩ := j6 i s hi;exact ⟨u, hu, by simpa using hs⟩
def handOf (ms : List HM) : Hand := ⟨fun b => ∃ h ∈ ms, h.m.own b, ms.map fun h => h.m.v⟩
theorem OwnK.blkR {F F' : Nat → Prop} {Mine : Nat → Prop} {hl : Nat} {k : MK} {m : MV} {d : D} {x : Atom} (h : OwnK w F k m d) (hx : x.get ρ = some d) (hst : Stays F F' w w) (hM : ∀ b, m.own b → Mine b) : BlkR Mine w F' hl μ ρ (k.sb 0 x) m := by
 cases k with
 | row t e =>
  obtain ⟨h0, n, xs, ls, h1, rfl, h3, h4⟩ := h;exact ⟨h0, n, xs, ls, h1, hM, hx, h3, h4.mono hst⟩
 | rows et e' e =>
  obtain ⟨h0, n, ls, h1, rfl, h3, h4, h5, h6⟩ := h;exact ⟨h0, n, ls, h1, hM, hx, h3, h4, h5, h6⟩
 | map mk => exact ⟨h.1, hM, d, none, hx, trivial, h.2⟩
 | box ts =>
  obtain ⟨h0, b, arr, T, ds, h1, h2, rfl, h4⟩ := h;exact ⟨h0, b, arr, T, ds, h1, hM b (.inl (by rw [h1]; rfl)), h2, hx, h4.mono fun t v d hd => hd.mono hst⟩
def mu0 (ms : List HM) : Mu := fun β => ((ms[β]?).map HM.m).getD (MV.one Go.undef)
theorem init_ok {F0 : Nat → Prop} {ps : List PK} {vs : List Value} {ds : List D} {ms : List HM} {ntmps : Nat} (h : ArgsR w F0 ps vs ds ms) (hap : MApart (ms.map HM.m)) (hF0 : ∀ b, F0 b → Fm w ms b ∧ ¬ X b) (hex : ∀ b, X b → b < w.heap.size) (hexo : ∀ m ∈ ms, ∀ b, m.m.own b → ¬ X b) :
  R X (handOf ms) w (initSS ps ntmps) (mu0 ms) ds { tmps := vs.toArray ++ Array.replicate (ntmps - vs.toArray.size) Go.undef, defers := [] } w := by
 have hmu : ∀ (j : Nat) m, ms[j]? = some m → mu0 ms j = m.m := fun j m hj => by simp [mu0, hj]
 obtain ⟨i1, i2, i3, i4, i5, i6⟩ := initP_ok (hl := ms.length) (μ := mu0 ms) (d0 := []) (h := 0) h (fun j m hj => by rw [Nat.zero_add]; exact hmu j m hj) (by omega)
 simp only [List.length_nil, List.nil_append] at i1 i4 i6
 have hH : (initSS ps ntmps).heap = (initP ps 0 0).2 := rfl
 have hbl := i4.1
 have hblk : ∀ {β : Nat} {sb : SB}, (initSS ps ntmps).heap[β]? = some sb → ∃ m : HM, ms[β]? = some m ∧ ∃ (x : Atom) (d : D), sb = m.k.sb 0 x ∧ x.get ds = some d ∧ OwnK w F0 m.k m.m d := by intro β sb hb;have hlt := (List.getElem?_eq_some_iff.1 hb).1;rw [hH, hbl] at hlt;have hm := List.getElem?_eq_getElem hlt;exact ⟨_, hm, i4.2 β sb _ hb hm⟩
 have hF : ∀ b, F0 b → Fz X (initSS ps ntmps).heap (mu0 ms) w b := by
  intro b hb0;obtain ⟨hb, hbx⟩ := hF0 b hb0;refine ⟨⟨hb.1, hbx⟩, fun β ⟨sb, hs, _⟩ ho => ?_⟩
  obtain ⟨m, hm, _⟩ := hblk hs;rw [hmu β m hm] at ho;exact hb.2 m (List.mem_of_getElem? hm) ho
 have hst : Stays F0 (Fz X (initSS ps ntmps).heap (mu0 ms) w) w w := ⟨hF, fun _ _ => rfl⟩
 have hhl : (initSS ps ntmps).heap.length = ms.length := hbl
 refine ⟨Keeps.refl _ _, i3, by simp [initSS, i1, i2], rfl, fun i s hi => ?_, fun β sb hb => ?_, hex, fun β γ hβ hγ hne b hb hb' => ?_, fun β hβ b hb => ?_, fun β v hv => ?_⟩
 ·rw [hhl]
  simp only [initSS] at hi
  rcases Nat.lt_or_ge i (initP ps 0 0).1.length with hlt | hge
  ·rw [List.getElem?_append_left hlt] at hi
   obtain ⟨v, hv, hs⟩ := i6 i s hi;have hlv : i < vs.length := by omega
   have : (vs.toArray ++ Array.replicate (ntmps - vs.toArray.size) Go.undef).getD i Go.undef = v := by
    have e : vs[i] = v := by rw [List.getElem?_eq_getElem hlv] at hv; simpa using hv
    simp [Array.getD, hlv, e];intro h';omega
   rw [this];exact hs.mono (Grows.same hst ⟨[], by simp⟩ (Nat.le_refl _) fun _ _ => rfl)
  ·rw [List.getElem?_append_right hge] at hi
   have := List.mem_of_getElem? hi;rw [List.eq_of_mem_replicate this]
   trivial
 ·obtain ⟨m, hm, x, d, rfl, hx, hk⟩ := hblk hb
  rw [hmu β m hm];exact hk.blkR hx hst fun b hb => .inr ⟨m, List.mem_of_getElem? hm, hb⟩
 ·obtain ⟨s1, g1, _⟩ := hβ
  obtain ⟨s2, g2, _⟩ := hγ;obtain ⟨m1, hm1, _⟩ := hblk g1;obtain ⟨m2, hm2, _⟩ := hblk g2;rw [hmu β m1 hm1] at hb;rw [hmu γ m2 hm2] at hb';exact hap β γ m1.m m2.m (by rw [List.getElem?_map, hm1]; rfl) (by rw [List.getElem?_map, hm2]; rfl) hne b hb hb'
 ·obtain ⟨s1, g1, _⟩ := hβ
  obtain ⟨m1, hm1, _⟩ := hblk g1;rw [hmu β m1 hm1] at hb;exact hexo m1 (List.mem_of_getElem? hm1) b hb
 ·simp only [handOf, List.getElem?_map, Option.map_eq_some_iff] at hv
  obtain ⟨m, hm, rfl⟩ := hv;refine ⟨?_, by rw [hmu β m hm]⟩
  rw [hhl];exact (List.getElem?_eq_some_iff.1 hm).1
def OutOk (M : Hand) (w0 : World) (S : SS) (μ : Mu) (o : Option Nat) (m : MV) : Prop :=
 (o = none ∧ ∀ b, ¬ m.own b) ∨ ∃ β, o = some β ∧ live S.heap β ∧ (∀ b, m.own b → (μ β).own b) ∧ ∀ b, m.own b → w0.heap.size ≤ b ∨ M b
def LookOk (X : Nat → Prop) (S : SS) (μ : Mu) (w : World) (F : Nat → Prop) : Prop := ∀ b, Fz X S.heap μ w b → F b
theorem resOwn_ok (h : R X M w0 S μ ρ a w) {k : MK} {β : Nat} {x : Atom} {o : Option Nat} (hc : resCell S (.own k) (.s (.own β)) = .ok (x, o)) :
  (∀ F, LookOk X S μ w F → OwnK w F k (μ β).now (x.ev ρ)) ∧ OutOk M w0 S μ o (μ β).now := by
 simp only [resCell] at hc
 split at hc
 ·rename_i t' e' y t e hrow
  split at hc
  ·rename_i hte
   obtain ⟨rfl, rfl⟩ := hte;simp only [Except.ok.injEq, Prod.mk.injEq] at hc;obtain ⟨rfl, rfl⟩ := hc;obtain ⟨h0, n, xs, ls, g1, g2, g3, g4, g5⟩ := h.blocks _ _ hrow;refine ⟨fun F hFo => ?_, .inr ⟨_, rfl, ⟨_, hrow, by simp⟩, fun b hb => MV.now_own.1 hb, fun b hb => g2 b (MV.now_own.1 hb)⟩⟩
   rw [MV.now_nil h0];refine ⟨h0, n, xs, ls, g1, by rw [Atom.ev_of_get g3], g4, ?_⟩
   exact g5.mono ⟨hFo, fun _ _ => rfl⟩
  ·cases hc
 ·rename_i et' f' e' ver y et f e hrow
  split at hc
  ·rename_i hte
   obtain ⟨rfl, rfl, rfl⟩ := hte;simp only [Except.ok.injEq, Prod.mk.injEq] at hc;obtain ⟨rfl, rfl⟩ := hc;obtain ⟨h0, n, ls, g1, g2, g3, g4, g5, g6, g7⟩ := h.blocks _ _ hrow;have hne : (μ β).hist.isEmpty = false := by
    cases hh : (μ β).hist with
    | nil => rw [hh] at h0; cases h0
    | cons _ _ => rfl
   refine ⟨fun F _ => ?_, .inr ⟨_, rfl, ⟨_, hrow, by simp⟩, fun b hb => MV.now_own.1 hb, fun b hb => g2 b (MV.now_own.1 hb)⟩⟩
   exact ⟨by simp [MV.now, hne], n, ls, by rw [MV.now_inner]; exact g1, by rw [Atom.ev_of_get g3], g4, by rw [MV.now_inner]; exact g5, by rw [MV.now_inner]; exact g6, by rw [MV.now_inner]; exact g7⟩
  ·cases hc
 ·cases hc
theorem resBox_ok (h : R X M w0 S μ ρ a w) {ts : List CT} {β off : Nat} {x : Atom} {o : Option Nat} (hc : resCell S (.own (.box ts)) (.s (.vptr β off)) = .ok (x, o)) :
  (∀ F, LookOk X S μ w F → OwnK w F (.box ts) (μ β).now (x.ev ρ)) ∧ OutOk M w0 S μ o (μ β).now ∧ off = 0 := by
 simp only [resCell] at hc
 split at hc
 ·rename_i ts' y hb
  split at hc
  ·rename_i ht
   obtain ⟨rfl, rfl⟩ := ht;simp only [Except.ok.injEq, Prod.mk.injEq] at hc;obtain ⟨rfl, rfl⟩ := hc;obtain ⟨h0, b, arr, T, ds, g1, g2, g3, g4, g5⟩ := h.blocks _ _ hb;rw [MV.now_nil h0];refine ⟨fun F hFo => ⟨h0, b, arr, T, ds, g1, g3, by rw [Atom.ev_of_get g4], g5.mono fun t v d hd => hd.mono ⟨hFo, fun _ _ => rfl⟩⟩, .inr ⟨_, rfl, ⟨_, hb, by simp⟩, fun b hb => hb, fun c hc => ?_⟩, rfl⟩
   have := (MV.own_flat h0).1 hc;rw [g1] at this;simp only [blkOf, Option.some.injEq] at this;subst this;exact g2
  ·cases hc
 ·cases hc
theorem resCell_ok (h : R X M w0 S μ ρ a w) {r : RK} {c : CV} {x : Atom} {o : Option Nat} {v : Value} (hc : resCell S r c = .ok (x, o)) (hv : CVR w (Fz X S.heap μ w) S.heap.length μ ρ c v) :
  (∃ t, r = .cell t ∧ RdB t v (x.ev ρ)) ∨ (∃ k m, r = .own k ∧ m.v = v ∧ (∀ F, LookOk X S μ w F → OwnK w F k m (x.ev ρ)) ∧ OutOk M w0 S μ o m) := by
 have hc0 := hc
 unfold resCell at hc
 split at hc
 ·split at hc
  ·rename_i ht
   subst ht;simp only [Except.ok.injEq, Prod.mk.injEq] at hc;obtain ⟨rfl, rfl⟩ := hc;obtain ⟨d, hx, hd⟩ := hv;exact .inl ⟨_, rfl, by rw [Atom.ev_of_get hx]; exact hd⟩
  ·cases hc
 ·rename_i k β
  obtain ⟨g1, g2⟩ := resOwn_ok h hc0;obtain ⟨_, rfl, _⟩ := hv;exact .inr ⟨k, (μ β).now, rfl, rfl, g1, g2⟩
 ·rename_i m β
  split at hc
  ·rename_i m' ver y hb
   split at hc
   ·rename_i hm
    subst hm;simp only [Except.ok.injEq, Prod.mk.injEq] at hc;obtain ⟨rfl, rfl⟩ := hc;obtain ⟨_, rfl, _⟩ := hv;obtain ⟨h0, g1, d, hk, g2, g3, b, es, kvs, g4, g5, rfl, g6, g7, g8⟩ := h.blocks _ _ hb;have hkn : hk = none := by cases hk with | none => rfl | some _ => exact g3.elim
    subst hkn;have hne : (μ β).hist.isEmpty = false := by
     cases hh : (μ β).hist with
     | nil => rw [hh] at h0; cases h0
     | cons _ _ => rfl
    refine .inr ⟨_, (μ β).now, rfl, rfl, fun F _ => ⟨by simp [MV.now, hne], b, es, kvs, g4, g5, by rw [Atom.ev_of_get g2], by rw [MV.now_inner]; exact g6, by rw [MV.now_inner]; exact g7, by rw [MV.now_inner]; exact g8⟩,
     .inr ⟨_, rfl, ⟨_, hb, by simp⟩, fun b hb => MV.now_own.1 hb, fun b hb => g1 b (MV.now_own.1 hb)⟩⟩
   ·cases hc
  ·cases hc
 ·rename_i et e β ver d i y
  split at hc
  ·rename_i et' e' hnow
   split at hc
   ·rename_i he
    obtain ⟨rfl, rfl⟩ := he;simp only [Except.ok.injEq, Prod.mk.injEq] at hc;obtain ⟨rfl, rfl⟩ := hc;obtain ⟨_, l, hl, hm⟩ := hv;obtain ⟨⟨n, xs, ls, h1, hy, hn, hr⟩, hin, e', z, hz⟩ := rowsNow_ok h hnow hl hm;obtain ⟨_, _, _, _, g2, _⟩ := h.blocks _ _ hz;have hown : ∀ b, (MV.one v).own b → (μ β).own b := fun b hb => .inr ⟨v, hin, (MV.own_flat rfl).1 hb⟩
    exact .inr ⟨_, MV.one v, rfl, rfl, fun F _ => ⟨rfl, n, xs, ls, h1, by rw [Atom.ev_of_get hy]; rfl, hn, hr⟩, .inr ⟨_, rfl, ⟨_, hz, by simp⟩, hown, fun b hb => g2 b (hown b hb)⟩⟩
   ·cases hc
  ·cases hc
 ·simp only [Except.ok.injEq, Prod.mk.injEq] at hc
  obtain ⟨rfl, rfl⟩ := hc;simp only [CVR, CVR0] at hv;subst hv;refine .inr ⟨_, ⟨.slice none 0 0, []⟩, rfl, rfl, fun F _ => ⟨rfl, 0, [], [], ⟨by simp, .inl ⟨rfl, rfl⟩⟩, rfl, rfl, rfl⟩, .inl ⟨rfl, fun b hb => ?_⟩⟩
  rcases hb with hb | ⟨u, hu, _⟩
  ·cases hb
  ·simp [MV.inner] at hu
 ·simp only [Except.ok.injEq, Prod.mk.injEq] at hc
  obtain ⟨rfl, rfl⟩ := hc;simp only [CVR, CVR0] at hv;subst hv;refine .inr ⟨_, ⟨.slice none 0 0, [[]]⟩, rfl, rfl, fun F _ => ⟨rfl, 0, [], ⟨by simp [MV.inner], .inl ⟨rfl, rfl⟩⟩, rfl, rfl, ⟨rfl, fun i u l hi => ?_⟩, fun i j u u' hi => ?_, fun u hu => ?_⟩, .inl ⟨rfl, fun b hb => ?_⟩⟩
  ·simp [MV.inner] at hi
  ·simp [MV.inner] at hi
  ·simp [MV.inner] at hu
  ·rcases hb with hb | ⟨u, hu, _⟩
   ·cases hb
   ·simp [MV.inner] at hu
 ·simp only [Except.ok.injEq, Prod.mk.injEq] at hc
  obtain ⟨rfl, rfl⟩ := hc;simp only [CVR, CVR0] at hv;subst hv;refine .inr ⟨_, ⟨.slice none 0 0, []⟩, rfl, rfl, fun F _ => ⟨rfl, 0, [], [], ⟨by simp, .inl ⟨rfl, rfl⟩⟩, rfl, rfl, rfl⟩, .inl ⟨rfl, fun b hb => ?_⟩⟩
  rcases hb with hb | ⟨u, hu, _⟩
  ·cases hb
  ·simp [MV.inner] at hu
 ·rename_i ts β off
  obtain ⟨g1, g2, rfl⟩ := resBox_ok h hc0;obtain ⟨_, b, e1, rfl⟩ := hv;exact .inr ⟨_, (μ β).now, rfl, e1, g1, g2⟩
 ·cases hc
def OwnsOk (M : Hand) (w0 : World) (S : SS) (μ : Mu) (os : List (Option Nat)) (vs : List MV) : Prop :=
 os.length = vs.length ∧ ∀ (j : Nat) o v, os[j]? = some o → vs[j]? = some v → OutOk M w0 S μ o v
theorem OwnsOk.append {os ps : List (Option Nat)} {vs us : List MV} (h : OwnsOk M w0 S μ os vs) (k : OwnsOk M w0 S μ ps us) : OwnsOk M w0 S μ (os ++ ps) (vs ++ us) := by
 refine ⟨by simp [h.1, k.1], fun j o v ho hv => ?_⟩
 rcases Nat.lt_or_ge j os.length with hj | hj
 ·rw [List.getElem?_append_left hj] at ho
  rw [List.getElem?_append_left (by rw [← h.1]; exact hj)] at hv
  exact h.2 j o v ho hv
 ·rw [List.getElem?_append_right hj] at ho
  rw [List.getElem?_append_right (by rw [← h.1]; exact hj), ← h.1] at hv
  exact k.2 _ o v ho hv
theorem resCellsA_ok (h : R X M w0 S μ ρ a w) : ∀ {rks : List RK} {cs : List CV} {xs : List Atom} {os : List (Option Nat)} {vs : List Value}, resCellsA S rks cs = .ok (xs, os) → CVRs w (Fz X S.heap μ w) S.heap.length μ ρ cs vs →
  ∃ us, (∀ F, LookOk X S μ w F → ResCs w F rks vs (evs ρ xs) us) ∧ OwnsOk M w0 S μ os us
 | [], [], xs, os, [], hx, _ => by simp only [resCellsA, Except.ok.injEq, Prod.mk.injEq] at hx;obtain ⟨rfl, rfl⟩ := hx;exact ⟨[], fun _ _ => trivial, rfl, by simp⟩
 | r :: rs, c :: cs, xs, os, v :: vs, hx, ⟨h1, h2⟩ => by
  simp only [resCellsA] at hx;obtain ⟨⟨x, o⟩, g1, g2⟩ := bind_ok hx;obtain ⟨⟨ys, ps⟩, g3, g4⟩ := bind_ok g2;simp only [Except.ok.injEq, Prod.mk.injEq] at g4;obtain ⟨rfl, rfl⟩ := g4;obtain ⟨us, k1, k2⟩ := resCellsA_ok h g3 h2
  rcases resCell_ok h g1 h1 with ⟨t, rfl, hr⟩ | ⟨k, m, rfl, hmv, hr, ho⟩
  ·exact ⟨us, fun F hFo => ⟨hr, k1 F hFo⟩, k2⟩
  ·refine ⟨m :: us, fun F hFo => ⟨hmv, hr F hFo, k1 F hFo⟩, by simp [k2.1], fun j o' u ho' hu => ?_⟩
   cases j with
   | zero =>
    simp only [List.getElem?_cons_zero, Option.some.injEq] at ho' hu;subst ho' hu;exact ho
   | succ j => simp only [List.getElem?_cons_succ] at ho' hu; exact k2.2 j o' u ho' hu
 | [], _ :: _, _, _, _, hx, _ => by simp [resCellsA] at hx
 | _ :: _, [], _, _, _, hx, _ => by simp [resCellsA] at hx
def resVarRun (tmps : Array Value) : ResultVar → Sem Value
 | .tmp t => pure (tmps.getD t Go.undef)
 | .cell a t => do loadVar t (← asAddr (tmps.getD a Go.undef))
theorem resVarS_ok (h : R X M w0 S μ ρ a w) {r : ResultVar} {ag : Bool} {cs : List CV} (hr : resVarS P S r = .ok (ag, cs)) : ∃ v, (resVarRun a.tmps r).run P w = .ok v w ∧ PVR w (Fz X S.heap μ w) S.heap.length μ ρ ag cs v := by
 cases r with
 | tmp t =>
  simp only [resVarS] at hr;obtain ⟨s, g1, g2⟩ := bind_ok hr;have hs := h.slots t s (need_ok g1);have hc := need_ok g2;refine ⟨_, rfl, ?_⟩;unfold svCells at hc;split at hc <;> simp only [Option.some.injEq, Prod.mk.injEq, reduceCtorEq] at hc
  ·obtain ⟨rfl, rfl⟩ := hc; exact ⟨_, rfl, hs⟩
  ·obtain ⟨rfl, rfl⟩ := hc; exact hs
 | cell p t =>
  simp only [resVarS] at hr;obtain ⟨agg, g1, g2⟩ := bind_ok hr;obtain ⟨sz, g3, g4⟩ := bind_ok g2;split at g4
  ·rename_i β off hs
   split at g4
   ·rename_i cs' hcs
    split at g4
    ·rename_i hlen
     simp only [Except.ok.injEq, Prod.mk.injEq] at g4;obtain ⟨rfl, rfl⟩ := g4;obtain ⟨_, b, hb, hp⟩ := h.slots p _ hs;obtain ⟨_, b', arr, T, hb', _, hheap, hC⟩ := h.blocks β _ hcs;rw [hb] at hb';simp only [Value.pointer.injEq, Option.some.injEq, Addr.mk.injEq, and_true] at hb';subst hb';have hC' := (hC.drop off).take sz;have hvl : ((arr.toList.drop off).take sz).length = sz := by rw [← hC'.length]; exact hlen.1
     have hl := loadVar_ok (P := P) (w := w) (b := b) (o := off) (need_ok g1) (need_ok g3) hvl (fun j u hu => by rw [cell_of_cells hheap]; exact list_of_arr hu) hlen.2.1 w rfl
     refine ⟨if agg then .agg ((arr.toList.drop off).take sz).toArray else ((arr.toList.drop off).take sz).headD Go.undef, ?_, ?_⟩
     ·simp only [resVarRun, hp, asAddr, Sem.run_bind, Sem.run_pure, Result.andThen_ok]
      exact hl
     ·cases agg with
      | true => exact ⟨_, rfl, by simpa using hC'⟩
      | false =>
       rcases hlen.2.2 with h' | h'
       ·cases h'
       ·obtain ⟨c, hc⟩ := List.length_eq_one_iff.1 (hlen.1.trans h')
        rw [hc] at hC' ⊢;obtain ⟨u, hu⟩ := List.length_eq_one_iff.1 (hvl.trans h');rw [hu] at hC' ⊢;exact ⟨c, rfl, hC'.1⟩
    ·cases g4
   ·cases g4
  ·cases g4
theorem retAll_ok (h : R X M w0 S μ ρ a w) : ∀ {rs : List (Bool × List RK)} {rvs : List ResultVar} {xs : List Atom} {os : List (Option Nat)}, retAll P S rs rvs = .ok (xs, os) →
  ∃ vs us, (rvs.mapM (resVarRun a.tmps)).run P w = .ok vs w ∧ (∀ F, LookOk X S μ w F → ResAll w F rs vs (evs ρ xs) us) ∧ OwnsOk M w0 S μ os us ∧ vs.length = rvs.length ∧ rs.length = rvs.length
 | [], [], xs, os, hx => by simp only [retAll, Except.ok.injEq, Prod.mk.injEq] at hx;obtain ⟨rfl, rfl⟩ := hx;exact ⟨[], [], rfl, fun _ _ => ⟨rfl, rfl⟩, ⟨rfl, by simp⟩, rfl, rfl⟩
 | (ag, rks) :: rs, r :: rvs, xs, os, hx => by
  simp only [retAll] at hx;obtain ⟨⟨ag', cs⟩, g1, g2⟩ := bind_ok hx
  dsimp only at g2
  split at g2
  ·rename_i hag
   subst hag;obtain ⟨⟨ys, ps⟩, g3, g4⟩ := bind_ok g2
   dsimp only at g4
   obtain ⟨⟨zs, qs⟩, g5, g6⟩ := bind_ok g4;simp only [Except.ok.injEq, Prod.mk.injEq] at g6;obtain ⟨rfl, rfl⟩ := g6;obtain ⟨v, k1, k2⟩ := resVarS_ok (P := P) h g1;obtain ⟨vs, us, m1, m2, m3, m4, m5⟩ := retAll_ok h g5;have hP : ∃ us', (∀ F, LookOk X S μ w F → PRes w F ag rks v (evs ρ ys) us') ∧ OwnsOk M w0 S μ ps us' := by
    cases ag with
    | true =>
     obtain ⟨arr, rfl, hc⟩ := k2;obtain ⟨us', n1, n2⟩ := resCellsA_ok h g3 hc;exact ⟨us', fun F hFo => ⟨arr, rfl, n1 F hFo⟩, n2⟩
    | false =>
     obtain ⟨c, rfl, hc⟩ := k2;obtain ⟨us', n1, n2⟩ := resCellsA_ok h (vs := [v]) g3 ⟨hc, trivial⟩;refine ⟨us', fun F hFo => ⟨?_, n1 F hFo⟩, n2⟩
     match rks, g3 with
     | [], g3 => simp [resCellsA] at g3
     | [_], _ => rfl
     | r1 :: r2 :: _, g3 =>
      simp only [resCellsA] at g3;obtain ⟨_, _, g3⟩ := bind_ok g3;obtain ⟨_, g3, _⟩ := bind_ok g3
      cases g3
   obtain ⟨us', n1, n2⟩ := hP;refine ⟨v :: vs, us' ++ us, ?_, fun F hFo => ⟨evs ρ ys, evs ρ zs, us', us, by simp [evs], rfl, n1 F hFo, m2 F hFo⟩, n2.append m3, by simp [m4], by simp [m5]⟩
   simp [List.mapM_cons, k1, m1]
  ·cases g2
 | [], _ :: _, _, _, hx => by simp [retAll] at hx
 | _ :: _, [], _, _, hx => by simp [retAll] at hx
theorem keptA_ok {ms : List HM} (h : R X M w0 S μ ρ a w) : ∀ {hs : List HM} {β : Nat} {xs : List Atom} {os : List (Option Nat)}, (∀ (j : Nat) m, hs[j]? = some m → M.anc[β + j]? = some m.m.v) → keptA S β (hs.map fun m => (m.k, m.keep)) = .ok (xs, os) →
  ∃ ks, (∀ F, LookOk X S μ w F → KeptR w F hs (evs ρ xs) ks) ∧ OwnsOk M w0 S μ os ks
 | [], β, xs, os, _, hx => by simp only [List.map_nil, keptA, Except.ok.injEq, Prod.mk.injEq] at hx;obtain ⟨rfl, rfl⟩ := hx;exact ⟨[], fun _ _ => ⟨rfl, rfl⟩, rfl, by simp⟩
 | m :: hs, β, xs, os, ha, hx => by
  simp only [List.map_cons, keptA] at hx;have ha' : ∀ (j : Nat) m, hs[j]? = some m → M.anc[β + 1 + j]? = some m.m.v := fun j m hj => by
   have := ha (j + 1) m (by simpa using hj)
   rwa [show β + (j + 1) = β + 1 + j from by omega] at this
  split at hx
  ·rename_i hk
   obtain ⟨⟨x, o⟩, g1, g2⟩ := bind_ok hx;obtain ⟨⟨ys, ps⟩, g3, g4⟩ := bind_ok g2;simp only [Except.ok.injEq, Prod.mk.injEq] at g4;obtain ⟨rfl, rfl⟩ := g4;obtain ⟨ks, k1, k2⟩ := keptA_ok (ms := ms) h ha' g3;have hr12 : (∀ F, LookOk X S μ w F → OwnK w F m.k (μ β).now (x.ev ρ)) ∧ OutOk M w0 S μ o (μ β).now := by
    cases hk : m.k with
    | box ts =>
     rw [hk] at g1;obtain ⟨r1, r2, _⟩ := resBox_ok h g1;exact ⟨r1, r2⟩
    | _ =>
     rw [hk] at g1;exact resOwn_ok h g1
   obtain ⟨r1, r2⟩ := hr12;have hv := (h.anc β _ (ha 0 m rfl)).2;refine ⟨(μ β).now :: ks, fun F hFo => ?_, by simp [k2.1], fun j o' u ho' hu => ?_⟩
   ·unfold KeptR
    rw [if_pos hk];exact ⟨_, _, _, _, rfl, rfl, hv, r1 F hFo, k1 F hFo⟩
   ·cases j with
    | zero =>
     simp only [List.getElem?_cons_zero, Option.some.injEq] at ho' hu;subst ho' hu;exact r2
    | succ j => simp only [List.getElem?_cons_succ] at ho' hu; exact k2.2 j o' u ho' hu
  ·rename_i hk
   obtain ⟨ks, k1, k2⟩ := keptA_ok (ms := ms) h ha' hx;refine ⟨ks, fun F hFo => ?_, k2⟩
   unfold KeptR;rw [if_neg hk];exact k1 F hFo
end
end Vs

namespace Vs
open Go Go.RowKit
section
variable {P : Program} {X : Nat → Prop} {M : Hand} {w0 w : World} {S : SS} {μ : Mu} {ρ : List D} {a : Act} {G : Nat → List D → Option (List D)} {fuel : Nat}
theorem results_eq (fn : Func) (tmps : Array Value) : results fn tmps = (do
  let vs ← fn.results.mapM (resVarRun tmps)
  pure (if h : vs.size = 1 then vs[0] else .tuple vs)) := by
 rfl
theorem nodup_get {os : List (Option Nat)} (h : (os.filterMap id).Nodup) : ∀ {i j : Nat} {β : Nat}, os[i]? = some (some β) → os[j]? = some (some β) → i = j := by
 induction os with
 | nil => intro i j β hi; simp at hi
 | cons o os ih =>
  intro i j β hi hj;have key : ∀ {k : Nat}, os[k]? = some (some β) → β ∈ os.filterMap id := fun hk => List.mem_filterMap.2 ⟨_, List.mem_of_getElem? hk, rfl⟩
  have htl : (os.filterMap id).Nodup := by
   cases o with
   | none => simpa using h
   | some x => simp only [List.filterMap_cons, id] at h; exact (List.nodup_cons.1 h).2
  cases i with
  | zero =>
   cases j with
   | zero => rfl
   | succ j =>
    simp only [List.getElem?_cons_zero, Option.some.injEq, List.getElem?_cons_succ] at hi hj;subst hi;simp only [List.filterMap_cons, id] at h;exact absurd (key hj) (List.nodup_cons.1 h).1
  | succ i =>
   cases j with
   | zero =>
    simp only [List.getElem?_cons_zero, Option.some.injEq, List.getElem?_cons_succ] at hi hj;subst hj;simp only [List.filterMap_cons, id] at h;exact absurd (key hi) (List.nodup_cons.1 h).1
   | succ j =>
    simp only [List.getElem?_cons_succ] at hi hj;rw [ih htl hi hj]
theorem ret_ok {fn : Func} {sg : Sig} {xs : List Atom} {ms : List HM} (h : R X (handOf ms) w0 S μ ρ a w) {F0 : Nat → Prop} (hXc : ∀ b, b < w0.heap.size → ¬ (∃ h ∈ ms, h.m.own b) → ¬ F0 b → X b) (hms : handsP sg.params = ms.map fun m => (m.k, m.keep)) (hx : retAtoms P S sg fn.results.toList = .ok xs) :
  a.defers = [] ∧ ∃ v, (results fn a.tmps).run P w = .ok v w ∧ Keeps (fun b => ∃ h ∈ ms, h.m.own b) w0 w ∧ ResR w0.heap.size F0 w ms sg.results v (evs ρ xs) := by
 unfold retAtoms at hx
 obtain ⟨⟨ys, os⟩, h1, h2⟩ := bind_ok hx
 dsimp only at h2
 obtain ⟨⟨zs, ps⟩, h3, h4⟩ := bind_ok h2
 dsimp only at h4
 split at h4
 ·rename_i hn
  simp only [Except.ok.injEq] at h4;subst h4;obtain ⟨vs, us, m1, m2, m3, m4, m5⟩ := retAll_ok h h1;rw [hms] at h3;obtain ⟨ks, k1, k2⟩ := keptA_ok (ms := ms) h (hs := ms) (fun j m hj => by rw [Nat.zero_add]; simp [handOf, hj]) h3
  have hall := m3.append k2;have hFo : LookOk X S μ w (Fres w0.heap.size F0 w ms (us ++ ks)) := fun b hb => by
   refine ⟨?_, hb.1.1, fun u hu ho => ?_⟩
   ·rcases Nat.lt_or_ge b w0.heap.size with hlt | hge
    ·by_cases hm : ∃ h ∈ ms, h.m.own b
     ·exact .inr (.inl hm)
     ·by_cases hf : F0 b
      ·exact .inr (.inr hf)
      ·exact absurd (hXc b hlt hm hf) hb.1.2
    ·exact .inl hge
   ·obtain ⟨j, hj⟩ := List.getElem?_of_mem hu
    have hlt : j < (os ++ ps).length := by rw [hall.1];exact (List.getElem?_eq_some_iff.1 hj).1
    rcases hall.2 j _ u (List.getElem?_eq_getElem hlt) hj with ⟨_, h0⟩ | ⟨β, _, l1, i1, _⟩
    ·exact h0 b ho
    ·exact hb.2 β l1 (i1 b ho)
  refine ⟨h.defers, if h : vs.toArray.size = 1 then vs.toArray[0] else .tuple vs.toArray, ?_, h.keeps, vs, us, ks, evs ρ ys, evs ρ zs, ?_, by simp [evs], m2 _ hFo, k1 _ hFo, ?_, ?_⟩
  ·rw [results_eq]
   simp only [Array.mapM_eq_mapM_toList, Sem.run_bind, Sem.run_map, m1, Result.andThen_ok, Sem.run_pure]
  ·rw [show sg.results.length = vs.length by rw [m5, m4]]
   split
   ·rename_i hl
    rw [dif_pos (by simpa using hl)]
    obtain ⟨v, rfl⟩ := List.length_eq_one_iff.1 hl;rfl
   ·rename_i hl
    rw [dif_neg (by simpa using hl)]
  ·intro u hu b hb
   obtain ⟨j, hj⟩ := List.getElem?_of_mem hu;have hlt : j < (os ++ ps).length := by rw [hall.1];exact (List.getElem?_eq_some_iff.1 hj).1
   rcases hall.2 j _ u (List.getElem?_eq_getElem hlt) hj with ⟨_, h0⟩ | ⟨β, _, _, _, hm⟩
   ·exact absurd hb (h0 b)
   ·exact hm b hb
  ·intro i j u u' hi hj hij b hb hb'
   have hlt : i < (os ++ ps).length := by rw [hall.1]; exact (List.getElem?_eq_some_iff.1 hi).1
   have hlt' : j < (os ++ ps).length := by rw [hall.1]; exact (List.getElem?_eq_some_iff.1 hj).1
   rcases hall.2 i _ u (List.getElem?_eq_getElem hlt) hi with ⟨_, h0⟩ | ⟨β, e1, l1, i1, _⟩
   ·exact absurd hb (h0 b)
   ·rcases hall.2 j _ u' (List.getElem?_eq_getElem hlt') hj with ⟨_, h0⟩ | ⟨γ, e2, l2, i2, _⟩
    ·exact absurd hb' (h0 b)
    ·have hβγ : β ≠ γ := by intro e;subst e;exact hij (nodup_get hn (by rw [List.getElem?_eq_getElem hlt, e1]) (by rw [List.getElem?_eq_getElem hlt', e2]))
     exact h.inj β γ l1 l2 hβγ b (i1 b hb) (i2 b hb')
 ·cases h4
theorem hands_ok {F : Nat → Prop} : ∀ {ps : List PK} {vs : List Value} {ds : List D} {ms : List HM}, ArgsR w F ps vs ds ms → handsP ps = ms.map fun m => (m.k, m.keep) := fun h => by
 rename_i ms
 exact (initP_ok (hl := ms.length) (μ := mu0 ms) (d0 := []) (h := 0) h (fun j m hj => by simp [mu0, hj]) (by omega)).2.2.2.2.1
theorem symFun_sound {E : Env} (hE : EnvOk E G) {f : FuncId} {fn : Func} {c : Code} {sg : Sig} {h : H} {t : T} {F : List D → Option (List D)}
  (hf : E.P.funcs[f]? = some fn) (hname : (fn.name == "runtime.NumGoroutine") = false) (hb : fn.body = some c) (hsym : symFun E fn c sg h = .ok t)
  (hF : ∀ ds rs, F ds = some rs → ∃ fuel, run G fuel t ds = some (0, rs)) : SoundCall E.P f sg F where
 enter := fun args w => MuLone.run_callFunc_enter hf hname hb args w
 calls := fun vs ds ms w rs F0 hF0 hargs hap hG => by
  obtain ⟨fuel, hrun⟩ := hF ds rs hG;have hms := hands_ok hargs;refine calls_of_wp hf hb ?_;refine symCode_ok hE c hsym (init_ok (X := fun b => b < w.heap.size ∧ (¬ ∃ h ∈ ms, h.m.own b) ∧ ¬ F0 b) hargs hap (fun b hb => ⟨hF0 b hb, fun hx => hx.2.2 hb⟩) (fun _ h => h.1) (fun m hm b hb hx => hx.2.1 ⟨m, hm, hb⟩)) hrun (fun S' t' μ' σ a' w' h1 h2 h3 => ?_) (fun e S' l xs μ' σ a' w' h1 h2 h3 => ?_)
  ·obtain ⟨xs, g1, g2⟩ := bind_ok h1
   simp only [Except.ok.injEq] at g2;subst g2;simp only [run, Option.some.injEq, Prod.mk.injEq, true_and] at h3;obtain ⟨k1, v, k2, k3, k4⟩ := ret_ok (P := E.P) (fn := fn) (sg := sg) h2 (fun b q1 q2 q3 => ⟨q1, q2, q3⟩) hms g1
   rw [h3] at k4;exact ⟨k1, v, k2, v, rfl, k3, k4⟩
  ·cases e with
   | ret =>
    obtain ⟨ys, g1, g2⟩ := bind_ok h1;simp only [Except.ok.injEq, Prod.mk.injEq] at g2;obtain ⟨rfl, rfl⟩ := g2;simp only [Prod.mk.injEq, true_and] at h3;obtain ⟨k1, v, k2, k3, k4⟩ := ret_ok (P := E.P) (fn := fn) (sg := sg) h2 (fun b q1 q2 q3 => ⟨q1, q2, q3⟩) hms g1
    rw [← h3] at k4;exact ⟨k1, v, k2, v, rfl, k3, k4⟩
   | exit id => cases h1
end
end Vs

namespace Vs
open Go Go.RowKit
def symFn (E : Env) (fn : Func) (sg : Sig) (h : H) : Res T :=
 match fn.body with
 | some c => symFun E fn c sg h
 | none => .error "no body"
abbrev Callees := List (FuncId × Nat × Sig)
def mkEnv (P : Program) (X : List (FuncId × Ext)) (l : Callees) : Env :=
 {P, ext := fun f => (X.find? fun x => x.1 == f).map (·.2), sig := fun f => (l.find? fun x => x.1 == f).map (·.2) }
abbrev Told := Nat → List D → Option (List D)
def AllSound (P : Program) (G : Told) (l : Callees) : Prop := ∀ x ∈ l, SoundCall P x.1 x.2.2 (G x.2.1)
theorem AllSound.nil {P : Program} {G : Told} : AllSound P G [] := by simp [AllSound]
theorem AllSound.cons {P : Program} {G : Told} {f key : Nat} {sg : Sig} {l : Callees} (h : SoundCall P f sg (G key)) (hl : AllSound P G l) : AllSound P G ((f, key, sg) :: l) := by
 intro x hx
 rcases List.mem_cons.1 hx with rfl | hx
 ·exact h
 ·exact hl x hx
theorem mkEnv_ok {P : Program} {X : List (FuncId × Ext)} {l : Callees} {G : Told} (hX : ∀ x ∈ X, ∀ args w, (callFunc x.1 args).run P w = ((extFn x.2 args).run P w).andThen fun v w' => .ok (.value v) w') (hl : AllSound P G l) :
  EnvOk (mkEnv P X l) G where
 ext := by intro f e hf args w;simp only [mkEnv, Option.map_eq_some_iff] at hf;obtain ⟨x, hx, rfl⟩ := hf;have h1 := List.find?_some hx;simp only [beq_iff_eq] at h1;subst h1;exact hX x (List.mem_of_find?_eq_some hx) args w
 sig := by intro f key sg hf;simp only [mkEnv, Option.map_eq_some_iff] at hf;obtain ⟨x, hx, e⟩ := hf;have h1 := List.find?_some hx;simp only [beq_iff_eq] at h1;subst h1;have := hl x (List.mem_of_find?_eq_some hx);rw [e] at this;exact this
theorem sound {P : Program} {X : List (FuncId × Ext)} {l : Callees} {G : Told} {f key : Nat} {fn : Func} {sg : Sig} {h : H} {t : T}
  (hX : ∀ x ∈ X, ∀ args w, (callFunc x.1 args).run P w = ((extFn x.2 args).run P w).andThen fun v w' => .ok (.value v) w')
  (hf : P.funcs[f]? = some fn) (hname : (fn.name == "runtime.NumGoroutine") = false) (hsym : symFn (mkEnv P X l) fn sg h = .ok t)
  (hF : ∀ ds rs, G key ds = some rs → ∃ fuel, run G fuel t ds = some (0, rs)) (hl : AllSound P G l) : SoundCall P f sg (G key) := by
 unfold symFn at hsym
 split at hsym
 ·rename_i c hb
  exact symFun_sound (E := mkEnv P X l) (mkEnv_ok hX hl) hf hname hb hsym hF
 ·cases hsym
end Vs

namespace Vs
open Go Ieee
theorem read_single {x : Nat} {s : Bool} {m : Nat} {e : Int} (h : single.read x = .number s m e) : m < 2 ^ 24 ∧ -149 ≤ e ∧ e ≤ 104 := by
 unfold Format.read at h
 have hb : single.binade = 8388608 := by decide
 have hi : single.infRung = 2139095040 := by decide
 have hl : single.leastPlace = -149 := by decide
 simp only [hb, hi, hl] at h
 generalize x % single.signWeight = r at h
 split at h
 ·simp only [Datum.number.injEq] at h
  omega
 ·split at h
  ·simp only [Datum.number.injEq] at h
   omega
  ·split at h <;> cases h
theorem cut_zero (neg : Bool) (n : Nat) : Toward.even.cut neg n 0 = n := by
 simp [Toward.cut]
 omega
theorem nearest_wide {s : Bool} {m : Nat} {e : Int} (hm : m < 2 ^ 24) (h1 : -149 ≤ e) (h2 : e ≤ 104) : ∃ r, double.nearest s m e = double.word s r ∧ r < double.infRung := by
 have hb : double.binade = 4503599627370496 := by decide
 have hi : double.infRung = 9218868437227405312 := by decide
 have hl : double.leastPlace = -1074 := by decide
 have hf : double.fractionBits = 52 := rfl
 unfold Format.nearest
 split
 ·exact ⟨0, rfl, by rw [hi]; omega⟩
 ·rename_i h0
  rw [hi, hb, hl, hf];have hlog : m.log2 < 24 := (Nat.log2_lt h0).2 hm;have hmax : max (e + (m.log2 : Int) - ((52 : Nat) : Int)) (-1074) = e + m.log2 - 52 := by omega
  simp only [hmax];have e1 : (e - (e + (m.log2 : Int) - 52)).toNat = 52 - m.log2 := by omega
  have e2 : (e + (m.log2 : Int) - 52 - e).toNat = 0 := by omega
  rw [e1, e2, cut_zero];refine ⟨_, rfl, ?_⟩;have hk : m <<< (52 - m.log2) < 2 ^ 53 := by
   rw [Nat.shiftLeft_eq];have hml : m < 2 ^ (m.log2 + 1) := Nat.lt_log2_self
   calc m * 2 ^ (52 - m.log2) < 2 ^ (m.log2 + 1) * 2 ^ (52 - m.log2) := Nat.mul_lt_mul_of_pos_right hml (Nat.two_pow_pos _)
    _ = 2 ^ 53 := by rw [← Nat.pow_add]; congr 1; omega
  generalize m <<< (52 - m.log2) = k at hk ⊢;have : (e + (m.log2 : Int) - 52 - -1074).toNat ≤ 1149 := by omega
  generalize (e + (m.log2 : Int) - 52 - -1074).toNat = q at this ⊢;have h3 := Nat.mul_le_mul_right 4503599627370496 this;refine Nat.lt_of_le_of_lt (Nat.min_le_left _ _) (Nat.lt_of_lt_of_le (Nat.add_lt_add_of_le_of_lt h3 hk) (by decide))
theorem read_word {f : Format} {s : Bool} {r : Nat} (hw : f.infRung < f.signWeight) (h : r < f.infRung) : (f.read (f.word s r)).isInfinity = false := by
 have hr : f.word s r % f.signWeight = r := by
  unfold Format.word;split
  ·rw [Nat.add_mod_left]; exact Nat.mod_eq_of_lt (by omega)
  ·exact Nat.mod_eq_of_lt (by omega)
 unfold Format.read
 simp only [hr, if_pos h]
 split <;> simp [Datum.isInfinity]
theorem double_ok : double.infRung < double.signWeight := by decide
def wide (x : Nat) : Nat := (f2f .f32 .f64 x).getD 0
theorem f2f_wide (x : Nat) : f2f .f32 .f64 x = some (wide x) := by
 have : ∃ y, f2f .f32 .f64 x = some y := by
  unfold f2f;rw [if_neg (by decide)]
  split
  ·exact ⟨_, rfl⟩
  ·exact ⟨_, rfl⟩
  ·rename_i s m e h
   obtain ⟨a, b, c⟩ := read_single h;obtain ⟨r, h1, h2⟩ := nearest_wide (s := s) a b c;have : (FloatKind.f64.decode (FloatKind.f64.encode (.number s m e))).isInfinity = false := by show (double.read (double.nearest s m e)).isInfinity = false;rw [h1];exact read_word double_ok h2
   rw [this];exact ⟨_, rfl⟩
 obtain ⟨y, hy⟩ := this
 rw [wide, hy]
 rfl
end Vs

namespace Vs
open Go Go.RowKit Go.ChangeShapes Go.WideShapes
section
variable {H : Type} {enc : TypeId × Value → H} {P : Program} {W W' : World}
theorem Keeps.sameAt (h : Keeps (fun _ => False) W W') {p : MemPlace} (hp : p.block < W.heap.size) : W.sameAt W' p := by
 cases p with
 | cell b off => exact World.cell?_of_block (a := ⟨b, off, none⟩) (h.block b hp (fun h => h))
 | map b => exact h.block b hp (fun h => h)
theorem Keeps.keptBut (h : Keeps (fun _ => False) W W') (may : MemPlace → Prop) : W.keptBut W' may := by
 refine ⟨h.os, h.output, fun i hi => ?_⟩
 have := h.block i hi (fun h => h)
 split
 ·rename_i c t fr c' t' fr' h1 h2
  rw [this, h1] at h2
  cases h2
  exact ⟨rfl, rfl, rfl, fun _ _ => rfl⟩
 ·rename_i es cl es' cl' h1 h2
  rw [this, h1] at h2
  cases h2
  exact .inr ⟨rfl, rfl⟩
 ·exact this
theorem args_again (K : Kids P (· < P.types.size)) (hz : ∀ {t e : TypeId}, t < P.types.size → P.underlying t = some (.slice e) → 0 < P.cellsOf e) (hk : Keeps (fun _ => False) W W') {sp : Nat → Bool} :
  ∀ {ts : List TypeId} {vs : List Value} {ds : List (DataW H)} {p : List MemPlace}, (∀ t ∈ ts, t < P.types.size) → DataW.TrodAll enc P W 0 (fun _ => true) true ts vs ds p → (∀ q ∈ p, sp q.block = true) → DataW.TrodAll enc P W' 0 sp true ts vs ds p
 | [], [], [], _, _, h, _ => h
 | t :: ts, v :: vs, d :: ds, _, hT, ⟨p, q, ⟨n, h1⟩, h2, e⟩, hs => by
  refine ⟨p, q, ⟨n, ?_⟩, args_again K hz hk (fun t ht => hT t (List.mem_cons.2 (.inr ht))) h2 (fun x hx => hs x (by rw [e]; exact List.mem_append_right _ hx)), e⟩
  exact DataW.trod_stays (x := (d, p)) K hz (fun h => by cases h) (hT t (List.mem_cons.2 (.inl rfl))) h1 (fun x hx => hk.sameAt (DataW.trod_lt n _ _ _ h1 x hx)) (fun x hx => hs x (by rw [e]; exact List.mem_append_left _ hx))
theorem post_same {f : Func} {s : ChangeSpec} {apart fresh handsOn again : Bool} {args : Array Value} {v : Value} {ds gs : List (DataW H)} {before pa pv : List MemPlace}
  (hW : DataW.Whole enc P f.params.toList s.vars apart W args.toList ds gs before)
  (hres : ∀ (b : Nat) (sp : Nat → Bool) (hd : Bool), DataW.TrodAll enc P W' b sp hd f.resultTypes.toList (v.resultList f.resultTypes.size) (s.fn H (ds ++ gs)).results [])
  (hargs : ∀ sp : Nat → Bool, (∀ p ∈ before, sp p.block = true) → DataW.TrodAll enc P W' 0 sp true f.params.toList args.toList (s.fn H (ds ++ gs)).args pa)
  (hvars : ∀ sp : Nat → Bool, (∀ p ∈ before, sp p.block = true) → DataW.TrodVars enc P W' sp s.vars (s.fn H (ds ++ gs)).vars pv)
  (hps : before = pa ++ pv) (hk : W.keptBut W' (· ∈ before)) (hfz : ∀ b off, b < W.heap.size → W'.frozen? ⟨b, off, none⟩ = W.frozen? ⟨b, off, none⟩)
  (hok : ∀ (j : Nat) (t : TypeId) (r : Value), f.resultTypes[j]? = some t → (v.resultList f.resultTypes.size)[j]? = some r → Value.okWide P W' .any 0 t r) :
  s.post enc P f apart fresh handsOn again W args v W' := by
 have hlt := hW.lt
 have hold : ∀ p ∈ before, (fun b => decide (b < W.heap.size)) p.block = true := fun p hp => by simpa using hlt p hp
 refine ⟨ds, gs, before, [], pa, pv, hW, hres _ _ _, hargs _ hold, hvars _ hold, World.keptBut_mono (fun p hp => ⟨hp, ?_⟩) hk, fun _ => ?_⟩
 ·rw [hps, List.mem_append] at hp
  exact Or.inr hp
 ·obtain ⟨_, _, _, _, _, hz, hn⟩ := hW
  refine ⟨hok, _, _, ([] ++ pa) ++ pv, ⟨[] ++ pa, pv, trodAll_append (hargs _ (fun _ _ => rfl)) (hres _ _ _), hvars _ (fun _ _ => rfl), rfl, ?_, ?_⟩, ?_⟩
  ·intro b off hp
   have hp' : MemPlace.cell b off ∈ before := by rw [hps]; simpa using hp
   rw [hfz b off (hlt _ hp')];exact hz b off hp'
  ·intro ha
   have := hn ha;rw [hps] at this;simpa using this
  ·intro p hp _
   rw [hps];simpa using hp
theorem law_of_sound {fn : Func} {s : ChangeSpec} {apart fresh handsOn again : Bool} {args : Array Value} {ds gs : List (DataW H)} {before : List MemPlace} {f key : Nat} {sg : Sig} {G : Told} {tb : TypeId} {bT : Bool}
  (hl : laidOutB P = true) (hm : mapsRowed P = true) (hz : ((List.range P.types.size).all fun t => match P.underlying t with | some (.slice e) => decide (0 < P.cellsOf e) | _ => true) = true)
  (hts : (fn.params.toList.all fun t => decide (t < P.types.size)) = true) (hres : fn.resultTypes = #[tb]) (hb : P.underlying tb = some .bool) (hvars : s.vars = [])
  (hspec : (s.fn H ds).results = [.lit (.bool bT)] ∧ (s.fn H ds).args = ds ∧ (s.fn H ds).vars = [])
  (hS : SoundCall P f sg (G key)) (hsg : sg.results = [(false, [.cell .bool])])
  (hW : DataW.Whole enc P fn.params.toList s.vars apart W args.toList ds gs before)
  (hargs : ∃ xs, ArgsR W (Fm W []) sg.params args.toList xs [] ∧ G key xs = some [.bool bT]) :
  Calls P f args W fun e W' => ∃ v, e = .returned v ∧ s.post enc P fn apart fresh handsOn again W args v W' := by
 obtain ⟨xs, hA, hG⟩ := hargs
 have hc := hS.calls args.toList xs [] W _ _ (fun _ h => h) hA (fun i j m m' hi => by simp at hi) hG
 rw [Array.toArray_toList] at hc
 refine hc.mono fun e W' ⟨v, he, hk0, hr⟩ => ⟨v, he, ?_⟩
 have hk : Keeps (fun _ => False) W W' := ⟨hk0.os, hk0.tape, hk0.output, hk0.size, fun k h1 _ => hk0.block k h1 (by rintro ⟨h, hm, _⟩; simp at hm), hk0.drawn⟩
 have hv : v = .bool bT := by
  rw [hsg] at hr;obtain ⟨vs, os, ks, da, db, h1, e0, h2, h6, _⟩ := hr;simp only [List.length_cons, List.length_nil, if_true] at h1;subst h1;obtain ⟨hdb, _⟩ : db = [] ∧ ks = [] := h6;subst hdb;rw [List.append_nil] at e0;obtain ⟨d1, d2, o1, o2, e1, e2, h3, h4, h5⟩ := h2;subst h4;rw [List.append_nil] at e1;subst e1;obtain ⟨_, h3⟩ := h3
  match da, o1, h3 with
  | [d], [], ⟨⟨b, hv, hd⟩, _⟩ =>
   subst hd;simp only [List.cons.injEq, D.bool.injEq, and_true] at e0;rw [hv, ← e0]
 subst hv
 have hW' := hW
 obtain ⟨p, q, hT, hV, hpq, hfz, hnd⟩ := hW'
 rw [hvars] at hV
 obtain ⟨rfl, rfl⟩ := trodVars_none hV
 rw [List.append_nil] at hpq
 subst hpq
 have K := kids_rows hl hm
 have hT' : ∀ t ∈ fn.params.toList, t < P.types.size := fun t ht => by simpa using List.all_eq_true.1 hts t ht
 refine post_same (pa := before) (pv := []) hW (fun b sp hd => ?_) (fun sp hsp => ?_) (fun sp _ => ?_) (by simp) (hk.keptBut _) (fun b off hlt => ?_) ?_
 ·rw [List.append_nil, hspec.1, hres]
  exact trodAll_mk1 (shut_bool hb bT)
 ·rw [List.append_nil, hspec.2.1]
  exact args_again K (fun h1 h2 => slices_full_of P hz _ _ h1 h2) hk hT' hT hsp
 ·rw [List.append_nil, hspec.2.2, hvars]
  rfl
 ·unfold World.frozen?
  rw [hk.block b hlt (fun h => h)]
 ·exact ok_one hres rfl (okWide_bool_mk hb bT)
def Fits : List BT → List D → Prop
 | [], [] => True
 | b :: bs, d :: ds => (∃ v, RdB b v d) ∧ Fits bs ds
 | _, _ => False
end
end Vs

namespace Vs
open Go Go.RowKit Go.ChangeShapes Go.WideShapes
section
variable {H : Type} {enc : TypeId × Value → H} {P : Program} {W : World}
theorem Fits.append : ∀ {bs cs : List BT} {xs ys : List D}, Fits bs xs → Fits cs ys → Fits (bs ++ cs) (xs ++ ys)
 | [], _, [], _, _, h => h
 | _ :: _, _, _ :: _, _, ⟨h1, h2⟩, h => ⟨h1, h2.append h⟩
theorem len_cons {α : Type} {l : List α} {n : Nat} (h : l.length = n + 1) : ∃ a t, l = a :: t ∧ t.length = n := by
 cases l with
 | nil => simp at h
 | cons a t => exact ⟨a, t, rfl, by simpa using h⟩
theorem len_nil {α : Type} {l : List α} (h : l.length = 0) : l = [] := List.eq_nil_of_length_eq_zero h
end
end Vs

namespace Vs
open Go
def gok : Option (D × Bool) → Bool
 | none => true
 | some (.bool b, w) => b == w
 | some _ => false
def gev (g : Option (D × Bool)) (p : Prim) (xs : List D) : Option D := if gok g then p.ev xs else some .undef
def gcall (G : Told) (g : Option (D × Bool)) (f : Nat) (xs : List D) (m : Nat) : Option (List D) :=
 if gok g then (match G f xs with | some ds => if ds.length = m then some ds else none | none => none) else some (List.replicate m .undef)
def tif {α : Type} (c : D) (a b : Option α) : Option α := match c with | .bool true => a | .bool false => b | _ => none
def tjoin (m : Nat) (r : Option (Nat × List D)) (k : List D → Option (Nat × List D)) : Option (Nat × List D) :=
 match r with
 | some (0, ds) => if ds.length = m then k ds else none
 | some (l + 1, ds) => some (l, ds)
 | none => none
def tbody (m : Nat) (k : List D → Option (Nat × List D)) (ds : List D) : Option (Nat × List D) := if ds.length = m then k ds else none
def padTo (ds : List D) : Nat → Nat → List D
 | 0, _ => []
 | m + 1, j => ds.getD j .undef :: padTo ds m (j + 1)
def gat (ρ : List D) : Guard → Option (D × Bool)
 | none => none
 | some (x, w) => some (x.ev ρ, w)
def runS (G : Told) (fuel : Nat) : T → List D → Option (Nat × List D)
 | .op g p xs k, ρ => (gev (gat ρ g) p (evs ρ xs)).bind fun d => runS G fuel k (ρ ++ [d])
 | .call g f xs m k, ρ => (gcall G (gat ρ g) f (evs ρ xs) m).bind fun ds => runS G fuel k (ρ ++ padTo ds m 0)
 | .ite c t e, ρ => tif (c.ev ρ) (runS G fuel t ρ) (runS G fuel e ρ)
 | .join m t k, ρ => tjoin m (runS G fuel t ρ) fun ds => runS G fuel k (ρ ++ padTo ds m 0)
 | .loop xs b, ρ => iter (tbody xs.length fun ds => runS G fuel b (ρ ++ padTo ds xs.length 0)) fuel (evs ρ xs)
 | .out l xs, ρ => some (l, evs ρ xs)
theorem padTo_eq (ds : List D) : ∀ (m j : Nat), ds.length = j + m → padTo ds m j = ds.drop j
 | 0, j, h => by rw [List.drop_of_length_le (by omega)]; rfl
 | m + 1, j, h => by
  rw [padTo, padTo_eq ds m (j + 1) (by omega), List.drop_eq_getElem_cons (by omega : j < ds.length)]
  simp [List.getD_eq_getElem?_getD, List.getElem?_eq_getElem (by omega : j < ds.length)]
theorem padTo_all {ds : List D} {m : Nat} (h : ds.length = m) : padTo ds m 0 = ds := by rw [padTo_eq ds m 0 (by omega)]; rfl
theorem padTo_undef (m : Nat) : padTo (List.replicate m D.undef) m 0 = List.replicate m .undef := padTo_all (by simp)
theorem gok_eq (ρ : List D) (g : Guard) : gok (gat ρ g) = g.ok ρ := by
 cases g with
 | none => rfl
 | some p =>
  obtain ⟨x, w⟩ := p;simp only [gat, Guard.ok]
  cases x.ev ρ <;> rfl
theorem run_eq {G : Told} {fuel : Nat} : ∀ (t : T) (ρ : List D), run G fuel t ρ = runS G fuel t ρ
 | .op g p xs k, ρ => by
  simp only [run, runS, gev, gok_eq];split
  ·cases p.ev (evs ρ xs) with
   | none => rfl
   | some d => exact run_eq k _
  ·exact run_eq k _
 | .call g f xs m k, ρ => by
  simp only [run, runS, gcall, gok_eq];split
  ·cases G f (evs ρ xs) with
   | none => rfl
   | some ds =>
    dsimp only
    split
    ·rename_i h
     rw [Option.bind_some, padTo_all h];exact run_eq k _
    ·rfl
  ·rw [Option.bind_some, padTo_undef]
   exact run_eq k _
 | .ite c t e, ρ => by
  simp only [run, runS, tif, run_eq t, run_eq e]
  cases c.ev ρ with
  | bool b => cases b <;> rfl
  | _ => rfl
 | .join m t k, ρ => by
  simp only [run, runS, tjoin, run_eq t]
  cases runS G fuel t ρ with
  | none => rfl
  | some r =>
   obtain ⟨l, ds⟩ := r
   cases l with
   | succ l => rfl
   | zero =>
    dsimp only
    split
    ·rename_i h
     rw [padTo_all h];exact run_eq k _
    ·rfl
 | .loop xs b, ρ => by
  simp only [run, runS]
  congr 1
  funext ds
  unfold tbody;split
  ·rename_i h
   show _ = runS G fuel b (ρ ++ padTo ds xs.length 0);rw [padTo_all h];exact run_eq b _
  ·rfl
 | .out l xs, ρ => rfl
section
variable {α : Type} {G : Told} {X : Option (Nat × List D)}
theorem st_some {r : Option α} {d : α} {K : α → Option (Nat × List D)} (h : r = some d) (k : K d = X) : r.bind K = X := by rw [h]; exact k
theorem st_t {r : Option D} {b : Bool} {K : D → Option (Nat × List D)} (h : r = some (.bool b)) (hb : b = true) (k : K (.bool true) = X) : r.bind K = X := by rw [h, hb]; exact k
theorem st_f {r : Option D} {b : Bool} {K : D → Option (Nat × List D)} (h : r = some (.bool b)) (hb : b = false) (k : K (.bool false) = X) : r.bind K = X := by rw [h, hb]; exact k
theorem gcall_on {g : Option (D × Bool)} {f : Nat} {xs : List D} {m : Nat} {F : List D → Option (List D)} {ds : List D} (hg : G f = F) (hk : gok g = true) (h : F xs = some ds) (hl : ds.length = m) : gcall G g f xs m = some ds := by
 subst hg
 simp [gcall, hk, h, hl]
theorem st_call {g : Option (D × Bool)} {f : Nat} {xs : List D} {m : Nat} {F : List D → Option (List D)} {ds : List D} {K : List D → Option (Nat × List D)} (hg : G f = F) (hk : gok g = true) (h : F xs = some ds) (hl : ds.length = m) (k : K ds = X) :
  (gcall G g f xs m).bind K = X := by rw [gcall_on hg hk h hl]; exact k
theorem st_callt {g : Option (D × Bool)} {f : Nat} {xs : List D} {F : List D → Option (List D)} {b : Bool} {K : List D → Option (Nat × List D)} (hg : G f = F) (hk : gok g = true) (h : F xs = some [.bool b]) (hb : b = true) (k : K [.bool true] = X) :
  (gcall G g f xs 1).bind K = X := by subst hb; rw [gcall_on (m := 1) hg hk h rfl]; exact k
theorem st_callf {g : Option (D × Bool)} {f : Nat} {xs : List D} {F : List D → Option (List D)} {b : Bool} {K : List D → Option (Nat × List D)} (hg : G f = F) (hk : gok g = true) (h : F xs = some [.bool b]) (hb : b = false) (k : K [.bool false] = X) :
  (gcall G g f xs 1).bind K = X := by subst hb; rw [gcall_on (m := 1) hg hk h rfl]; exact k
theorem st_skip {g : Option (D × Bool)} {f : Nat} {xs : List D} {m : Nat} {K : List D → Option (Nat × List D)} (hk : gok g = false) (k : K (List.replicate m .undef) = X) : (gcall G g f xs m).bind K = X := by simp [gcall, hk]; exact k
theorem st_wide {g : Option (D × Bool)} {d : D} {x : Nat} {K : D → Option (Nat × List D)} (hg : gok g = true) (hd : d = .flt x) (k : K (.flt (wide x)) = X) : (gev g (.f2f .f32 .f64) [d]).bind K = X := by
 subst hd
 simp only [gev, hg, if_true, Prim.ev, f2f_wide, Option.map_some, Option.bind_some]
 exact k
theorem st_ift {a b : Option (Nat × List D)} (k : a = X) : tif (.bool true) a b = X := k
theorem st_iff {a b : Option (Nat × List D)} (k : b = X) : tif (.bool false) a b = X := k
theorem st_join {m : Nat} {r : Option (Nat × List D)} {ds : List D} {K : List D → Option (Nat × List D)} (h : r = some (0, ds)) (hl : ds.length = m) (k : K ds = X) : tjoin m r K = X := by subst h; simp only [tjoin, hl, if_true]; exact k
theorem st_out {m l : Nat} {r : Option (Nat × List D)} {ds : List D} {K : List D → Option (Nat × List D)} (h : r = some (l + 1, ds)) (k : some (l, ds) = X) : tjoin m r K = X := by subst h; exact k
theorem iter_go {body : List D → Option (Nat × List D)} {f : Nat} {ds ds' : List D} (h : body ds = some (0, ds')) (k : iter body f ds' = X) : iter body (f + 1) ds = X := by rw [iter, h]; exact k
theorem iter_end {body : List D → Option (Nat × List D)} {f l : Nat} {ds ds' : List D} (h : body ds = some (l + 1, ds')) (k : some (l, ds') = X) : iter body (f + 1) ds = X := by rw [iter, h]; exact k
end
end Vs

namespace Vs
open Go Go.RowKit Go.ChangeShapes Go.WideShapes
def fitF (P : Program) (fit : TypeId → Bool) (cells : TypeId → Option (Bool × List BT)) : List Field → Nat → Nat → Bool
 | [], o, n => o == n
 | f :: r, o, n => f.offset == o && fit f.type && (match cells f.type with | some (_, bs) => bs.length == P.cellsOf f.type | none => false) && fitF P fit cells r (o + P.cellsOf f.type) n
def fitT (P : Program) : Nat → TypeId → Bool
 | 0, _ => false
 | d + 1, t =>
  match P.underlying t with
  | some (.struct fs) => fitF P (fitT P d) (plainCells P d) fs.toList 0 (P.cellsOf t)
  | some (.array n e) => fitT P d e && (match plainCells P d e with | some (_, bs) => bs.length == P.cellsOf e | none => false) && P.cellsOf t == n * P.cellsOf e
  | _ => true
def Small (d : D) : Prop := ∀ l, d = .lst l → l.length ≤ maxLen
section
variable {H : Type} {enc : TypeId × Value → H} {P : Program} {W : World}
theorem RdCs.app {α : Type} {Q : α → Value → D → Prop} : ∀ {ts us : List α} {a b : List Value} {c d : List D}, RdCs Q ts a c → RdCs Q us b d → RdCs Q (ts ++ us) (a ++ b) (c ++ d)
 | [], _, [], _, [], _, _, h => h
 | _ :: _, _, _ :: _, _, _ :: _, _, ⟨h1, h2⟩, h => ⟨h1, h2.app h⟩
theorem mapM_cons_some {α β : Type} {f : α → Option β} {a : α} {l : List α} {ys : List β} (h : (a :: l).mapM f = some ys) : ∃ y r, f a = some y ∧ l.mapM f = some r ∧ ys = y :: r := by
 simp only [List.mapM_cons, Option.bind_eq_bind, Option.bind_eq_some_iff, Option.pure_def, Option.some.injEq] at h
 obtain ⟨y, h1, r, h2, h3⟩ := h
 exact ⟨y, r, h1, h2, h3.symm⟩
theorem mapM_range_get {β : Type} {f : Nat → Option β} : ∀ (m i : Nat) {ys : List β}, (List.range' i m).mapM f = some ys → ys.length = m ∧ ∀ (j : Nat) y, ys[j]? = some y → f (i + j) = some y
 | 0, i, ys, h => by simp only [List.range'_zero, List.mapM_nil, Option.pure_def, Option.some.injEq] at h;subst h;simp
 | m + 1, i, ys, h => by
  rw [List.range'_succ] at h;obtain ⟨y, r, h1, h2, rfl⟩ := mapM_cons_some h;obtain ⟨i1, i2⟩ := mapM_range_get m (i + 1) h2;refine ⟨by simp [i1], fun j z hj => ?_⟩
  cases j with
  | zero => simp only [List.getElem?_cons_zero, Option.some.injEq] at hj; subst hj; exact h1
  | succ j =>
   simp only [List.getElem?_cons_succ] at hj;have := i2 j z hj;rwa [show i + 1 + j = i + (j + 1) from by omega] at this
theorem cells_get {base n : Nat} {a : Addr} {cs : List Value} (h : W.cells? base a n = some cs) : cs.length = n ∧ ∀ (j : Nat) u, cs[j]? = some u → W.cell? (a.add j) = some u := by
 unfold World.cells? at h
 split at h
 ·rw [List.range_eq_range'] at h
  obtain ⟨h1, h2⟩ := mapM_range_get n 0 h;exact ⟨h1, fun j u hj => by simpa using h2 j u hj⟩
 ·cases h
theorem cell_add {a : Addr} {n : Nat} {u : Value} (h : W.cell? (a.add n) = some u) : W.cell? ⟨a.block, a.off + n, none⟩ = some u ∧ (n = 0 → a.spot = none) ∧ a.block < W.heap.size := by
 have h1 : ∀ {b : Addr}, W.cell? b = some u → b.spot = none ∧ b.block < W.heap.size := by
  intro b hb;unfold World.cell? at hb;split at hb
  ·rename_i hh
   refine ⟨?_, (Array.getElem?_eq_some_iff.1 hh).1⟩
   cases hs : b.spot with
   | none => rfl
   | some _ => rw [hs] at hb; simp at hb
  ·cases hb
 by_cases hn : n = 0
 ·subst hn
  have e : a.add 0 = a := by simp [Addr.add]
  rw [e] at h;obtain ⟨g1, g2⟩ := h1 h;obtain ⟨b, off, spot⟩ := a;simp only at g1;subst g1;exact ⟨by simpa using h, fun _ => rfl, g2⟩
 ·have e : a.add n = ⟨a.block, a.off + n, none⟩ := by simp [Addr.add, hn]
  rw [e] at h;exact ⟨h, fun e => absurd e hn, (h1 h).2⟩
theorem add_at (a : Addr) (n : Nat) : (a.add n).block = a.block ∧ (a.add n).off = a.off + n := by
 by_cases hn : n = 0
 ·subst hn; simp [Addr.add]
 ·simp [Addr.add, hn]
theorem trod_sl {α : Type} {Q : α → Value → D → Prop} {bts : List α} {fuel base : Nat} {sp : Nat → Bool} {hd : Bool} {t e : TypeId} {cs : List Value} {x : DataW H × List MemPlace} {ag : Bool} (hu : P.underlying t = some (.slice e))
  (hel : ∀ {fuel : Nat} {c : List Value} {y : DataW H × List MemPlace}, DataW.trod enc P W base sp hd fuel e c = some y → ∃ l, RdCs Q bts c l) (hk : P.cellsOf e = bts.length) (hpos : 0 < bts.length) (h : DataW.trod enc P W base sp hd fuel t cs = some x) :
  ∃ v d, cs = [v] ∧ RdSl W (fun b => b < W.heap.size) (RdRow Q bts) ag v d ∧ Small d := by
 cases fuel with
 | zero => cases h
 | succ fuel =>
  unfold DataW.trod at h;rw [hu] at h;split at h <;> first | (rename_i heq; cases heq; done) | (cases h; done) | skip
  ·exact ⟨_, .lst [], rfl, ⟨[], rfl, .inl ⟨⟨none, 0, rfl, fun _ => rfl⟩, rfl⟩⟩, fun l e => by cases e; exact Nat.zero_le _⟩
  ·rename_i e' a len cap heq
   cases heq
   dsimp only at h
   split at h
   ·rename_i hc
    obtain ⟨ys, hys, _⟩ := Option.bind_eq_some_iff.1 h;rw [List.range_eq_range'] at hys;have key : ∀ (m i : Nat) (ys : List (DataW H × List MemPlace)), (List.range' i m).mapM (fun i => (W.cells? base (a.add (i * P.cellsOf e)) (P.cellsOf e)).bind (DataW.trod enc P W base sp hd fuel e)) = some ys →
      ∃ xs ls, ls.length = m ∧ RdRow Q bts xs ls ∧ ∀ (j : Nat) u, xs[j]? = some u → W.cell? ⟨a.block, a.off + (i * bts.length + j), none⟩ = some u ∧ (i * bts.length + j = 0 → a.spot = none) ∧ a.block < W.heap.size := by
     intro m
     induction m with
     | zero => intro i ys _; exact ⟨[], [], rfl, rfl, by simp⟩
     | succ m ih =>
      intro i ys hm;rw [List.range'_succ] at hm;obtain ⟨y, r, g1, g2, _⟩ := mapM_cons_some hm;obtain ⟨cs, g3, g4⟩ := Option.bind_eq_some_iff.1 g1;obtain ⟨k1, k2⟩ := cells_get g3;obtain ⟨d1, k3⟩ := hel g4;obtain ⟨xs, ls, j1, j2, j3⟩ := ih (i + 1) r g2;rw [hk] at k1 k2;refine ⟨cs ++ xs, d1 :: ls, by simp [j1], ⟨cs, xs, rfl, k3, j2⟩, fun j u hj => ?_⟩
      rcases Nat.lt_or_ge j cs.length with hlt | hge
      ·rw [List.getElem?_append_left hlt] at hj
       obtain ⟨c1, c2, c3⟩ := cell_add (k2 j u hj);obtain ⟨e1, e2⟩ := add_at a (i * bts.length);rw [e1, e2, Nat.add_assoc] at c1;rw [e1] at c3;refine ⟨c1, fun h0 => ?_, c3⟩
       have := c2 (by omega)
       have hz : i * bts.length = 0 := by omega
       rw [hz] at this;simpa [Addr.add] using this
      ·rw [List.getElem?_append_right hge, k1] at hj
       have := j3 _ u hj;rw [Nat.add_mul, Nat.one_mul, show i * bts.length + bts.length + (j - bts.length) = i * bts.length + j from by omega] at this
       exact this
    obtain ⟨xs, ls, j1, j2, j3⟩ := key len 0 ys hys;refine ⟨_, .lst (ls.map (unflat ag)), rfl, ⟨ls, rfl, ?_⟩, fun l e => by cases e; rw [List.length_map, j1]; exact Nat.le_trans hc.2.1 hc.2.2⟩
    by_cases hl : len = 0
    ·subst hl
     exact .inl ⟨⟨some a, cap, rfl, fun h => by cases h⟩, List.eq_nil_of_length_eq_zero j1⟩
    ·have hx : xs.length = ls.length * bts.length := j2.length
     have h0 : 0 < xs.length := by rw [hx, j1]; exact Nat.mul_pos (by omega) hpos
     obtain ⟨_, c2, c3⟩ := j3 0 xs[0] (List.getElem?_eq_getElem h0);obtain ⟨b, off, spot⟩ := a;have hsp : spot = none := c2 (by omega)
     subst hsp;exact .inr ⟨b, off, cap, xs, by rw [j1], by rw [j1]; exact hc.2.1, c3, fun j u hj => by simpa using (j3 j u hj).1, j2⟩
   ·cases h
def cellB (P : Program) (t : TypeId) (c : CT) : Bool :=
 match c with
 | .b b => decide (ctOf P t = some b)
 | .s1 et => (match P.underlying t with
  | some (.slice e) => fitT P 8 e && decide (plainCells P 8 e = some (et.agg, et.cells)) && P.cellsOf e == et.cells.length && decide (0 < et.cells.length)
  | _ => false)
 | .s2 et => (match P.underlying t with
  | some (.slice e) => (match P.underlying e with
   | some (.slice e') => P.cellsOf e == 1 && fitT P 8 e' && decide (plainCells P 8 e' = some (et.agg, et.cells)) && P.cellsOf e' == et.cells.length && decide (0 < et.cells.length)
   | _ => false)
  | _ => false)
theorem not_agg {r : Reach} {b0 : Nat} {t : TypeId} {c : CT} {v : Value} (hc : cellB P t c = true) (hv : Value.okWide P W r b0 t v) : v.cells = #[v] := by
 have key : (∀ fs, P.underlying t ≠ some (.struct fs)) → (∀ n e, P.underlying t ≠ some (.array n e)) → v.cells = #[v] := by
  intro h1 h2;unfold Value.okWide at hv;split at hv
  ·rename_i hu; exact absurd hu (h1 _)
  ·rename_i hu; exact absurd hu (h2 _ _)
  ·cases v with
   | agg cs =>
    unfold Cell.okWide at hv;split at hv <;> first | (rename_i heq; cases heq; done) | (rename_i heq _; cases heq; done) | skip
    all_goals first
     | (unfold Cell.ok at hv; split at hv <;> first | (rename_i heq; cases heq; done) | exact hv.elim)
     | skip
   | _ => rfl
 cases c with
 | b b =>
  simp only [cellB, decide_eq_true_eq] at hc;unfold ctOf at hc;refine key (fun fs hu => ?_) (fun n e hu => ?_) <;> (rw [hu] at hc; cases hc)
 | s1 et =>
  simp only [cellB] at hc;refine key (fun fs hu => ?_) (fun n e hu => ?_) <;> (rw [hu] at hc; cases hc)
 | s2 et =>
  simp only [cellB] at hc;refine key (fun fs hu => ?_) (fun n e hu => ?_) <;> (rw [hu] at hc; cases hc)
theorem Fm_nil : Fm W [] = fun b => b < W.heap.size := by
 funext b
 simp [Fm]
end
end Vs

namespace Vs
open Go Go.RowKit Go.ChangeShapes Go.WideShapes
section
variable {H : Type} {enc : TypeId × Value → H} {P : Program} {W : World}
def SmallR (c : CT) (d : D) : Prop := match c with | .s2 _ => ∀ l, d = .lst l → ∀ r ∈ l, Small r | _ => True
def FitsD (W : World) : List CT → List D → Prop
 | [], [] => True
 | c :: cs, d :: ds => (∃ v, RdC W (fun b => b < W.heap.size) c v d) ∧ Small d ∧ SmallR c d ∧ FitsD W cs ds
 | _, _ => False
def SmallsR : List CT → List D → Prop
 | c :: cs, d :: ds => Small d ∧ SmallR c d ∧ SmallsR cs ds
 | _, _ => True
theorem SmallsR.app : ∀ {as bs : List CT} {xs ys : List D}, as.length = xs.length → SmallsR as xs → SmallsR bs ys → SmallsR (as ++ bs) (xs ++ ys)
 | [], _, [], _, _, _, h => h
 | _ :: _, _, _ :: _, _, hl, ⟨h1, h2, h3⟩, h => ⟨h1, h2, SmallsR.app (by simpa using hl) h3 h⟩
theorem FitsD.append : ∀ {bs cs : List CT} {xs ys : List D}, FitsD W bs xs → FitsD W cs ys → FitsD W (bs ++ cs) (xs ++ ys)
 | [], _, [], _, _, h => h
 | _ :: _, _, _ :: _, _, ⟨h1, h2, h3, h4⟩, h => ⟨h1, h2, h3, h4.append h⟩
end
end Vs

namespace Vs
open Go
end Vs

namespace Vs
open Go Ieee
end Vs
namespace Vs
open Go Ieee
end Vs
namespace Vs
open Go Ieee
end Vs

namespace Vs
open Go
abbrev f1 : BT := .flt .f32
abbrev f8 : BT := .flt .f64
abbrev i8 : BT := .int .i64
abbrev pv (t : BT) : PK := .val false [.rd (.b t)]
abbrev rv (t : BT) : Bool × List RK := (false, [.cell t])
abbrev p1 (e : ET) : PK := .val false [.rd (.s1 e)]
abbrev p2 (e : ET) : PK := .val false [.rd (.s2 e)]
abbrev m1 (e : ET) (t : TypeId) (keep : Bool) : PK := .val false [.mt (.row (.s1 e) t) keep]
abbrev m2 (e : ET) (t u : TypeId) (keep : Bool) : PK := .val false [.mt (.rows e t u) keep]
abbrev r1 (e : ET) (t : TypeId) : Bool × List RK := (false, [.own (.row (.s1 e) t)])
abbrev r2 (e : ET) (t u : TypeId) : Bool × List RK := (false, [.own (.rows e t u)])
abbrev ei : ET := ⟨false, [i8]⟩
abbrev eV : ET := ⟨true, [f1, f1, f1]⟩
end Vs

namespace Vs
open Go
instance {n : Nat} : OfNat Atom n := ⟨.v n⟩
def kI (n : Int) : Atom := .c (.int n)
def kF (n : Nat) : Atom := .c (.flt n)
def kT : Atom := .c (.bool true)
def kN : Atom := .c (.bool false)
def kL : Atom := .c (.lst [])
def oo (p : Prim) (a : List Atom) (k : T) : T := .op none p a k
def oT (g : Atom) (p : Prim) (a : List Atom) (k : T) : T := .op (some (g, true)) p a k
def oN (g : Atom) (p : Prim) (a : List Atom) (k : T) : T := .op (some (g, false)) p a k
def cc (f : Nat) (a : List Atom) (m : Nat) (k : T) : T := .call none f a m k
def cT (g : Atom) (f : Nat) (a : List Atom) (m : Nat) (k : T) : T := .call (some (g, true)) f a m k
def cN (g : Atom) (f : Nat) (a : List Atom) (m : Nat) (k : T) : T := .call (some (g, false)) f a m k
def Runs (G : Told) (F : List D → Option (List D)) (t : T) : Prop := ∀ ds rs, F ds = some rs → ∃ fuel, run G fuel t ds = some (0, rs)
end Vs

namespace Vs
open Go Ieee
def rnd (n d : Nat) : Nat := n / 2 ^ d + (decide (2 ^ d < 2 * (n % 2 ^ d)) || (2 ^ d == 2 * (n % 2 ^ d) && n / 2 ^ d % 2 == 1)).toNat
theorem rnd_le (n d : Nat) : rnd n d ≤ n / 2 ^ d + 1 := by
 unfold rnd
 have := Bool.toNat_le (decide (2 ^ d < 2 * (n % 2 ^ d)) || (2 ^ d == 2 * (n % 2 ^ d) && n / 2 ^ d % 2 == 1))
 omega
theorem le_rnd (n d : Nat) : n / 2 ^ d ≤ rnd n d := Nat.le_add_right _ _
theorem cut_rnd (neg : Bool) (n d : Nat) : Toward.even.cut neg n d = rnd n d := by
 by_cases h : d ≤ n.log2 + 2
 ·simp only [Toward.cut, rnd, Nat.min_eq_left h, Nat.one_shiftLeft]
 ·have hn : n < 2 ^ (n.log2 + 1) := Nat.lt_log2_self
  have h2 : 2 ^ (n.log2 + 2) = 2 * 2 ^ (n.log2 + 1) := by rw [Nat.pow_succ, Nat.mul_comm]
  have h3 : 2 ^ (n.log2 + 2) ≤ 2 ^ d := Nat.pow_le_pow_right (by decide) (by omega)
  have e1 : n % 2 ^ (n.log2 + 2) = n := Nat.mod_eq_of_lt (by omega)
  have e2 : n / 2 ^ (n.log2 + 2) = 0 := Nat.div_eq_of_lt (by omega)
  have e3 : n % 2 ^ d = n := Nat.mod_eq_of_lt (by omega)
  have e4 : n / 2 ^ d = 0 := Nat.div_eq_of_lt (by omega)
  have c1 : ¬ (2 ^ (n.log2 + 2) < 2 * n) := by omega
  have c2 : ¬ (2 ^ d < 2 * n) := by omega
  simp [Toward.cut, rnd, Nat.min_eq_right (show n.log2 + 2 ≤ d by omega), Nat.one_shiftLeft, e1, e2, e3, e4, c1, c2]
theorem rnd_mono {n m d : Nat} (h : n ≤ m) : rnd n d ≤ rnd m d := by
 have hq : n / 2 ^ d ≤ m / 2 ^ d := Nat.div_le_div_right h
 rcases Nat.lt_or_eq_of_le hq with hlt | heq
 ·exact Nat.le_trans (rnd_le n d) (Nat.le_trans hlt (le_rnd m d))
 ·unfold rnd
  have hr : n % 2 ^ d ≤ m % 2 ^ d := by have h1 := Nat.div_add_mod n (2 ^ d);have h2 := Nat.div_add_mod m (2 ^ d);rw [← heq] at h2;omega
  rw [← heq];refine Nat.add_le_add_left ?_ _;generalize n % 2 ^ d = r at hr ⊢;generalize m % 2 ^ d = s at hr ⊢;generalize 2 ^ d = g at hr ⊢;generalize n / g = q
  cases hb : (decide (g < 2 * r) || (g == 2 * r && q % 2 == 1)) with
  | false => simp
  | true =>
   have : (decide (g < 2 * s) || (g == 2 * s && q % 2 == 1)) = true := by simp only [Bool.or_eq_true, decide_eq_true_eq, Bool.and_eq_true, beq_iff_eq] at hb ⊢;omega
   rw [this];exact Nat.le_refl _
theorem rnd_mul (n d k : Nat) : rnd (n * 2 ^ k) (d + k) = rnd n d := by
 unfold rnd
 have hk : 0 < 2 ^ k := Nat.two_pow_pos k
 rw [Nat.pow_add, Nat.mul_div_mul_right _ _ hk, Nat.mul_mod_mul_right]
 have e1 : (2 ^ d * 2 ^ k < 2 * (n % 2 ^ d * 2 ^ k)) = (2 ^ d < 2 * (n % 2 ^ d)) := by rw [← Nat.mul_assoc];exact propext (Nat.mul_lt_mul_right hk)
 have e2 : (2 ^ d * 2 ^ k == 2 * (n % 2 ^ d * 2 ^ k)) = (2 ^ d == 2 * (n % 2 ^ d)) := by rw [← Nat.mul_assoc];rw [Bool.eq_iff_iff];simp only [beq_iff_eq];exact ⟨fun h => Nat.eq_of_mul_eq_mul_right hk h, fun h => congrArg (· * 2 ^ k) h⟩
 simp only [e1, e2]
theorem rnd_zero (n : Nat) : rnd n 0 = n := by
 simp [rnd]
 omega
def rungN (f : Format) (N : Nat) (B : Int) : Nat :=
 if N = 0 then 0 else
 let last := max (B + N.log2 - f.fractionBits) f.leastPlace
 min ((last - f.leastPlace).toNat * f.binade + rnd N (last - B).toNat) f.infRung
theorem log2_mul_pow {n : Nat} (h : n ≠ 0) (k : Nat) : (n * 2 ^ k).log2 = n.log2 + k := by
 induction k with
 | zero => simp
 | succ k ih =>
  have h2 : n * 2 ^ k ≠ 0 := Nat.mul_ne_zero h (Nat.pos_iff_ne_zero.1 (Nat.two_pow_pos k));have h3 : n * 2 ^ (k + 1) = 2 * (n * 2 ^ k) := by rw [Nat.pow_succ, ← Nat.mul_assoc, Nat.mul_comm]
  rw [h3, Nat.log2_two_mul h2, ih];omega
theorem nearest_rung {f : Format} {neg : Bool} {mag : Nat} {place B : Int} (hB : B ≤ place) (hl : B ≤ f.leastPlace) :
  f.nearest neg mag place = f.word neg (rungN f (mag * 2 ^ (place - B).toNat) B) := by
 unfold Format.nearest rungN
 by_cases h0 : mag = 0
 ·subst h0
  simp
 ·have h1 : mag * 2 ^ (place - B).toNat ≠ 0 := Nat.mul_ne_zero h0 (Nat.pos_iff_ne_zero.1 (Nat.two_pow_pos _))
  rw [if_neg h0, if_neg h1];simp only [log2_mul_pow h0, cut_rnd, Nat.shiftLeft_eq];have e : B + ((mag.log2 + (place - B).toNat : Nat) : Int) - f.fractionBits = place + mag.log2 - f.fractionBits := by omega
  rw [e];generalize hlast : max (place + (mag.log2 : Int) - f.fractionBits) f.leastPlace = last;have hge : B ≤ last := by omega
  have e2 : rnd (mag * 2 ^ (place - last).toNat) (last - place).toNat = rnd (mag * 2 ^ (place - B).toNat) (last - B).toNat := by
   rcases Int.le_total last place with hp | hp
   ·have a1 : (last - place).toNat = 0 := by omega
    have a2 : (place - B).toNat = (place - last).toNat + (last - B).toNat := by omega
    rw [a1, a2, Nat.pow_add, ← Nat.mul_assoc];have := rnd_mul (mag * 2 ^ (place - last).toNat) 0 (last - B).toNat;rw [Nat.zero_add] at this;rw [this]
   ·have a1 : (place - last).toNat = 0 := by omega
    have a2 : (last - B).toNat = (last - place).toNat + (place - B).toNat := by omega
    rw [a1, a2, rnd_mul, Nat.pow_zero, Nat.mul_one]
  rw [e2]
theorem rungN_mono {f : Format} {N M : Nat} {B : Int} (hl : B ≤ f.leastPlace) (h : N ≤ M) : rungN f N B ≤ rungN f M B := by
 unfold rungN
 by_cases hN : N = 0
 ·rw [if_pos hN]; exact Nat.zero_le _
 ·have hM : M ≠ 0 := by omega
  rw [if_neg hN, if_neg hM];simp only;have hlog : N.log2 ≤ M.log2 := (Nat.le_log2 hM).2 (Nat.le_trans (Nat.log2_self_le hN) h);generalize h1 : max (B + (N.log2 : Int) - f.fractionBits) f.leastPlace = l1;generalize h2 : max (B + (M.log2 : Int) - f.fractionBits) f.leastPlace = l2;have h12 : l1 ≤ l2 := by omega
  refine (Nat.le_min).2 ⟨?_, Nat.min_le_right _ _⟩;refine Nat.le_trans (Nat.min_le_left _ _) ?_
  rcases Int.lt_or_eq_of_le h12 with hlt | heq
  ·
   have hb : f.binade = 2 ^ f.fractionBits := rfl;have k1 : rnd N (l1 - B).toNat ≤ 2 * f.binade := by
    have hN2 : N < 2 ^ (N.log2 + 1) := Nat.lt_log2_self;have hexp : N.log2 + 1 ≤ (f.fractionBits + 1) + (l1 - B).toNat := by omega
    have hN3 : N ≤ 2 ^ (f.fractionBits + 1) * 2 ^ (l1 - B).toNat := by rw [← Nat.pow_add];exact Nat.le_trans (Nat.le_of_lt hN2) (Nat.pow_le_pow_right (by decide) hexp)
    have := rnd_mono (d := (l1 - B).toNat) hN3;have hx := rnd_mul (2 ^ (f.fractionBits + 1)) 0 (l1 - B).toNat;rw [Nat.zero_add, rnd_zero] at hx;rw [hx, Nat.pow_succ, Nat.mul_comm] at this;exact this
   have k2 : f.binade ≤ rnd M (l2 - B).toNat := by
    have hexp : M.log2 = f.fractionBits + (l2 - B).toNat := by omega
    refine Nat.le_trans ?_ (le_rnd _ _);rw [Nat.le_div_iff_mul_le (Nat.two_pow_pos _), hb, ← Nat.pow_add, ← hexp];exact Nat.log2_self_le hM
   have k3 : (l1 - f.leastPlace).toNat + 1 ≤ (l2 - f.leastPlace).toNat := by omega
   have k4 := Nat.mul_le_mul_right f.binade k3;rw [Nat.add_mul, Nat.one_mul] at k4;omega
  ·subst heq
   exact Nat.add_le_add_left (rnd_mono h) _
def valN (f : Format) (r : Nat) (B : Int) : Nat :=
 if r < f.binade then r * 2 ^ (f.leastPlace - B).toNat else (f.binade + r % f.binade) * 2 ^ (f.leastPlace + (r / f.binade - 1 : Nat) - B).toNat
theorem rungN_val {f : Format} {r : Nat} {B : Int} (hl : B ≤ f.leastPlace) (hr : r < f.infRung) : rungN f (valN f r B) B = r := by
 have hb : f.binade = 2 ^ f.fractionBits := rfl
 have hbp : 0 < f.binade := Nat.two_pow_pos _
 unfold valN
 split
 ·rename_i hlt
  by_cases h0 : r = 0
  ·subst h0; simp [rungN]
  ·have h1 : r * 2 ^ (f.leastPlace - B).toNat ≠ 0 := Nat.mul_ne_zero h0 (Nat.pos_iff_ne_zero.1 (Nat.two_pow_pos _))
   have hlog : r.log2 < f.fractionBits := (Nat.log2_lt h0).2 hlt;unfold rungN;rw [if_neg h1];simp only [log2_mul_pow h0];have e : max (B + ((r.log2 + (f.leastPlace - B).toNat : Nat) : Int) - f.fractionBits) f.leastPlace = f.leastPlace := by omega
   rw [e];have := rnd_mul r 0 (f.leastPlace - B).toNat;rw [Nat.zero_add, rnd_zero] at this;rw [this, Int.sub_self];simp only [Int.toNat_zero, Nat.zero_mul, Nat.zero_add];omega
 ·rename_i hge
  have hq : 1 ≤ r / f.binade := (Nat.le_div_iff_mul_le hbp).2 (by omega)
  have h0 : f.binade + r % f.binade ≠ 0 := by omega
  have hmod : r % f.binade < f.binade := Nat.mod_lt _ hbp;have hlog : (f.binade + r % f.binade).log2 = f.fractionBits := by
   refine Nat.le_antisymm ?_ ?_
   ·have : (f.binade + r % f.binade).log2 < f.fractionBits + 1 := (Nat.log2_lt h0).2 (by rw [Nat.pow_succ, ← hb]; omega)
    omega
   ·exact (Nat.le_log2 h0).2 (by rw [← hb]; omega)
  have h1 : (f.binade + r % f.binade) * 2 ^ (f.leastPlace + (r / f.binade - 1 : Nat) - B).toNat ≠ 0 := Nat.mul_ne_zero h0 (Nat.pos_iff_ne_zero.1 (Nat.two_pow_pos _));unfold rungN;rw [if_neg h1];simp only [log2_mul_pow h0, hlog];generalize hk : r / f.binade - 1 = k;have e : max (B + ((f.fractionBits + (f.leastPlace + (k : Nat) - B).toNat : Nat) : Int) - f.fractionBits) f.leastPlace = f.leastPlace + (k : Nat) := by omega
  rw [e];have := rnd_mul (f.binade + r % f.binade) 0 (f.leastPlace + (k : Nat) - B).toNat;rw [Nat.zero_add, rnd_zero] at this;rw [this];have e2 : (f.leastPlace + (k : Nat) - f.leastPlace).toNat = k := by omega
  rw [e2];have h3 := Nat.div_add_mod r f.binade;have h4 : r / f.binade = k + 1 := by omega
  rw [h4, Nat.mul_add, Nat.mul_one, Nat.mul_comm] at h3;omega
end Vs

namespace Vs
open Go Ieee
theorem nearest_crude {f : Format} {neg : Bool} {mag : Nat} {place L : Int} (h : mag ≠ 0 → place + mag.log2 ≤ L) (hL : f.leastPlace + f.fractionBits ≤ L) :
  ∃ r, f.nearest neg mag place = f.word neg r ∧ r ≤ ((L - f.fractionBits - f.leastPlace).toNat + 2) * f.binade := by
 have hb : f.binade = 2 ^ f.fractionBits := rfl
 unfold Format.nearest
 split
 ·exact ⟨0, rfl, Nat.zero_le _⟩
 ·rename_i h0
  have hp := h h0;refine ⟨_, rfl, Nat.le_trans (Nat.min_le_left _ _) ?_⟩;simp only [cut_rnd, Nat.shiftLeft_eq];generalize hlast : max (place + (mag.log2 : Int) - f.fractionBits) f.leastPlace = last;have k1 : rnd (mag * 2 ^ (place - last).toNat) (last - place).toNat ≤ 2 * f.binade := by
   have hm2 : mag < 2 ^ (mag.log2 + 1) := Nat.lt_log2_self;have hexp : mag.log2 + 1 + (place - last).toNat ≤ (f.fractionBits + 1) + (last - place).toNat := by omega
   have hm3 : mag * 2 ^ (place - last).toNat ≤ 2 ^ (f.fractionBits + 1) * 2 ^ (last - place).toNat := by refine Nat.le_trans (Nat.mul_le_mul_right _ (Nat.le_of_lt hm2)) ?_;rw [← Nat.pow_add, ← Nat.pow_add];exact Nat.pow_le_pow_right (by decide) hexp
   have := rnd_mono (d := (last - place).toNat) hm3;have hx := rnd_mul (2 ^ (f.fractionBits + 1)) 0 (last - place).toNat;rw [Nat.zero_add, rnd_zero] at hx;rw [hx, show 2 ^ (f.fractionBits + 1) = 2 * f.binade by rw [Nat.pow_succ, Nat.mul_comm, hb]] at this
   exact this
  have k2 : (last - f.leastPlace).toNat ≤ (L - f.fractionBits - f.leastPlace).toNat := by omega
  have k3 := Nat.mul_le_mul_right f.binade k2;rw [Nat.add_mul];omega
theorem word_mod {f : Format} {s : Bool} {r : Nat} (h : r < f.signWeight) : f.word s r % f.signWeight = r := by
 unfold Format.word
 split
 ·rw [Nat.add_mod_left]; exact Nat.mod_eq_of_lt h
 ·exact Nat.mod_eq_of_lt h
theorem read_crude {f : Format} {s : Bool} {r q : Nat} (hw : f.infRung < f.signWeight) (hq : (q + 2) * f.binade < f.infRung) (h : r ≤ (q + 2) * f.binade) :
  ∃ t m e, f.read (f.word s r) = .number t m e ∧ e + m.log2 ≤ f.leastPlace + q + 1 + f.fractionBits := by
 have hb : f.binade = 2 ^ f.fractionBits := rfl
 have hbp : 0 < f.binade := Nat.two_pow_pos _
 unfold Format.read
 simp only [word_mod (show r < f.signWeight by omega)]
 split
 ·rename_i hlt
  refine ⟨_, _, _, rfl, ?_⟩;have : r.log2 ≤ f.fractionBits := by
   by_cases h0 : r = 0
   ·subst h0; simp
   ·have := (Nat.log2_lt h0).2 hlt
    omega
  omega
 ·rw [if_pos (by omega)]
  refine ⟨_, _, _, rfl, ?_⟩;have hmod : r % f.binade < f.binade := Nat.mod_lt _ hbp;have h0 : f.binade + r % f.binade ≠ 0 := by omega
  have h1 : (f.binade + r % f.binade).log2 < f.fractionBits + 1 := (Nat.log2_lt h0).2 (by rw [Nat.pow_succ, ← hb]; omega)
  have h2 : r / f.binade ≤ q + 2 := by have := Nat.div_le_div_right (c := f.binade) h;rw [Nat.mul_div_cancel _ hbp] at this;exact this
  omega
theorem rootFrom_sq (n : Nat) : ∀ (todo root : Nat), root * root ≤ n → Datum.rootFrom n todo root * Datum.rootFrom n todo root ≤ n
 | 0, root, h => h
 | todo + 1, root, h => by
  unfold Datum.rootFrom;simp only;split
  ·rename_i hl
   exact rootFrom_sq n todo _ hl
  ·exact rootFrom_sq n todo _ h
theorem root_crude {digits : Nat} {s : Bool} {m : Nat} {i L : Int} {d : Datum} (h : Datum.root digits (.number s m i) = some d) (hL : i + m.log2 ≤ L) :
  ∃ t m' e', d = .number t m' e' ∧ (m' ≠ 0 → e' + m'.log2 ≤ L / 2 + 2) := by
 simp only [Datum.root] at h
 split at h
 ·rename_i h0
  simp only [Option.some.injEq] at h;subst h;exact ⟨_, _, _, rfl, fun h => absurd h0 h⟩
 ·rename_i h0
  split at h
  ·cases h
  ·simp only [Option.some.injEq] at h
   subst h;generalize hmore : 2 * digits - m.log2 + ((i - ((2 * digits - m.log2 : Nat) : Int)) % 2).toNat = more at *;refine ⟨_, _, _, rfl, ?_⟩;generalize hw : Datum.rootFrom (m <<< more) ((m <<< more).log2 / 2 + 1) 0 = whole;have hsq : whole * whole ≤ m * 2 ^ more := by rw [← hw, ← Nat.shiftLeft_eq];exact rootFrom_sq _ _ 0 (by simp)
   have hwl : whole ≠ 0 → 2 * whole.log2 ≤ m.log2 + more := by
    intro hw0;have h1 := Nat.log2_self_le hw0;have h2 : 2 ^ (whole.log2 + whole.log2) ≤ m * 2 ^ more := by rw [Nat.pow_add];exact Nat.le_trans (Nat.mul_le_mul h1 h1) hsq
    have h3 : m * 2 ^ more ≠ 0 := Nat.mul_ne_zero h0 (Nat.pos_iff_ne_zero.1 (Nat.two_pow_pos _));have := (Nat.le_log2 h3).2 h2;rw [log2_mul_pow h0] at this;omega
   have hlog : ∀ b : Bool, 2 * whole + b.toNat ≠ 0 → (2 * whole + b.toNat).log2 ≤ (m.log2 + more) / 2 + 1 := by
    intro b hb
    by_cases hw0 : whole = 0
    ·subst hw0
     have : (2 * 0 + b.toNat).log2 = 0 := by cases b <;> decide
     omega
    ·have h4 : 2 * whole + b.toNat < 2 ^ (whole.log2 + 2) := by
      have h5 : whole < 2 ^ (whole.log2 + 1) := Nat.lt_log2_self;have h6 : 2 ^ (whole.log2 + 2) = 2 * 2 ^ (whole.log2 + 1) := by rw [Nat.pow_succ, Nat.mul_comm]
      have h7 := Bool.toNat_le b;omega
     have h8 := (Nat.log2_lt hb).2 h4;have h9 := hwl hw0;omega
   have hfin : ∀ b : Bool, 2 * whole + b.toNat ≠ 0 → (i - (more : Nat)) / 2 - 1 + ((2 * whole + b.toNat).log2 : Int) ≤ L / 2 + 2 := by intro b hb;have := hlog b hb;omega
   exact fun hb => hfin _ hb
theorem nan_fnan (k : FloatKind) : ∃ s t, k.decode (fnan k) = .nan s t := by
 cases k
 ·exact ⟨_, _, rfl⟩
 ·exact ⟨_, _, rfl⟩
theorem num_canon {k : FloatKind} {x : Nat} {s : Bool} {m : Nat} {e : Int} (h : k.decode (canon k x) = .number s m e) : k.decode x = .number s m e := by
 unfold canon at h
 split at h
 ·obtain ⟨a, b, hn⟩ := nan_fnan k
  rw [hn] at h
  cases h
 ·exact h
theorem single_ok : single.infRung < single.signWeight := by decide
theorem wide_crude {x : Nat} {s : Bool} {m : Nat} {i : Int} (h : FloatKind.f64.decode (wide x) = .number s m i) : i + m.log2 ≤ 128 := by
 have hx := f2f_wide x
 unfold f2f at hx
 rw [if_neg (by decide)] at hx
 split at hx
 ·simp only [Option.some.injEq] at hx
  rw [← hx] at h;obtain ⟨a, b, hn⟩ := nan_fnan .f64;rw [hn] at h
  cases h
 ·simp only [Option.some.injEq] at hx
  rw [← hx] at h;have := num_canon h;rename_i s' _
  cases s' <;> cases this
 ·rename_i s' m' e' hr
  split at hx
  ·cases hx
  ·simp only [Option.some.injEq] at hx
   rw [← hx] at h;have h2 := num_canon h;obtain ⟨a, b, c⟩ := read_single hr;have hlog : m' ≠ 0 → e' + m'.log2 ≤ 127 := fun h0 => by have := (Nat.log2_lt h0).2 a;omega
   obtain ⟨r, g1, g2⟩ := nearest_crude (f := double) (neg := s') hlog (by decide)
   have h3 : double.read (double.nearest s' m' e') = .number s m i := h2;rw [g1] at h3;obtain ⟨t, m2, e2, g3, g4⟩ := read_crude (s := s') (q := 1149) double_ok (by decide) g2
   rw [g3] at h3;simp only [Datum.number.injEq] at h3;obtain ⟨_, rfl, rfl⟩ := h3;have e5 : double.leastPlace + ((1149 : Nat) : Int) + 1 + double.fractionBits = 128 := by decide
   omega
theorem narrow_crude {z : Nat} (h : ∀ s m i, FloatKind.f64.decode z = .number s m i → m ≠ 0 → i + m.log2 ≤ 120) : ∃ y, f2f .f64 .f32 z = some y := by
 unfold f2f
 rw [if_neg (by decide)]
 split
 ·exact ⟨_, rfl⟩
 ·exact ⟨_, rfl⟩
 ·rename_i s m e hr
  obtain ⟨r, g1, g2⟩ := nearest_crude (f := single) (neg := s) (fun h0 => h s m e hr h0) (by decide)
  obtain ⟨t, m2, e2, g3, g4⟩ := read_crude (s := s) (q := 246) single_ok (by decide) g2
  have : (FloatKind.f32.decode (FloatKind.f32.encode (.number s m e))).isInfinity = false := by show (single.read (single.nearest s m e)).isInfinity = false;rw [g1, g3];rfl
  rw [this];exact ⟨_, rfl⟩
theorem root_modest {z : Nat} (h : ∀ s m i, FloatKind.f64.decode z = .number s m i → i + m.log2 ≤ 128) : ∀ s m i, FloatKind.f64.decode (fsqrt .f64 z) = .number s m i → m ≠ 0 → i + m.log2 ≤ 120 := by
 intro s m i hd _
 unfold fsqrt fin at hd
 split at hd
 ·rename_i r hr
  have h2 := num_canon hd;unfold Format.sqrt at hr
  cases hz : FloatKind.f64.format.read z with
  | nan a b => rw [hz] at hr; simp [Datum.root] at hr
  | infinity a =>
   rw [hz] at hr
   cases a with
   | true => simp [Datum.root] at hr
   | false =>
    simp [Datum.root] at hr;subst hr
    cases h2
  | number a b c =>
   rw [hz] at hr;simp only [Option.map_eq_some_iff] at hr;obtain ⟨d, h3, h4⟩ := hr;obtain ⟨t, m', e', rfl, h5⟩ := root_crude h3 (h a b c hz);obtain ⟨r', g1, g2⟩ := nearest_crude (f := double) (neg := t) (L := 66) h5 (by decide)
   have h6 : double.read (double.nearest t m' e') = .number s m i := by have : double.nearest t m' e' = r := h4;rw [this];exact h2
   rw [g1] at h6;obtain ⟨t2, m2, e2, g3, g4⟩ := read_crude (s := t) (q := 1088) double_ok (by decide) g2
   rw [g3] at h6;simp only [Datum.number.injEq] at h6;obtain ⟨_, rfl, rfl⟩ := h6;have e5 : double.leastPlace + ((1088 : Nat) : Int) + 1 + double.fractionBits = 67 := by decide
   omega
 ·obtain ⟨a, b, hn⟩ := nan_fnan .f64
  rw [hn] at hd
  cases hd
def rootP (x : Nat) : Nat := (f2f .f64 .f32 (fsqrt .f64 (wide x))).getD 0
theorem f2f_root (x : Nat) : f2f .f64 .f32 (fsqrt .f64 (wide x)) = some (rootP x) := by
 obtain ⟨y, hy⟩ := narrow_crude (root_modest (fun s m i => wide_crude (x := x) (s := s) (m := m) (i := i)))
 rw [rootP, hy]
 rfl
end Vs

