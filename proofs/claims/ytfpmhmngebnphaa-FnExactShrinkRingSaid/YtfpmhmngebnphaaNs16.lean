/-
  Functions: from a function's text to its contract.
-/
import Derived.Test.YtfpmhmngebnphaaNs15
import Derived.Conc.MuLone
namespace Vs
open Go Go.RowKit

def cellsAt : Nat → Nat → List PC → List FC × List SB
  | _, _, [] => ([], [])
  | n, h, .rd t :: r => let p := cellsAt (n + 1) h r; (.d t (.v n) :: p.1, p.2)
  | n, h, .mt k _ :: r => let p := cellsAt (n + 1) (h + 1) r; (.o h :: p.1, k.sb 0 (.v n) :: p.2)
def capsAt : Nat → Nat → List (List PC) → List CV0 × List SB
  | _, _, [] => ([], [])
  | n, h, ts :: r => let p := cellsAt n h ts; let q := capsAt (n + ts.length) (h + p.2.length) r; (.fcel p.1 0 :: q.1, p.2 ++ q.2)
def capCount : List (List PC) → Nat
  | [] => 0
  | ts :: r => ts.length + capCount r
def initP : List PK → Nat → Nat → List SV × List SB
  | [], _, _ => ([], [])
  | .val ag ts :: ps, n, h => let p := cellsAt n h ts; let q := initP ps (n + ts.length) (h + p.2.length); ((if ag then .agg (p.1.map FC.cv) else match p.1 with | [x] => .c x.cv | _ => SV.undef) :: q.1, p.2 ++ q.2)
  | .ptr ts :: ps, n, h => let p := cellsAt n h ts; let q := initP ps (n + ts.length) (h + p.2.length); (.c (.s (.fcel p.1 0)) :: q.1, p.2 ++ q.2)
  | .fn f caps :: ps, n, h => let p := capsAt n h caps; let q := initP ps (n + capCount caps) (h + p.2.length); (.c (.fn f p.1) :: q.1, p.2 ++ q.2)
def initCount : List PK → Nat
  | [] => 0
  | .val _ ts :: ps => ts.length + initCount ps
  | .ptr ts :: ps => ts.length + initCount ps
  | .fn _ caps :: ps => capCount caps + initCount ps
def initSS (ps : List PK) (ntmps : Nat) : SS := { n := initCount ps, slots := (initP ps 0 0).1 ++ List.replicate (ntmps - ps.length) SV.undef, heap := (initP ps 0 0).2 }

/-- What is handed over, in order. -/
def handsC : List PC → List (MK × Bool)
  | [] => []
  | .rd _ :: r => handsC r
  | .mt k keep :: r => (k, keep) :: handsC r
def handsP : List PK → List (MK × Bool)
  | [] => []
  | .val _ ts :: r => handsC ts ++ handsP r
  | .ptr ts :: r => handsC ts ++ handsP r
  | .fn _ caps :: r => caps.flatMap handsC ++ handsP r

def isS1 : CT → Bool
  | .s1 _ => true
  | _ => false
/-- The atom of a result's cell, and the own block that it hands over. -/
def resCell (S : SS) : RK → CV → Res (Atom × Option Nat)
  | .cell t, .s (.dat t' x) => if t' = .b t then .ok (x, none) else .error "result cell"
  | .own k, .s (.own β) =>
    match S.heap[β]?, k with
    | some (.row t' e' x), .row t e => if t = t' ∧ e = e' ∧ isS1 t = true then .ok (x, some β) else .error "result row"
    | some (.rows et' f' e' _ x), .rows et f e => if et = et' ∧ f = f' ∧ e = e' then .ok (x, some β) else .error "result rows"
    | _, _ => .error "result block"
  | .own (.row (.s1 _) _), .s .nils => .ok (.c (.lst []), none)
  | .own (.rows _ _ _), .s .nils => .ok (.c (.lst []), none)
  | _, _ => .error "result"
/-- What is handed back. -/
def keptA (S : SS) : Nat → List (MK × Bool) → Res (List Atom × List (Option Nat))
  | _, [] => .ok ([], [])
  | β, (k, keep) :: r =>
    if keep = true then do
      let (x, o) ← resCell S (.own k) (.s (.own β))
      let (xs, os) ← keptA S (β + 1) r
      .ok (x :: xs, o :: os)
    else keptA S (β + 1) r
def resCellsA (S : SS) : List RK → List CV → Res (List Atom × List (Option Nat))
  | [], [] => .ok ([], [])
  | r :: rs, c :: cs => do
    let (x, o) ← resCell S r c
    let (xs, os) ← resCellsA S rs cs
    .ok (x :: xs, (match r with | .own _ => o :: os | .cell _ => os))
  | _, _ => .error "results"
def resVarS (P : Program) (S : SS) : ResultVar → Res (Bool × List CV)
  | .tmp t => do
    let s ← need S.slots[t]? "result slot"
    need (svCells s) "result value"
  | .cell p t => do
    let agg ← need (isAggB P t) "result type"
    let sz ← need (sizeB P t) "result size"
    match S.slots[p]? with
    | some (.c (.s (.vptr β off))) =>
      match S.heap[β]? with
      | some (.var cs) =>
        let part := (cs.drop off).take sz
        if part.length = sz ∧ 0 < sz ∧ (agg = true ∨ sz = 1) then .ok (agg, part) else .error "result part"
      | _ => .error "result variable"
    | _ => .error "result pointer"
def retAll (P : Program) (S : SS) : List (Bool × List RK) → List ResultVar → Res (List Atom × List (Option Nat))
  | [], [] => .ok ([], [])
  | (ag, rks) :: rs, r :: vs => do
    let (ag', cs) ← resVarS P S r
    if ag = ag' then do
      let (xs, os) ← resCellsA S rks cs
      let (ys, ps) ← retAll P S rs vs
      .ok (xs ++ ys, os ++ ps)
    else .error "result shape"
  | _, _ => .error "number of results"
def retAtoms (P : Program) (S : SS) (sg : Sig) (vs : List ResultVar) : Res (List Atom) := do
  let (xs, os) ← retAll P S sg.results vs
  let (ys, ps) ← keptA S 0 (handsP sg.params)
  if ((os ++ ps).filterMap id).Nodup then .ok (xs ++ ys) else .error "an own row twice in a result"

def symFun (E : Env) (fn : Func) (c : Code) (sg : Sig) (h : H) : Res T :=
  symCode E c h (initSS sg.params fn.ntmps) (fun e S => match e with | .ret => (do let xs ← retAtoms E.P S sg fn.results.toList; .ok (0, xs)) | .exit _ => .error "exit")
    (fun S => do let xs ← retAtoms E.P S sg fn.results.toList; .ok (.out 0 xs))

section
variable {P : Program} {X : Nat → Prop} {M : Hand} {w0 w : World} {S : SS} {μ : Mu} {ρ : List D} {a : Act}

def BlocksR (w : World) (F : Nat → Prop) (ρ : List D) (sbs : List SB) (ms : List HM) : Prop :=
  sbs.length = ms.length ∧ ∀ (j : Nat) sb m, sbs[j]? = some sb → ms[j]? = some m → ∃ x d, sb = m.k.sb 0 x ∧ x.get ρ = some d ∧ OwnK w F m.k m.m d

theorem BlocksR.append {F : Nat → Prop} {a b : List SB} {m k : List HM} (h : BlocksR w F ρ a m) (h' : BlocksR w F ρ b k) : BlocksR w F ρ (a ++ b) (m ++ k) := by
  refine ⟨by simp [h.1, h'.1], fun j sb x hj hx => ?_⟩
  rcases Nat.lt_or_ge j a.length with hlt | hge
  · rw [List.getElem?_append_left hlt] at hj
    rw [List.getElem?_append_left (by rw [← h.1]; exact hlt)] at hx
    exact h.2 j sb x hj hx
  · rw [List.getElem?_append_right hge] at hj
    rw [List.getElem?_append_right (by rw [← h.1]; exact hge), ← h.1] at hx
    exact h'.2 _ sb x hj hx

/-- The own things' places. -/
def MuAt (μ : Mu) (h : Nat) (ms : List HM) : Prop := ∀ (j : Nat) m, ms[j]? = some m → μ (h + j) = m.m
theorem MuAt.left {h : Nat} {a b : List HM} (hm : MuAt μ h (a ++ b)) : MuAt μ h a := fun j m hj => hm j m (by rw [List.getElem?_append_left (List.getElem?_eq_some_iff.1 hj).1]; exact hj)
theorem MuAt.right {h : Nat} {a b : List HM} (hm : MuAt μ h (a ++ b)) : MuAt μ (h + a.length) b := fun j m hj => by
  have := hm (a.length + j) m (by rw [List.getElem?_append_right (by omega)]; simpa using hj)
  rwa [← Nat.add_assoc] at this

theorem cellsAt_ok {F : Nat → Prop} {hl : Nat} : ∀ {ts : List PC} {vs : List Value} {d0 d1 d2 : List D} {ms : List HM} {h : Nat}, ArgCs w F ts vs d1 ms → MuAt μ h ms → h + ms.length ≤ hl →
    CVRs w F hl μ (d0 ++ d1 ++ d2) ((cellsAt d0.length h ts).1.map FC.cv) vs ∧ BlocksR w F (d0 ++ d1 ++ d2) (cellsAt d0.length h ts).2 ms ∧ d1.length = ts.length ∧ handsC ts = ms.map fun m => (m.k, m.keep)
  | [], [], d0, d1, d2, ms, h, ⟨e1, e2⟩, _, _ => by
    subst e1 e2
    exact ⟨trivial, ⟨rfl, by simp [cellsAt]⟩, rfl, rfl⟩
  | t :: ts, v :: vs, d0, d1, d2, ms, h, ⟨d, dd, m1, m2, e1, e2, h1, h2⟩, hm, hle => by
    subst e1 e2
    cases t with
    | rd t =>
      obtain ⟨rfl, hr⟩ := h1
      obtain ⟨i1, i2, i3, i4⟩ := cellsAt_ok (hl := hl) (d0 := d0 ++ [d]) (d2 := d2) (h := h) h2 (by simpa using hm) (by simpa using hle)
      simp only [List.length_append, List.length_cons, List.length_nil] at i1 i2
      refine ⟨⟨⟨d, by simp [Atom.get], hr⟩, by simpa using i1⟩, by simpa [cellsAt] using i2, by simp [i3], by simp [handsC, i4]⟩
    | mt k keep =>
      obtain ⟨m, rfl, rfl, hk⟩ := h1
      have hmu : μ h = m := by simpa using hm 0 _ rfl
      obtain ⟨i1, i2, i3, i4⟩ := cellsAt_ok (hl := hl) (d0 := d0 ++ [d]) (d2 := d2) (h := h + 1) h2 hm.right (by simp at hle; omega)
      simp only [List.length_append, List.length_cons, List.length_nil] at i1 i2
      refine ⟨⟨⟨by simp at hle; omega, by rw [hmu], by rw [hmu]; exact hk.slice⟩, by simpa using i1⟩, ?_, by simp [i3], by simp [handsC, i4]⟩
      refine BlocksR.append (a := [k.sb 0 (.v d0.length)]) (m := [⟨m, k, keep⟩]) ⟨rfl, fun j sb x hj hx => ?_⟩ (by simpa using i2)
      cases j with
      | zero =>
        simp only [List.getElem?_cons_zero, Option.some.injEq] at hj hx
        subst hj hx
        exact ⟨_, d, rfl, by simp [Atom.get], hk⟩
      | succ j => simp at hj

theorem capsAt_ok {F : Nat → Prop} {hl : Nat} : ∀ {tss : List (List PC)} {vs : List Value} {d0 d1 d2 : List D} {ms : List HM} {h : Nat}, CapsR w F tss vs d1 ms → MuAt μ h ms → h + ms.length ≤ hl →
    vs.length = (capsAt d0.length h tss).1.length ∧ (∀ (j : Nat) c u, (capsAt d0.length h tss).1[j]? = some c → vs[j]? = some u → CVR0 w F hl μ (d0 ++ d1 ++ d2) c u) ∧ BlocksR w F (d0 ++ d1 ++ d2) (capsAt d0.length h tss).2 ms ∧
      d1.length = capCount tss ∧ tss.flatMap handsC = ms.map fun m => (m.k, m.keep)
  | [], [], d0, d1, d2, ms, h, ⟨e1, e2⟩, _, _ => by
    subst e1 e2
    exact ⟨rfl, by simp [capsAt], ⟨rfl, by simp [capsAt]⟩, rfl, rfl⟩
  | ts :: tss, v :: vs, d0, d1, d2, ms, h, ⟨da, db, m1, m2, e1, e2, h1, h2⟩, hm, hle => by
    subst e1 e2
    obtain ⟨b, o, us, rfl, hb, hcell, hc⟩ := h1
    simp only [List.length_append] at hle
    obtain ⟨i1, i2, i3, i4⟩ := cellsAt_ok (hl := hl) (d0 := d0) (d2 := db ++ d2) (h := h) hc hm.left (by omega)
    have hbl := i2.1
    obtain ⟨j1, j2, j3, j4, j5⟩ := capsAt_ok (hl := hl) (d0 := d0 ++ da) (d2 := d2) (h := h + m1.length) h2 hm.right (by omega)
    rw [List.length_append, i3, ← hbl] at j1 j2 j3
    refine ⟨by simp [capsAt, j1], fun j c u hj hu => ?_, ?_, by simp [capCount, i3, j4], by simp [i4, j5]⟩
    · cases j with
      | zero =>
        simp only [capsAt, List.getElem?_cons_zero, Option.some.injEq] at hj hu
        subst hj hu
        refine ⟨b, o, rfl, hb, fun j c hj => ?_⟩
        obtain ⟨u, hu, hr⟩ := i1.get (j := j) (c := c.cv) (by rw [List.getElem?_map, hj]; rfl)
        exact ⟨u, hcell j u hu, FCR_cv.2 (by simpa using hr)⟩
      | succ j =>
        simp only [capsAt, List.getElem?_cons_succ] at hj hu
        simpa using j2 j c u hj hu
    · exact BlocksR.append (by simpa using i2) (by simpa using j3)

theorem initP_ok {F : Nat → Prop} {hl : Nat} : ∀ {ps : List PK} {vs : List Value} {d0 ds : List D} {ms : List HM} {h : Nat}, ArgsR w F ps vs ds ms → MuAt μ h ms → h + ms.length ≤ hl →
    (initP ps d0.length h).1.length = ps.length ∧ vs.length = ps.length ∧ ds.length = initCount ps ∧ BlocksR w F (d0 ++ ds) (initP ps d0.length h).2 ms ∧ handsP ps = ms.map (fun m => (m.k, m.keep)) ∧
    ∀ (i : Nat) s, (initP ps d0.length h).1[i]? = some s → ∃ v, vs[i]? = some v ∧ SVR w F hl μ (d0 ++ ds) s v
  | [], [], d0, ds, ms, h, ⟨e1, e2⟩, _, _ => by
    subst e1 e2
    exact ⟨rfl, rfl, rfl, ⟨rfl, by simp [initP]⟩, rfl, by simp [initP]⟩
  | .val ag ts :: ps, v :: vs, d0, ds, ms, h, ⟨d1, d2, m1, m2, e1, e2, hv, hr⟩, hm, hle => by
    subst e1 e2
    simp only [List.length_append] at hle
    have hcs : ∃ us, ArgCs w F ts us d1 m1 ∧ (∀ {cs : List FC}, CVRs w F hl μ (d0 ++ (d1 ++ d2)) (cs.map FC.cv) us → SVR w F hl μ (d0 ++ (d1 ++ d2)) (if ag then .agg (cs.map FC.cv) else match cs with | [x] => .c x.cv | _ => SV.undef) v) := by
      cases ag with
      | true => obtain ⟨arr, rfl, hc⟩ := hv; exact ⟨_, hc, fun h => ⟨arr, rfl, h⟩⟩
      | false =>
        refine ⟨[v], hv, fun {cs} h => ?_⟩
        cases cs with
        | nil => trivial
        | cons c cs => cases cs with
          | nil => exact h.1
          | cons _ _ => trivial
    obtain ⟨us, hc, hfin⟩ := hcs
    obtain ⟨i1, i2, i3, i4⟩ := cellsAt_ok (hl := hl) (d0 := d0) (d2 := d2) (h := h) hc hm.left (by omega)
    have hbl := i2.1
    obtain ⟨j1, j2, j3, j4, j5, j6⟩ := initP_ok (hl := hl) (d0 := d0 ++ d1) (h := h + m1.length) hr hm.right (by omega)
    rw [List.length_append, i3, ← hbl] at j1 j4 j6
    refine ⟨by simp [initP, j1], by simp [j2], by simp [initCount, j3, i3], BlocksR.append (by simpa using i2) (by simpa using j4), by simp [handsP, i4, j5], fun i s hi => ?_⟩
    cases i with
    | zero =>
      simp only [initP, List.getElem?_cons_zero, Option.some.injEq] at hi
      subst hi
      exact ⟨v, rfl, hfin (by simpa using i1)⟩
    | succ i =>
      simp only [initP, List.getElem?_cons_succ] at hi ⊢
      obtain ⟨u, hu, hs⟩ := j6 i s hi
      exact ⟨u, hu, by simpa using hs⟩
  | .ptr ts :: ps, v :: vs, d0, ds, ms, h, ⟨d1, d2, m1, m2, e1, e2, hv, hr⟩, hm, hle => by
    subst e1 e2
    simp only [List.length_append] at hle
    obtain ⟨b, o, us, rfl, hb, hcell, hc⟩ := hv
    obtain ⟨i1, i2, i3, i4⟩ := cellsAt_ok (hl := hl) (d0 := d0) (d2 := d2) (h := h) hc hm.left (by omega)
    have hbl := i2.1
    obtain ⟨j1, j2, j3, j4, j5, j6⟩ := initP_ok (hl := hl) (d0 := d0 ++ d1) (h := h + m1.length) hr hm.right (by omega)
    rw [List.length_append, i3, ← hbl] at j1 j4 j6
    refine ⟨by simp [initP, j1], by simp [j2], by simp [initCount, j3, i3], BlocksR.append (by simpa using i2) (by simpa using j4), by simp [handsP, i4, j5], fun i s hi => ?_⟩
    cases i with
    | zero =>
      simp only [initP, List.getElem?_cons_zero, Option.some.injEq] at hi
      subst hi
      refine ⟨_, rfl, b, o, rfl, hb, fun j c hj => ?_⟩
      obtain ⟨u, hu, hr⟩ := i1.get (j := j) (c := c.cv) (by rw [List.getElem?_map, hj]; rfl)
      exact ⟨u, hcell j u hu, FCR_cv.2 (by simpa using hr)⟩
    | succ i =>
      simp only [initP, List.getElem?_cons_succ] at hi ⊢
      obtain ⟨u, hu, hs⟩ := j6 i s hi
      exact ⟨u, hu, by simpa using hs⟩
  | .fn f caps :: ps, v :: vs, d0, ds, ms, h, ⟨d1, d2, m1, m2, e1, e2, hv, hr⟩, hm, hle => by
    subst e1 e2
    simp only [List.length_append] at hle
    obtain ⟨cs, rfl, hc⟩ := hv
    obtain ⟨i1, i2, i5, i3, i4⟩ := capsAt_ok (hl := hl) (d0 := d0) (d2 := d2) (h := h) hc hm.left (by omega)
    have hbl := i5.1
    obtain ⟨j1, j2, j3, j4, j5, j6⟩ := initP_ok (hl := hl) (d0 := d0 ++ d1) (h := h + m1.length) hr hm.right (by omega)
    rw [List.length_append, i3, ← hbl] at j1 j4 j6
    refine ⟨by simp [initP, j1], by simp [j2], by simp [initCount, j3, i3], BlocksR.append (by simpa using i5) (by simpa using j4), by simp [handsP, i4, j5], fun i s hi => ?_⟩
    cases i with
    | zero =>
      simp only [initP, List.getElem?_cons_zero, Option.some.injEq] at hi
      subst hi
      exact ⟨_, rfl, cs, rfl, by simpa using i1, fun j c u hj hu => by simpa using i2 j c u hj (by simpa using hu)⟩
    | succ i =>
      simp only [initP, List.getElem?_cons_succ] at hi ⊢
      obtain ⟨u, hu, hs⟩ := j6 i s hi
      exact ⟨u, hu, by simpa using hs⟩

/-- What a function was handed. -/
def handOf (ms : List HM) : Hand := ⟨fun b => ∃ h ∈ ms, h.m.own b, ms.map fun h => h.m.v⟩

theorem OwnK.blkR {F F' : Nat → Prop} {Mine : Nat → Prop} {hl : Nat} {k : MK} {m : MV} {d : D} {x : Atom} (h : OwnK w F k m d) (hx : x.get ρ = some d) (hst : Stays F F' w w) (hM : ∀ b, m.own b → Mine b) : BlkR Mine w F' hl μ ρ (k.sb 0 x) m := by
  cases k with
  | row t e =>
    obtain ⟨h0, n, xs, ls, h1, rfl, h3, h4⟩ := h
    exact ⟨h0, n, xs, ls, h1, hM, hx, h3, h4.mono hst⟩
  | rows et e' e =>
    obtain ⟨h0, n, ls, h1, rfl, h3, h4, h5, h6⟩ := h
    exact ⟨h0, n, ls, h1, hM, hx, h3, h4, h5, h6⟩

def mu0 (ms : List HM) : Mu := fun β => ((ms[β]?).map HM.m).getD (MV.one Go.undef)

theorem init_ok {ps : List PK} {vs : List Value} {ds : List D} {ms : List HM} {ntmps : Nat} (h : ArgsR w (Fm w ms) ps vs ds ms) (hap : MApart (ms.map HM.m)) :
    R (fun _ => False) (handOf ms) w (initSS ps ntmps) (mu0 ms) ds { tmps := vs.toArray ++ Array.replicate (ntmps - vs.toArray.size) Go.undef, defers := [] } w := by
  have hmu : ∀ (j : Nat) m, ms[j]? = some m → mu0 ms j = m.m := fun j m hj => by simp [mu0, hj]
  obtain ⟨i1, i2, i3, i4, i5, i6⟩ := initP_ok (hl := ms.length) (μ := mu0 ms) (d0 := []) (h := 0) h (fun j m hj => by rw [Nat.zero_add]; exact hmu j m hj) (by omega)
  simp only [List.length_nil, List.nil_append] at i1 i4 i6
  have hH : (initSS ps ntmps).heap = (initP ps 0 0).2 := rfl
  have hbl := i4.1
  have hblk : ∀ {β : Nat} {sb : SB}, (initSS ps ntmps).heap[β]? = some sb → ∃ m : HM, ms[β]? = some m ∧ ∃ (x : Atom) (d : D), sb = m.k.sb 0 x ∧ x.get ds = some d ∧ OwnK w (Fm w ms) m.k m.m d := by
    intro β sb hb
    have hlt := (List.getElem?_eq_some_iff.1 hb).1
    rw [hH, hbl] at hlt
    have hm := List.getElem?_eq_getElem hlt
    exact ⟨_, hm, i4.2 β sb _ hb hm⟩
  have hF : ∀ b, Fm w ms b → Fz (fun _ => False) (initSS ps ntmps).heap (mu0 ms) w b := by
    intro b hb
    refine ⟨⟨hb.1, fun h => h⟩, fun β ⟨sb, hs, _⟩ ho => ?_⟩
    obtain ⟨m, hm, _⟩ := hblk hs
    rw [hmu β m hm] at ho
    exact hb.2 m (List.mem_of_getElem? hm) ho
  have hst : Stays (Fm w ms) (Fz (fun _ => False) (initSS ps ntmps).heap (mu0 ms) w) w w := ⟨hF, fun _ _ => rfl⟩
  have hhl : (initSS ps ntmps).heap.length = ms.length := hbl
  refine ⟨Keeps.refl _ _, i3, by simp [initSS, i1, i2], rfl, fun i s hi => ?_, fun β sb hb => ?_, fun _ h => h.elim, fun β γ hβ hγ hne b hb hb' => ?_, fun _ _ _ _ h => h, fun β v hv => ?_⟩
  · rw [hhl]
    simp only [initSS] at hi
    rcases Nat.lt_or_ge i (initP ps 0 0).1.length with hlt | hge
    · rw [List.getElem?_append_left hlt] at hi
      obtain ⟨v, hv, hs⟩ := i6 i s hi
      have hlv : i < vs.length := by omega
      have : (vs.toArray ++ Array.replicate (ntmps - vs.toArray.size) Go.undef).getD i Go.undef = v := by
        have e : vs[i] = v := by rw [List.getElem?_eq_getElem hlv] at hv; simpa using hv
        simp [Array.getD, hlv, e]
        intro h'
        omega
      rw [this]
      exact hs.mono (Grows.same hst ⟨[], by simp⟩ (Nat.le_refl _) fun _ _ => rfl)
    · rw [List.getElem?_append_right hge] at hi
      have := List.mem_of_getElem? hi
      rw [List.eq_of_mem_replicate this]
      trivial
  · obtain ⟨m, hm, x, d, rfl, hx, hk⟩ := hblk hb
    rw [hmu β m hm]
    exact hk.blkR hx hst fun b hb => .inr ⟨m, List.mem_of_getElem? hm, hb⟩
  · obtain ⟨s1, g1, _⟩ := hβ
    obtain ⟨s2, g2, _⟩ := hγ
    obtain ⟨m1, hm1, _⟩ := hblk g1
    obtain ⟨m2, hm2, _⟩ := hblk g2
    rw [hmu β m1 hm1] at hb
    rw [hmu γ m2 hm2] at hb'
    exact hap β γ m1.m m2.m (by rw [List.getElem?_map, hm1]; rfl) (by rw [List.getElem?_map, hm2]; rfl) hne b hb hb'
  · simp only [handOf, List.getElem?_map, Option.map_eq_some_iff] at hv
    obtain ⟨m, hm, rfl⟩ := hv
    refine ⟨?_, by rw [hmu β m hm]⟩
    rw [hhl]
    exact (List.getElem?_eq_some_iff.1 hm).1

/-! ### Results -/
theorem rowRd_s1 {F F' : Nat → Prop} {t : CT} {xs : List Value} {ls : List (List D)} (ht : isS1 t = true) (h : rowRd w F t xs ls) : rowRd w F' t xs ls := by
  cases t with
  | s1 _ => exact h
  | _ => cases ht

/-- What is told of an own thing that goes out. -/
def OutOk (M : Hand) (w0 : World) (S : SS) (μ : Mu) (o : Option Nat) (m : MV) : Prop :=
  (o = none ∧ ∀ b, ¬ m.own b) ∨ ∃ β, o = some β ∧ live S.heap β ∧ m = (μ β).now ∧ ∀ b, m.own b → w0.heap.size ≤ b ∨ M b

theorem resOwn_ok (h : R X M w0 S μ ρ a w) {k : MK} {β : Nat} {x : Atom} {o : Option Nat} (hc : resCell S (.own k) (.s (.own β)) = .ok (x, o)) :
    (∀ F, OwnK w F k (μ β).now (x.ev ρ)) ∧ OutOk M w0 S μ o (μ β).now := by
  simp only [resCell] at hc
  split at hc
  · rename_i t' e' y t e hrow
    split at hc
    · rename_i hte
      obtain ⟨rfl, rfl, ht⟩ := hte
      simp only [Except.ok.injEq, Prod.mk.injEq] at hc
      obtain ⟨rfl, rfl⟩ := hc
      obtain ⟨h0, n, xs, ls, g1, g2, g3, g4, g5⟩ := h.blocks _ _ hrow
      refine ⟨fun F => ?_, .inr ⟨_, rfl, ⟨_, hrow, by simp⟩, rfl, fun b hb => g2 b (MV.now_own.1 hb)⟩⟩
      rw [MV.now_nil h0]
      exact ⟨h0, n, xs, ls, g1, by rw [Atom.ev_of_get g3], g4, rowRd_s1 ht g5⟩
    · cases hc
  · rename_i et' f' e' ver y et f e hrow
    split at hc
    · rename_i hte
      obtain ⟨rfl, rfl, rfl⟩ := hte
      simp only [Except.ok.injEq, Prod.mk.injEq] at hc
      obtain ⟨rfl, rfl⟩ := hc
      obtain ⟨h0, n, ls, g1, g2, g3, g4, g5, g6, g7⟩ := h.blocks _ _ hrow
      have hne : (μ β).hist.isEmpty = false := by
        cases hh : (μ β).hist with
        | nil => rw [hh] at h0; cases h0
        | cons _ _ => rfl
      refine ⟨fun F => ?_, .inr ⟨_, rfl, ⟨_, hrow, by simp⟩, rfl, fun b hb => g2 b (MV.now_own.1 hb)⟩⟩
      exact ⟨by simp [MV.now, hne], n, ls, by rw [MV.now_inner]; exact g1, by rw [Atom.ev_of_get g3], g4, by rw [MV.now_inner]; exact g5, by rw [MV.now_inner]; exact g6, by rw [MV.now_inner]; exact g7⟩
    · cases hc
  · cases hc

theorem resCell_ok (h : R X M w0 S μ ρ a w) {r : RK} {c : CV} {x : Atom} {o : Option Nat} {v : Value} (hc : resCell S r c = .ok (x, o)) (hv : CVR w (Fz X S.heap μ w) S.heap.length μ ρ c v) :
    (∃ t, r = .cell t ∧ RdB t v (x.ev ρ)) ∨ (∃ k m, r = .own k ∧ m.v = v ∧ (∀ F, OwnK w F k m (x.ev ρ)) ∧ OutOk M w0 S μ o m) := by
  have hc0 := hc
  unfold resCell at hc
  split at hc
  · split at hc
    · rename_i ht
      subst ht
      simp only [Except.ok.injEq, Prod.mk.injEq] at hc
      obtain ⟨rfl, rfl⟩ := hc
      obtain ⟨d, hx, hd⟩ := hv
      exact .inl ⟨_, rfl, by rw [Atom.ev_of_get hx]; exact hd⟩
    · cases hc
  · rename_i k β
    obtain ⟨g1, g2⟩ := resOwn_ok h hc0
    obtain ⟨_, rfl, _⟩ := hv
    exact .inr ⟨k, (μ β).now, rfl, rfl, g1, g2⟩
  · simp only [Except.ok.injEq, Prod.mk.injEq] at hc
    obtain ⟨rfl, rfl⟩ := hc
    simp only [CVR, CVR0] at hv
    subst hv
    refine .inr ⟨_, ⟨.slice none 0 0, []⟩, rfl, rfl, fun F => ⟨rfl, 0, [], [], ⟨by simp, .inl ⟨rfl, rfl⟩⟩, rfl, rfl, rfl⟩, .inl ⟨rfl, fun b hb => ?_⟩⟩
    rcases hb with hb | ⟨u, hu, _⟩
    · cases hb
    · simp [MV.inner] at hu
  · simp only [Except.ok.injEq, Prod.mk.injEq] at hc
    obtain ⟨rfl, rfl⟩ := hc
    simp only [CVR, CVR0] at hv
    subst hv
    refine .inr ⟨_, ⟨.slice none 0 0, [[]]⟩, rfl, rfl, fun F => ⟨rfl, 0, [], ⟨by simp [MV.inner], .inl ⟨rfl, rfl⟩⟩, rfl, rfl, ⟨rfl, fun i u l hi => ?_⟩, fun i j u u' hi => ?_, fun u hu => ?_⟩, .inl ⟨rfl, fun b hb => ?_⟩⟩
    · simp [MV.inner] at hi
    · simp [MV.inner] at hi
    · simp [MV.inner] at hu
    · rcases hb with hb | ⟨u, hu, _⟩
      · cases hb
      · simp [MV.inner] at hu
  · cases hc

/-- What is told of the own things of a result. -/
def OwnsOk (M : Hand) (w0 : World) (S : SS) (μ : Mu) (os : List (Option Nat)) (vs : List MV) : Prop :=
  os.length = vs.length ∧ ∀ (j : Nat) o v, os[j]? = some o → vs[j]? = some v → OutOk M w0 S μ o v

theorem OwnsOk.append {os ps : List (Option Nat)} {vs us : List MV} (h : OwnsOk M w0 S μ os vs) (k : OwnsOk M w0 S μ ps us) : OwnsOk M w0 S μ (os ++ ps) (vs ++ us) := by
  refine ⟨by simp [h.1, k.1], fun j o v ho hv => ?_⟩
  rcases Nat.lt_or_ge j os.length with hj | hj
  · rw [List.getElem?_append_left hj] at ho
    rw [List.getElem?_append_left (by rw [← h.1]; exact hj)] at hv
    exact h.2 j o v ho hv
  · rw [List.getElem?_append_right hj] at ho
    rw [List.getElem?_append_right (by rw [← h.1]; exact hj), ← h.1] at hv
    exact k.2 _ o v ho hv

theorem resCellsA_ok (h : R X M w0 S μ ρ a w) : ∀ {rks : List RK} {cs : List CV} {xs : List Atom} {os : List (Option Nat)} {vs : List Value}, resCellsA S rks cs = .ok (xs, os) → CVRs w (Fz X S.heap μ w) S.heap.length μ ρ cs vs →
    ∃ us, ResCs w rks vs (evs ρ xs) us ∧ OwnsOk M w0 S μ os us
  | [], [], xs, os, [], hx, _ => by
    simp only [resCellsA, Except.ok.injEq, Prod.mk.injEq] at hx
    obtain ⟨rfl, rfl⟩ := hx
    exact ⟨[], trivial, rfl, by simp⟩
  | r :: rs, c :: cs, xs, os, v :: vs, hx, ⟨h1, h2⟩ => by
    simp only [resCellsA] at hx
    obtain ⟨⟨x, o⟩, g1, g2⟩ := bind_ok hx
    obtain ⟨⟨ys, ps⟩, g3, g4⟩ := bind_ok g2
    simp only [Except.ok.injEq, Prod.mk.injEq] at g4
    obtain ⟨rfl, rfl⟩ := g4
    obtain ⟨us, k1, k2⟩ := resCellsA_ok h g3 h2
    rcases resCell_ok h g1 h1 with ⟨t, rfl, hr⟩ | ⟨k, m, rfl, hmv, hr, ho⟩
    · exact ⟨us, ⟨hr, k1⟩, k2⟩
    · refine ⟨m :: us, ⟨hmv, hr, k1⟩, by simp [k2.1], fun j o' u ho' hu => ?_⟩
      cases j with
      | zero =>
        simp only [List.getElem?_cons_zero, Option.some.injEq] at ho' hu
        subst ho' hu
        exact ho
      | succ j => simp only [List.getElem?_cons_succ] at ho' hu; exact k2.2 j o' u ho' hu
  | [], _ :: _, _, _, _, hx, _ => by simp [resCellsA] at hx
  | _ :: _, [], _, _, _, hx, _ => by simp [resCellsA] at hx

def resVarRun (tmps : Array Value) : ResultVar → Sem Value
  | .tmp t => pure (tmps.getD t Go.undef)
  | .cell a t => do loadVar t (← asAddr (tmps.getD a Go.undef))

theorem resVarS_ok (h : R X M w0 S μ ρ a w) {r : ResultVar} {ag : Bool} {cs : List CV} (hr : resVarS P S r = .ok (ag, cs)) : ∃ v, (resVarRun a.tmps r).run P w = .ok v w ∧ PVR w (Fz X S.heap μ w) S.heap.length μ ρ ag cs v := by
  cases r with
  | tmp t =>
    simp only [resVarS] at hr
    obtain ⟨s, g1, g2⟩ := bind_ok hr
    have hs := h.slots t s (need_ok g1)
    have hc := need_ok g2
    refine ⟨_, rfl, ?_⟩
    unfold svCells at hc
    split at hc <;> simp only [Option.some.injEq, Prod.mk.injEq, reduceCtorEq] at hc
    · obtain ⟨rfl, rfl⟩ := hc; exact ⟨_, rfl, hs⟩
    · obtain ⟨rfl, rfl⟩ := hc; exact hs
  | cell p t =>
    simp only [resVarS] at hr
    obtain ⟨agg, g1, g2⟩ := bind_ok hr
    obtain ⟨sz, g3, g4⟩ := bind_ok g2
    split at g4
    · rename_i β off hs
      split at g4
      · rename_i cs' hcs
        split at g4
        · rename_i hlen
          simp only [Except.ok.injEq, Prod.mk.injEq] at g4
          obtain ⟨rfl, rfl⟩ := g4
          obtain ⟨_, b, hb, hp⟩ := h.slots p _ hs
          obtain ⟨_, b', arr, T, hb', _, hheap, hC⟩ := h.blocks β _ hcs
          rw [hb] at hb'
          simp only [Value.pointer.injEq, Option.some.injEq, Addr.mk.injEq, and_true] at hb'
          subst hb'
          have hC' := (hC.drop off).take sz
          have hvl : ((arr.toList.drop off).take sz).length = sz := by rw [← hC'.length]; exact hlen.1
          have hl := loadVar_ok (P := P) (w := w) (b := b) (o := off) (need_ok g1) (need_ok g3) hvl (fun j u hu => by rw [cell_of_cells hheap]; exact list_of_arr hu) hlen.2.1 w rfl
          refine ⟨if agg then .agg ((arr.toList.drop off).take sz).toArray else ((arr.toList.drop off).take sz).headD Go.undef, ?_, ?_⟩
          · simp only [resVarRun, hp, asAddr, Sem.run_bind, Sem.run_pure, Result.andThen_ok]
            exact hl
          · cases agg with
            | true => exact ⟨_, rfl, by simpa using hC'⟩
            | false =>
              rcases hlen.2.2 with h' | h'
              · cases h'
              · obtain ⟨c, hc⟩ := List.length_eq_one_iff.1 (hlen.1.trans h')
                rw [hc] at hC' ⊢
                obtain ⟨u, hu⟩ := List.length_eq_one_iff.1 (hvl.trans h')
                rw [hu] at hC' ⊢
                exact ⟨c, rfl, hC'.1⟩
        · cases g4
      · cases g4
    · cases g4

theorem retAll_ok (h : R X M w0 S μ ρ a w) : ∀ {rs : List (Bool × List RK)} {rvs : List ResultVar} {xs : List Atom} {os : List (Option Nat)}, retAll P S rs rvs = .ok (xs, os) →
    ∃ vs us, (rvs.mapM (resVarRun a.tmps)).run P w = .ok vs w ∧ ResAll w rs vs (evs ρ xs) us ∧ OwnsOk M w0 S μ os us ∧ vs.length = rvs.length ∧ rs.length = rvs.length
  | [], [], xs, os, hx => by
    simp only [retAll, Except.ok.injEq, Prod.mk.injEq] at hx
    obtain ⟨rfl, rfl⟩ := hx
    exact ⟨[], [], rfl, ⟨rfl, rfl⟩, ⟨rfl, by simp⟩, rfl, rfl⟩
  | (ag, rks) :: rs, r :: rvs, xs, os, hx => by
    simp only [retAll] at hx
    obtain ⟨⟨ag', cs⟩, g1, g2⟩ := bind_ok hx
    dsimp only at g2
    split at g2
    · rename_i hag
      subst hag
      obtain ⟨⟨ys, ps⟩, g3, g4⟩ := bind_ok g2
      dsimp only at g4
      obtain ⟨⟨zs, qs⟩, g5, g6⟩ := bind_ok g4
      simp only [Except.ok.injEq, Prod.mk.injEq] at g6
      obtain ⟨rfl, rfl⟩ := g6
      obtain ⟨v, k1, k2⟩ := resVarS_ok (P := P) h g1
      obtain ⟨vs, us, m1, m2, m3, m4, m5⟩ := retAll_ok h g5
      have hP : ∃ us', PRes w ag rks v (evs ρ ys) us' ∧ OwnsOk M w0 S μ ps us' := by
        cases ag with
        | true =>
          obtain ⟨arr, rfl, hc⟩ := k2
          obtain ⟨us', n1, n2⟩ := resCellsA_ok h g3 hc
          exact ⟨us', ⟨arr, rfl, n1⟩, n2⟩
        | false =>
          obtain ⟨c, rfl, hc⟩ := k2
          obtain ⟨us', n1, n2⟩ := resCellsA_ok h (vs := [v]) g3 ⟨hc, trivial⟩
          refine ⟨us', ⟨?_, n1⟩, n2⟩
          match rks, g3 with
          | [], g3 => simp [resCellsA] at g3
          | [_], _ => rfl
          | r1 :: r2 :: _, g3 =>
            simp only [resCellsA] at g3
            obtain ⟨_, _, g3⟩ := bind_ok g3
            obtain ⟨_, g3, _⟩ := bind_ok g3
            cases g3
      obtain ⟨us', n1, n2⟩ := hP
      refine ⟨v :: vs, us' ++ us, ?_, ⟨evs ρ ys, evs ρ zs, us', us, by simp [evs], rfl, n1, m2⟩, n2.append m3, by simp [m4], by simp [m5]⟩
      simp [List.mapM_cons, k1, m1]
    · cases g2
  | [], _ :: _, _, _, hx => by simp [retAll] at hx
  | _ :: _, [], _, _, hx => by simp [retAll] at hx

/-- What is handed back. -/
theorem keptA_ok {ms : List HM} (h : R X M w0 S μ ρ a w) : ∀ {hs : List HM} {β : Nat} {xs : List Atom} {os : List (Option Nat)}, (∀ (j : Nat) m, hs[j]? = some m → M.anc[β + j]? = some m.m.v) → keptA S β (hs.map fun m => (m.k, m.keep)) = .ok (xs, os) →
    ∃ ks, KeptR w hs (evs ρ xs) ks ∧ OwnsOk M w0 S μ os ks
  | [], β, xs, os, _, hx => by
    simp only [List.map_nil, keptA, Except.ok.injEq, Prod.mk.injEq] at hx
    obtain ⟨rfl, rfl⟩ := hx
    exact ⟨[], ⟨rfl, rfl⟩, rfl, by simp⟩
  | m :: hs, β, xs, os, ha, hx => by
    simp only [List.map_cons, keptA] at hx
    have ha' : ∀ (j : Nat) m, hs[j]? = some m → M.anc[β + 1 + j]? = some m.m.v := fun j m hj => by
      have := ha (j + 1) m (by simpa using hj)
      rwa [show β + (j + 1) = β + 1 + j from by omega] at this
    split at hx
    · rename_i hk
      obtain ⟨⟨x, o⟩, g1, g2⟩ := bind_ok hx
      obtain ⟨⟨ys, ps⟩, g3, g4⟩ := bind_ok g2
      simp only [Except.ok.injEq, Prod.mk.injEq] at g4
      obtain ⟨rfl, rfl⟩ := g4
      obtain ⟨ks, k1, k2⟩ := keptA_ok (ms := ms) h ha' g3
      obtain ⟨r1, r2⟩ := resOwn_ok h g1
      have hv := (h.anc β _ (ha 0 m rfl)).2
      refine ⟨(μ β).now :: ks, ?_, by simp [k2.1], fun j o' u ho' hu => ?_⟩
      · unfold KeptR
        rw [if_pos hk]
        exact ⟨_, _, _, _, rfl, rfl, hv, r1, k1⟩
      · cases j with
        | zero =>
          simp only [List.getElem?_cons_zero, Option.some.injEq] at ho' hu
          subst ho' hu
          exact r2
        | succ j => simp only [List.getElem?_cons_succ] at ho' hu; exact k2.2 j o' u ho' hu
    · rename_i hk
      obtain ⟨ks, k1, k2⟩ := keptA_ok (ms := ms) h ha' hx
      refine ⟨ks, ?_, k2⟩
      unfold KeptR
      rw [if_neg hk]
      exact k1

end
end Vs
