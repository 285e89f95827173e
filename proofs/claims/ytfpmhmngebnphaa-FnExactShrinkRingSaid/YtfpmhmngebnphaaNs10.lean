/-
  Operations that make memory, store, or call: contracts of functions; how a state is moved along.
-/
import Derived.Test.YtfpmhmngebnphaaNs9
namespace Vs
open Go Go.RowKit

/-! ### Contracts of functions -/
/-- An own thing that is handed on: its value, what it is, its data. -/
def OwnK (w : World) (F : Nat → Prop) : MK → MV → D → Prop
  | .row t e, m, d => m.hist = [] ∧ ∃ n xs ls, w.ownsRow 0 e (rowSz t) m.v n xs ∧ d = .lst (ls.map (unflat (rowAgg t))) ∧ ls.length = n ∧ rowRd w F t xs ls
  | .rows et e' e, m, d => m.hist.length = 1 ∧ ∃ n ls, w.ownsRow 0 e 1 m.v n m.inner ∧ d = rowsDat et.agg ls ∧ ls.length = n ∧ RowsD w et e' m.inner ls ∧
      Apart m.inner ∧ ∀ u ∈ m.inner, ∀ b, blkOf u = some b → blkOf m.v ≠ some b

/-- What was handed over. -/
structure HM where
  m : MV
  k : MK
  keep : Bool

def ArgC (w : World) (F : Nat → Prop) : PC → Value → D → List HM → Prop
  | .rd t, v, d, ms => ms = [] ∧ RdC w F t v d
  | .mt k keep, v, d, ms => ∃ m, ms = [⟨m, k, keep⟩] ∧ m.v = v ∧ OwnK w F k m d
def ArgCs (w : World) (F : Nat → Prop) : List PC → List Value → List D → List HM → Prop
  | [], [], ds, ms => ds = [] ∧ ms = []
  | t :: ts, v :: vs, ds, ms => ∃ d d2 m1 m2, ds = d :: d2 ∧ ms = m1 ++ m2 ∧ ArgC w F t v d m1 ∧ ArgCs w F ts vs d2 m2
  | _, _, _, _ => False

def PtrR (w : World) (F : Nat → Prop) (ts : List PC) (v : Value) (ds : List D) (ms : List HM) : Prop :=
  ∃ b o vs, v = .pointer (some ⟨b, o, none⟩) ∧ F b ∧ (∀ (j : Nat) u, vs[j]? = some u → w.cell? ⟨b, o + j, none⟩ = some u) ∧ ArgCs w F ts vs ds ms
def CapsR (w : World) (F : Nat → Prop) : List (List PC) → List Value → List D → List HM → Prop
  | [], [], ds, ms => ds = [] ∧ ms = []
  | ts :: tss, v :: vs, ds, ms => ∃ d1 d2 m1 m2, ds = d1 ++ d2 ∧ ms = m1 ++ m2 ∧ PtrR w F ts v d1 m1 ∧ CapsR w F tss vs d2 m2
  | _, _, _, _ => False
def ArgR (w : World) (F : Nat → Prop) : PK → Value → List D → List HM → Prop
  | .val true ts, v, ds, ms => ∃ arr : Array Value, v = .agg arr ∧ ArgCs w F ts arr.toList ds ms
  | .val false ts, v, ds, ms => ArgCs w F ts [v] ds ms
  | .ptr ts, v, ds, ms => PtrR w F ts v ds ms
  | .fn f caps, v, ds, ms => ∃ cs : Array Value, v = .func (.func f) #[] cs ∧ CapsR w F caps cs.toList ds ms
def ArgsR (w : World) (F : Nat → Prop) : List PK → List Value → List D → List HM → Prop
  | [], [], ds, ms => ds = [] ∧ ms = []
  | p :: ps, v :: vs, ds, ms => ∃ d1 d2 m1 m2, ds = d1 ++ d2 ∧ ms = m1 ++ m2 ∧ ArgR w F p v d1 m1 ∧ ArgsR w F ps vs d2 m2
  | _, _, _, _ => False

/-- No block belongs to two. -/
def MApart (ms : List MV) : Prop := ∀ (i j : Nat) m m', ms[i]? = some m → ms[j]? = some m' → i ≠ j → ∀ b, m.own b → ¬ m'.own b

/-- What a callee may read. -/
def Fm (w : World) (ms : List HM) (b : Nat) : Prop := b < w.heap.size ∧ ∀ h ∈ ms, ¬ h.m.own b

/-- The cells of a result; 'os': the own things among them, in order. -/
def ResCs (w : World) : List RK → List Value → List D → List MV → Prop
  | [], [], [], [] => True
  | .cell t :: rs, v :: vs, d :: ds, os => RdB t v d ∧ ResCs w rs vs ds os
  | .own k :: rs, v :: vs, d :: ds, o :: os => o.v = v ∧ (∀ F, OwnK w F k o d) ∧ ResCs w rs vs ds os
  | _, _, _, _ => False

def PRes (w : World) (agg : Bool) (rs : List RK) (v : Value) (ds : List D) (os : List MV) : Prop :=
  match agg with
  | true => ∃ arr : Array Value, v = .agg arr ∧ ResCs w rs arr.toList ds os
  | false => rs.length = 1 ∧ ResCs w rs [v] ds os

def ResAll (w : World) : List (Bool × List RK) → List Value → List D → List MV → Prop
  | [], [], ds, os => ds = [] ∧ os = []
  | (ag, rs) :: r, v :: vs, ds, os => ∃ d1 d2 o1 o2, ds = d1 ++ d2 ∧ os = o1 ++ o2 ∧ PRes w ag rs v d1 o1 ∧ ResAll w r vs d2 o2
  | _, _, _, _ => False

/-- What is handed back. -/
def KeptR (w : World) : List HM → List D → List MV → Prop
  | [], ds, ks => ds = [] ∧ ks = []
  | h :: hs, ds, ks => if h.keep = true then ∃ d d2 k k2, ds = d :: d2 ∧ ks = k :: k2 ∧ k.v = h.m.v ∧ (∀ F, OwnK w F h.k k d) ∧ KeptR w hs d2 k2 else KeptR w hs ds ks

def ResR (base : Nat) (w : World) (ms : List HM) (rs : List (Bool × List RK)) (v : Value) (ds : List D) : Prop :=
  ∃ vs os ks d1 d2, (if rs.length = 1 then vs = [v] else v = .tuple vs.toArray) ∧ ds = d1 ++ d2 ∧ ResAll w rs vs d1 os ∧ KeptR w ms d2 ks ∧
    (∀ u ∈ os ++ ks, ∀ b, u.own b → base ≤ b ∨ ∃ h ∈ ms, h.m.own b) ∧ MApart (os ++ ks)

structure SoundCall (P : Program) (f : FuncId) (sg : Sig) (G : List D → Option (List D)) : Prop where
  enter : ∀ args w, (callFunc f args).run P w = .ok (.enter f args) w
  calls : ∀ vs ds ms (w : World) rs, ArgsR w (Fm w ms) sg.params vs ds ms → MApart (ms.map HM.m) → G ds = some rs →
    Calls P f vs.toArray w fun e w' => ∃ v, e = .returned v ∧ Keeps (fun b => ∃ h ∈ ms, h.m.own b) w w' ∧ ResR w.heap.size w' ms sg.results v rs

/-! ### Own things -/
section
variable {w w' : World} {F F' : Nat → Prop}

theorem OwnK.lt {k : MK} {m : MV} {d : D} (h : OwnK w F k m d) {b : Nat} (hb : m.own b) : b < w.heap.size := by
  have row : ∀ {e sz n : Nat} {v : Value} {xs : List Value}, w.ownsRow 0 e sz v n xs → blkOf v = some b → b < w.heap.size := by
    intro e sz n v xs h hb
    rcases h.2 with ⟨rfl, _⟩ | ⟨g, cap, cur, rfl, _, e3, _⟩
    · cases hb
    · simp only [blkOf, Option.some.injEq] at hb
      subst hb
      exact (Array.getElem?_eq_some_iff.1 e3).1
  cases k with
  | row t e =>
    obtain ⟨h0, n, xs, ls, h1, _⟩ := h
    exact row h1 ((MV.own_flat h0).1 hb)
  | rows et e' e =>
    obtain ⟨h0, n, ls, h1, _, hn, ⟨h2, h3⟩, _⟩ := h
    rcases hb with hb | ⟨u, hu, hb⟩
    · exact row h1 hb
    · obtain ⟨i, hi⟩ := List.getElem?_of_mem hu
      have hlt : i < ls.length := by rw [← h2]; exact (List.getElem?_eq_some_iff.1 hi).1
      obtain ⟨k, xs, hk, _⟩ := h3 i u _ hi (List.getElem?_eq_getElem hlt)
      exact row hk hb

theorem ownsRow_kept {e sz n : Nat} {v : Value} {xs : List Value} (h : w.ownsRow 0 e sz v n xs) (hb : ∀ b, blkOf v = some b → w'.heap[b]? = w.heap[b]?) : w'.ownsRow 0 e sz v n xs := by
  refine ⟨h.1, ?_⟩
  rcases h.2 with hn | ⟨g, cap, cur, e1, e2, e3, e4⟩
  · exact .inl hn
  · refine .inr ⟨g, cap, cur, e1, e2, ?_, e4⟩
    rw [hb g (by rw [e1]; rfl)]
    exact e3

theorem RowsD.kept {et : ET} {e' : TypeId} {us : List Value} {ls : List (List (List D))} (h : RowsD w et e' us ls) (hb : ∀ u ∈ us, ∀ b, blkOf u = some b → w'.heap[b]? = w.heap[b]?) : RowsD w' et e' us ls := by
  refine ⟨h.1, fun i u l hi hl => ?_⟩
  obtain ⟨n, xs, h1, h2⟩ := h.2 i u l hi hl
  exact ⟨n, xs, ownsRow_kept h1 (hb u (List.mem_of_getElem? hi)), h2⟩
end

/-! ### Moving a state along -/
section
variable {P : Program} {X : Nat → Prop} {M : Hand} {w0 w w' : World} {S : SS} {μ μ' : Mu} {ρ : List D} {a : Act}

theorem live_lt {h : List SB} {β : Nat} (hl : live h β) : β < h.length := by
  obtain ⟨sb, hs, _⟩ := hl
  rcases Nat.lt_or_ge β h.length with h' | h'
  · exact h'
  · rw [List.getElem?_eq_none h'] at hs; cases hs

theorem Grows.same {F F' : Nat → Prop} {hl hl' : Nat} {ρ ρ' : List D} (hs : Stays F F' w w') (he : ∃ σ, ρ' = ρ ++ σ) (hle : hl ≤ hl') (hμ : ∀ β, β < hl → μ' β = μ β) : Grows F F' hl hl' μ μ' ρ ρ' w w' :=
  ⟨hs, he, hle, fun β hb => by rw [hμ β hb]; exact ⟨rfl, [], by simp⟩⟩

theorem BlkR.grow {Mine : Nat → Prop} {F F' : Nat → Prop} {hl hl' : Nat} {ρ ρ' : List D} {sb : SB} {m : MV} (hg : Grows F F' hl hl' μ μ' ρ ρ' w w') (hsz : w.heap.size ≤ w'.heap.size) (hb : ∀ b, m.own b → w'.heap[b]? = w.heap[b]?)
    (h : BlkR Mine w F hl μ ρ sb m) : BlkR Mine w' F' hl' μ' ρ' sb m := by
  cases sb with
  | dead => trivial
  | hid => exact fun b hb' => Nat.lt_of_lt_of_le (h b hb') hsz
  | var cs =>
    obtain ⟨h0, b, arr, T, h1, h2, h3, h4⟩ := h
    refine ⟨h0, b, arr, T, h1, h2, ?_, h4.mono hg⟩
    rw [hb b (.inl (by rw [h1]; rfl))]
    exact h3
  | row t e x =>
    obtain ⟨h0, n, xs, ls, h1, h2, h3, h4, h5⟩ := h
    exact ⟨h0, n, xs, ls, ownsRow_kept h1 fun b hbb => hb b (.inl hbb), h2, hg.get h3, h4, h5.mono hg.stays⟩
  | rows et e' e ver x =>
    obtain ⟨h0, n, ls, h1, h2, h3, h4, h5, h6⟩ := h
    exact ⟨h0, n, ls, ownsRow_kept h1 fun b hbb => hb b (.inl hbb), h2, hg.get h3, h4, h5.kept fun u hu b hbb => hb b (.inr ⟨u, hu, hbb⟩), h6⟩

theorem R_env (h : R X M w0 S μ ρ a w) (σ : List D) : R X M w0 { S with n := S.n + σ.length } μ (ρ ++ σ) a w := by
  have hg : Grows (Fz X S.heap μ w) (Fz X S.heap μ w) S.heap.length S.heap.length μ μ ρ (ρ ++ σ) w w := Grows.same ⟨fun _ h => h, fun _ _ => rfl⟩ ⟨σ, rfl⟩ (Nat.le_refl _) fun _ _ => rfl
  exact ⟨h.keeps, by simp [h.len], h.size, h.defers, fun i s hs => (h.slots i s hs).mono hg, fun β sb hb => (h.blocks β sb hb).grow hg (Nat.le_refl _) (fun _ _ => rfl), h.ex, h.inj, h.exo, h.anc⟩

theorem ownsRow_lt {e sz n : Nat} {v : Value} {xs : List Value} (h : w.ownsRow 0 e sz v n xs) {b : Nat} (hb : blkOf v = some b) : b < w.heap.size := by
  rcases h.2 with ⟨rfl, _⟩ | ⟨g, cap, cur, rfl, _, e3, _⟩
  · cases hb
  · simp only [blkOf, Option.some.injEq] at hb
    subst hb
    exact (Array.getElem?_eq_some_iff.1 e3).1

theorem BlkR.lt {Mine F : Nat → Prop} {hl : Nat} {sb : SB} {m : MV} (h : BlkR Mine w F hl μ ρ sb m) (hd : sb ≠ .dead) {b : Nat} (hb : m.own b) : b < w.heap.size := by
  cases sb with
  | dead => exact absurd rfl hd
  | hid => exact h b hb
  | var cs =>
    obtain ⟨h0, b', arr, T, h1, _, h3, _⟩ := h
    have := (MV.own_flat h0).1 hb
    rw [h1] at this
    simp only [blkOf, Option.some.injEq] at this
    subst this
    exact (Array.getElem?_eq_some_iff.1 h3).1
  | row t e x =>
    obtain ⟨h0, n, xs, ls, h1, _⟩ := h
    exact ownsRow_lt h1 ((MV.own_flat h0).1 hb)
  | rows et e' e ver x =>
    obtain ⟨h0, n, ls, h1, _, _, _, ⟨h2, h3⟩, _⟩ := h
    rcases hb with hb | ⟨u, hu, hb⟩
    · exact ownsRow_lt h1 hb
    · obtain ⟨i, hi⟩ := List.getElem?_of_mem hu
      have hlt : i < ls.length := by rw [← h2]; exact (List.getElem?_eq_some_iff.1 hi).1
      obtain ⟨k, xs, hk, _⟩ := h3 i u _ hi (List.getElem?_eq_getElem hlt)
      exact ownsRow_lt hk hb

/-- Own blocks lie in the heap. -/
theorem R.own_lt (h : R X M w0 S μ ρ a w) {β : Nat} (hl : live S.heap β) {b : Nat} (hb : (μ β).own b) : b < w.heap.size := by
  obtain ⟨sb, hs, hd⟩ := hl
  exact (h.blocks β sb hs).lt hd hb

/-- What a block is that may be written. -/
def mineB : SB → Bool | .var _ => true | .row _ _ _ => true | .rows _ _ _ _ _ => true | _ => false
theorem R.mine (h : R X M w0 S μ ρ a w) {β : Nat} {sb : SB} (hs : S.heap[β]? = some sb) (hm : mineB sb = true) {b : Nat} (hb : (μ β).own b) : w0.heap.size ≤ b ∨ M b := by
  have := h.blocks β sb hs
  cases sb with
  | dead => cases hm
  | hid => cases hm
  | var cs =>
    obtain ⟨h0, b', arr, T, h1, h2, _⟩ := this
    have e := (MV.own_flat h0).1 hb
    rw [h1] at e
    simp only [blkOf, Option.some.injEq] at e
    subst e
    exact h2
  | row t e x => obtain ⟨_, n, xs, ls, _, h2, _⟩ := this; exact h2 b hb
  | rows et e' e ver x => obtain ⟨_, n, ls, _, h2, _⟩ := this; exact h2 b hb

/-- What a move does: some old own blocks are touched (their memory may be written, or go over to others), new ones are there. -/
structure Move (S : SS) (μ : Mu) (w : World) (T : List Nat) (heap' : List SB) (μ' : Mu) (w' : World) : Prop where
  tlive : ∀ γ, γ ∈ T → ∃ sb, S.heap[γ]? = some sb ∧ mineB sb = true
  len : S.heap.length ≤ heap'.length
  same : ∀ β, β < S.heap.length → β ∉ T → heap'[β]? = S.heap[β]? ∧ μ' β = μ β
  mu : ∀ β, β < S.heap.length → (μ' β).v = (μ β).v ∧ ∃ ext, (μ' β).hist = (μ β).hist ++ ext
  os : w'.os = w.os
  tape : w'.tape = w.tape
  output : w'.output = w.output
  size : w.heap.size ≤ w'.heap.size
  blk : ∀ b, b < w.heap.size → (∀ γ, γ ∈ T → ¬ (μ γ).own b) → w'.heap[b]? = w.heap[b]?
  own : ∀ β, live heap' β → (β ∈ T ∨ S.heap.length ≤ β) → ∀ b, (μ' β).own b → w.heap.size ≤ b ∨ ∃ γ, γ ∈ T ∧ (μ γ).own b
  inj : ∀ β γ, live heap' β → live heap' γ → (β ∈ T ∨ S.heap.length ≤ β) → (γ ∈ T ∨ S.heap.length ≤ γ) → β ≠ γ → ∀ b, (μ' β).own b → ¬ (μ' γ).own b

theorem Move.liveOld {T : List Nat} {heap' : List SB} (m : Move S μ w T heap' μ' w') {γ : Nat} (h : γ ∈ T) : live S.heap γ := by
  obtain ⟨sb, hs, hm⟩ := m.tlive γ h
  exact ⟨sb, hs, fun e => by subst e; cases hm⟩

theorem Move.untouched {T : List Nat} {heap' : List SB} (m : Move S μ w T heap' μ' w') {β : Nat} (hl : live heap' β) (h : ¬ (β ∈ T ∨ S.heap.length ≤ β)) : live S.heap β ∧ μ' β = μ β := by
  have h1 : β ∉ T := fun e => h (.inl e)
  have h2 : β < S.heap.length := Nat.lt_of_not_le fun e => h (.inr e)
  obtain ⟨e1, e2⟩ := m.same β h2 h1
  obtain ⟨sb, hs, hd⟩ := hl
  exact ⟨⟨sb, by rw [← e1]; exact hs, hd⟩, e2⟩

theorem Move.grows {T : List Nat} {heap' : List SB} (m : Move S μ w T heap' μ' w') : Grows (Fz X S.heap μ w) (Fz X heap' μ' w') S.heap.length heap'.length μ μ' ρ ρ w w' := by
  refine ⟨⟨fun b hb => ⟨⟨Nat.lt_of_lt_of_le hb.1.1 m.size, hb.1.2⟩, fun β hl ho => ?_⟩, fun b hb => m.blk b hb.1.1 fun γ hγ => hb.2 γ (m.liveOld hγ)⟩, ⟨[], by simp⟩, m.len, m.mu⟩
  by_cases h : β ∈ T ∨ S.heap.length ≤ β
  · rcases m.own β hl h b ho with h1 | ⟨γ, h1, h2⟩
    · have := hb.1.1; omega
    · exact hb.2 γ (m.liveOld h1) h2
  · obtain ⟨h1, h2⟩ := m.untouched hl h
    rw [h2] at ho
    exact hb.2 β h1 ho

theorem R_move (h : R X M w0 S μ ρ a w) {T : List Nat} {heap' : List SB} (m : Move S μ w T heap' μ' w')
    (hnew : Grows (Fz X S.heap μ w) (Fz X heap' μ' w') S.heap.length heap'.length μ μ' ρ ρ w w' → ∀ β sb, heap'[β]? = some sb → (β ∈ T ∨ S.heap.length ≤ β) → BlkR (fun b => w0.heap.size ≤ b ∨ M b) w' (Fz X heap' μ' w') heap'.length μ' ρ sb (μ' β)) :
    R X M w0 { S with heap := heap' } μ' ρ a w' := by
  have hg := m.grows (X := X) (ρ := ρ)
  refine ⟨⟨m.os.trans h.keeps.os, m.tape.trans h.keeps.tape, m.output.trans h.keeps.output, Nat.le_trans h.keeps.size m.size, fun k hk hm => ?_⟩, h.len, h.size, h.defers, fun i s hs => (h.slots i s hs).mono hg, fun β sb hb => ?_,
    fun b hb => Nat.lt_of_lt_of_le (h.ex b hb) m.size, fun β γ hβ hγ hne b hb => ?_, fun β hβ b hb hx => ?_, fun β v hv => ⟨Nat.lt_of_lt_of_le (h.anc β v hv).1 m.len, (m.mu β (h.anc β v hv).1).1.trans (h.anc β v hv).2⟩⟩
  · rw [m.blk k (Nat.lt_of_lt_of_le hk h.keeps.size) fun γ hγ ho => ?_]
    · exact h.keeps.block k hk hm
    · obtain ⟨sb, hs, hms⟩ := m.tlive γ hγ
      rcases h.mine hs hms ho with h' | h'
      · omega
      · exact hm h'
  · by_cases ht : β ∈ T ∨ S.heap.length ≤ β
    · exact hnew hg β sb hb ht
    · have h1 : β ∉ T := fun e => ht (.inl e)
      have h2 : β < S.heap.length := Nat.lt_of_not_le fun e => ht (.inr e)
      obtain ⟨e1, e2⟩ := m.same β h2 h1
      have hb' : S.heap[β]? = some sb := by rw [← e1]; exact hb
      rw [e2]
      by_cases hd : sb = .dead
      · subst hd; trivial
      · refine (h.blocks β sb hb').grow hg m.size fun b ho => m.blk b (h.own_lt ⟨sb, hb', hd⟩ ho) fun γ hγ ho' => ?_
        exact h.inj β γ ⟨sb, hb', hd⟩ (m.liveOld hγ) (fun e => h1 (by rw [e]; exact hγ)) b ho ho'
  · by_cases h1 : β ∈ T ∨ S.heap.length ≤ β
    · by_cases h2 : γ ∈ T ∨ S.heap.length ≤ γ
      · exact m.inj β γ hβ hγ h1 h2 hne b hb
      · obtain ⟨l2, e2⟩ := m.untouched hγ h2
        rw [e2]
        intro ho
        rcases m.own β hβ h1 b hb with h3 | ⟨δ, h3, h4⟩
        · have := h.own_lt l2 ho; omega
        · exact h.inj δ γ (m.liveOld h3) l2 (fun e => h2 (.inl (by rw [← e]; exact h3))) b h4 ho
    · obtain ⟨l1, e1⟩ := m.untouched hβ h1
      rw [e1] at hb
      by_cases h2 : γ ∈ T ∨ S.heap.length ≤ γ
      · intro ho
        rcases m.own γ hγ h2 b ho with h3 | ⟨δ, h3, h4⟩
        · have := h.own_lt l1 hb; omega
        · exact h.inj β δ l1 (m.liveOld h3) (fun e => h1 (.inl (by rw [e]; exact h3))) b hb h4
      · obtain ⟨l2, e2⟩ := m.untouched hγ h2
        rw [e2]
        exact h.inj β γ l1 l2 hne b hb
  · by_cases h1 : β ∈ T ∨ S.heap.length ≤ β
    · rcases m.own β hβ h1 b hb with h3 | ⟨δ, h3, h4⟩
      · have := h.ex b hx; omega
      · exact h.exo δ (m.liveOld h3) b h4 hx
    · obtain ⟨l1, e1⟩ := m.untouched hβ h1
      rw [e1] at hb
      exact h.exo β l1 b hb hx

theorem R_quiet (h : R X M w0 S μ ρ a w) (q : Quiet w w') : R X M w0 S μ ρ a w' := by
  have hF : Fz X S.heap μ w' = Fz X S.heap μ w := by unfold Fz; rw [q.heap]
  have hg : Grows (Fz X S.heap μ w) (Fz X S.heap μ w') S.heap.length S.heap.length μ μ ρ ρ w w' := by
    rw [hF]
    exact Grows.same ⟨fun _ h => h, fun b _ => by rw [q.heap]⟩ ⟨[], by simp⟩ (Nat.le_refl _) fun _ _ => rfl
  refine ⟨⟨q.os.trans h.keeps.os, q.tape.trans h.keeps.tape, q.output.trans h.keeps.output, by rw [q.heap]; exact h.keeps.size, fun k h1 h2 => by rw [q.heap]; exact h.keeps.block k h1 h2⟩,
    h.len, h.size, h.defers, fun i s hs => (h.slots i s hs).mono hg, fun β sb hb => (h.blocks β sb hb).grow hg (by rw [q.heap]; exact Nat.le_refl _) (fun b _ => by rw [q.heap]), fun b hb => by rw [q.heap]; exact h.ex b hb, h.inj, h.exo, h.anc⟩

theorem put_ok {dst : Option Nat} {v : SV} {slots : List SV} (h : put S dst v = .ok slots) : slots.length = S.slots.length ∧
    ∀ i s, slots[i]? = some s → (S.slots[i]? = some s ∧ dst ≠ some i) ∨ (dst = some i ∧ s = v ∧ i < S.slots.length) := by
  unfold put at h
  split at h
  · simp only [Except.ok.injEq] at h; subst h; exact ⟨rfl, fun i s hs => .inl ⟨hs, by simp⟩⟩
  · rename_i d
    split at h
    · rename_i hd
      simp only [Except.ok.injEq] at h; subst h
      refine ⟨by simp, fun i s hs => ?_⟩
      by_cases hi : d = i
      · subst hi
        rw [List.getElem?_set_self hd] at hs
        simp only [Option.some.injEq] at hs
        exact .inr ⟨rfl, hs.symm, hd⟩
      · rw [List.getElem?_set_ne hi] at hs
        exact .inl ⟨hs, by simp [hi]⟩
    · cases h

theorem tmps_put {dst : Option Nat} {u : Value} (i : Nat) : (a.put dst u).tmps.getD i Go.undef = if dst = some i ∧ i < a.tmps.size then u else a.tmps.getD i Go.undef := by
  unfold Act.put
  cases dst with
  | none => simp
  | some d =>
    simp only [Option.some.injEq]
    by_cases h : d = i
    · subst h
      by_cases hd : d < a.tmps.size
      · simp [hd]
      · simp [hd]
    · simp [h]

theorem R_put {dst : Option Nat} {v : SV} {slots : List SV} {u : Value} (h : R X M w0 S μ ρ a w) (hp : put S dst v = .ok slots) (hv : SVR w (Fz X S.heap μ w) S.heap.length μ ρ v u) :
    R X M w0 { S with slots } μ ρ (a.put dst u) w := by
  obtain ⟨hl, hs⟩ := put_ok hp
  refine ⟨h.keeps, h.len, ?_, ?_, fun i s hi => ?_, h.blocks, h.ex, h.inj, h.exo, h.anc⟩
  · have : (a.put dst u).tmps.size = a.tmps.size := by unfold Act.put; cases dst <;> simp
    rw [this, h.size, hl]
  · have : (a.put dst u).defers = a.defers := by unfold Act.put; cases dst <;> rfl
    rw [this, h.defers]
  · rw [tmps_put]
    rcases hs i s hi with ⟨h1, h2⟩ | ⟨rfl, rfl, h3⟩
    · rw [if_neg (fun e => h2 e.1)]
      exact h.slots i s h1
    · rw [if_pos ⟨rfl, by rw [h.size]; exact h3⟩]
      exact hv

end
end Vs
