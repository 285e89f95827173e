/-
  Appending to an own slice.
-/
import Derived.Test.YtfpmhmngebnphaaNt4
namespace Vs
open Go Go.RowKit

section
variable {P : Program} {X : Nat → Prop} {M : Hand} {w0 w w' : World} {S : SS} {μ μ' : Mu} {ρ : List D} {a : Act}

theorem ownBlock_blk {v : Value} {a : Option Addr} {n c : Nat} (h : v = .slice a n c) : v.ownBlock = blkOf v := by
  subst h; cases a <;> rfl

/-- What is appended: nothing, or cells that can be read. -/
def News (w : World) (bv : Value) (m : Nat) (news : List Value) : Prop :=
  (bv = .slice none 0 0 ∧ m = 0 ∧ news = []) ∨ ∃ ad c, bv = .slice (some ad) m c ∧ ∀ j u, news[j]? = some u → w.cell? (ad.add j) = some u

theorem run_app {t ty e : TypeId} {i : TypeInfo} {z : Value} {v bv : Value} {n m : Nat} {xs news : List Value} (ht : P.underlying t = some (.slice e)) (hi : P.info? e = some i) (hz : i.zero = some z) (hzs : z.cells.size = i.size) (hpos : 0 < i.size) (hby : i.bytes ≤ 64)
    (hown : w.ownsRow 0 e i.size v n xs) (hl : news.length = m * i.size) (hnews : News w bv m news) (h1 : ∀ u ∈ news, u.oneCell' = true) (hmax : n + m ≤ 1099511627776) :
    ∃ v' w', (Builtin.append_ #[t, t] ty #[v, bv]).run P w = .ok v' w' ∧ w'.ownsRow 0 e i.size v' (n + m) (xs ++ news) ∧ w.grownBy w' v.ownBlock ∧ ∀ b, blkOf v' = some b → w.heap.size ≤ b ∨ blkOf v = some b := by
  rcases hnews with ⟨rfl, rfl, rfl⟩ | ⟨ad, c, rfl, hcell⟩
  · exact ⟨v, w, run_append_owned_none w 0 t ty e i i.size ht hi v n xs hown, by simpa using hown, ⟨rfl, rfl, rfl, Nat.le_refl _, fun _ _ _ => rfl⟩, fun b hb => .inr hb⟩
  · have hm : n + m ≤ maxLen := by simp only [maxLen]; omega
    have hb : (n + m) * i.bytes ≤ 140737488355328 := by
      calc (n + m) * i.bytes ≤ 1099511627776 * 64 := Nat.mul_le_mul hmax hby
        _ ≤ 140737488355328 := by decide
    obtain ⟨v', w', r1, r2, r3, r4⟩ := run_append_own (P := P) w 0 t ty e i z i.size i.bytes ht hi hz rfl rfl hzs hpos v n xs hown ad m c news hl hcell h1 hm hb (Nat.zero_le _)
    refine ⟨v', w', r1, r2, r3, fun b hb' => ?_⟩
    rcases hown.2 with ⟨rfl, rfl⟩ | ⟨g, cap, cur, rfl, _, hg, hnc, _, hcs, htake⟩
    · by_cases h0 : m = 0
      · subst h0
        have : v' = .slice none 0 0 := r4.2 ⟨rfl, rfl⟩
        rw [this] at hb'; cases hb'
      · have hr := run_append_nil (P := P) w t ty e i z ht hi hz ad m c news hl hcell (by omega) (by simp only [Nat.zero_add] at hmax; omega) (by simp only [Nat.zero_add] at hb; omega)
        rw [hr] at r1
        simp only [Result.ok.injEq] at r1
        rw [← r1.1] at hb'
        simp only [blkOf, Option.some.injEq] at hb'
        left; omega
    · by_cases hroom : n + m ≤ cap
      · obtain ⟨w2, q1, _⟩ := run_append_fits (P := P) w 0 t ty e i i.size ht hi rfl g n cap xs hown ad m c news hl hcell h1 hroom
        rw [q1] at r1
        simp only [Result.ok.injEq] at r1
        rw [← r1.1] at hb'
        exact .inr hb'
      · have hr := run_append_grow (P := P) w t ty e i z ht hi hz ⟨g, 0, none⟩ n cap xs hown.1 (hown.cells (g := g) rfl) ad m c news hl hcell (by omega) (by omega) (growslice_fits (by omega) hb)
        rw [hr] at r1
        simp only [Result.ok.injEq] at r1
        rw [← r1.1] at hb'
        simp only [blkOf, Option.some.injEq] at hb'
        left; omega

theorem RdCs_one : ∀ {ts : List BT} {vs : List Value} {ds : List D}, RdCs RdB ts vs ds → ∀ u ∈ vs, u.oneCell' = true
  | [], [], [], _, u, hu => by simp at hu
  | t :: ts, v :: vs, d :: ds, ⟨h1, h2⟩, u, hu => by
    rcases List.mem_cons.1 hu with rfl | hu
    · cases t <;> (obtain ⟨n, rfl, _⟩ := h1; rfl)
    · exact RdCs_one h2 u hu
theorem RdRow_one {ts : List BT} : ∀ {xs : List Value} {ls : List (List D)}, RdRow RdB ts xs ls → ∀ u ∈ xs, u.oneCell' = true
  | xs, [], h, u, hu => by simp only [RdRow] at h; subst h; simp at hu
  | xs, l :: ls, ⟨c, r, e, h1, h2⟩, u, hu => by
    subst e
    rcases List.mem_append.1 hu with h | h
    · exact RdCs_one h1 u h
    · exact RdRow_one h2 u h
theorem RdRow_append {ts : List BT} : ∀ {xs ys : List Value} {ls ks : List (List D)}, RdRow RdB ts xs ls → RdRow RdB ts ys ks → RdRow RdB ts (xs ++ ys) (ls ++ ks)
  | xs, ys, [], ks, h, h2 => by simp only [RdRow] at h; subst h; simpa using h2
  | xs, ys, l :: ls, ks, ⟨c, r, e, h1, h3⟩, h2 => ⟨c, r ++ ys, by rw [e]; simp, h1, RdRow_append h3 h2⟩

/-- What reads can be appended. -/
theorem news_of {et : ET} {F : Nat → Prop} {bv : Value} {d : D} (h : RdSl w F (rr1 et) et.agg bv d) : ∃ m news ls, News w bv m news ∧ d = .lst (ls.map (unflat et.agg)) ∧ ls.length = m ∧ RdRow RdB et.cells news ls ∧ news.length = m * et.cells.length := by
  obtain ⟨ls, rfl, ⟨⟨ad, cap, rfl, h0⟩, rfl⟩ | ⟨b, off, cap, xs, rfl, _, _, hc, hr⟩⟩ := h
  · cases ad with
    | none => obtain rfl := h0 rfl; exact ⟨0, [], [], .inl ⟨rfl, rfl, rfl⟩, rfl, rfl, rfl, by simp⟩
    | some ad => exact ⟨0, [], [], .inr ⟨_, cap, rfl, by simp⟩, rfl, rfl, rfl, by simp⟩
  · exact ⟨ls.length, xs, ls, .inr ⟨_, cap, rfl, fun j u hj => by rw [addr_add]; exact hc j u hj⟩, rfl, rfl, hr, hr.length⟩

theorem app_run {o : Oper} {s x : Operand} {t : TypeId} {v' : Value} {args : Array Operand} {ats : Array TypeId} (ho : o.op = .call { callee := .builtin .append, args := args, argTypes := ats }) (ha : args.toList = [s, x]) (hat : ats.toList = [t, t])
    (hr : (Builtin.append_ #[t, t] o.type #[a.eval s, a.eval x]).run P w = .ok v' w') : (execOp a.eval o).run P w = .ok (.value v') w' := by
  have e1 : args = #[s, x] := by apply Array.ext'; simpa using ha
  have e2 : ats = #[t, t] := by apply Array.ext'; simpa using hat
  subst e1 e2
  simp [execOp, ho, resolve, invoke, builtin, hr]

/-- The slice that is appended to. -/
theorem base_row (hR : R X M w0 S μ ρ a w) {et : ET} {e : TypeId} {sa : SV} {va : Value} {x : Atom} {ha : List SB} {tch : List Nat} (hv : SVR w (Fz X S.heap μ w) S.heap.length μ ρ sa va)
    (h : (sa = .c (.s .nils) ∧ x = .c (.lst []) ∧ ha = S.heap ∧ tch = []) ∨ ∃ β, sa = .c (.s (.own β)) ∧ S.heap[β]? = some (.row (.s1 et) e x) ∧ ha = S.heap.set β .dead ∧ tch = [β]) :
    ∃ n xs ls, w.ownsRow 0 e et.cells.length va n xs ∧ x.get ρ = some (.lst (ls.map (unflat et.agg))) ∧ ls.length = n ∧ RdRow RdB et.cells xs ls ∧ (∀ γ ∈ tch, ∃ sb, S.heap[γ]? = some sb ∧ mineB sb = true) ∧ ha.length = S.heap.length ∧
      (∀ β, β ∉ tch → ha[β]? = S.heap[β]?) ∧ (∀ γ ∈ tch, ha[γ]? = some .dead) ∧ ∀ b, blkOf va = some b → ∃ γ ∈ tch, (μ γ).own b := by
  rcases h with ⟨rfl, rfl, rfl, rfl⟩ | ⟨β, rfl, hb, rfl, rfl⟩
  · simp only [SVR, CVR, CVR0] at hv
    subst hv
    exact ⟨0, [], [], ⟨by simp, .inl ⟨rfl, rfl⟩⟩, rfl, rfl, rfl, by simp, rfl, fun _ _ => rfl, by simp, fun b hb => (by cases hb)⟩
  · obtain ⟨_, rfl, _⟩ := hv
    obtain ⟨_, n, xs, ls, h1, h2, h3, h4, h5⟩ := hR.blocks β _ hb
    refine ⟨n, xs, ls, h1, h3, h4, h5, fun γ hγ => ?_, by simp, fun γ hγ => ?_, fun γ hγ => ?_, fun b hbb => ⟨β, by simp, .inl hbb⟩⟩
    · simp only [List.mem_singleton] at hγ; subst hγ; exact ⟨_, hb, rfl⟩
    · rw [List.getElem?_set_ne]; simpa [eq_comm] using hγ
    · simp only [List.mem_singleton] at hγ; subst hγ; rw [List.getElem?_set_self (List.getElem?_eq_some_iff.1 hb).1]

/-- One new own row out of what was touched. -/
theorem moved_row {o : Oper} {σ : List D} {et : ET} {e : TypeId} {x : Atom} {u va : Value} {n : Nat} {xs : List Value} {ls : List (List D)} {ha : List SB} {tch : List Nat} (hR : R X M w0 S μ ρ a w) (hr : (execOp a.eval o).run P w = .ok (.value u) w')
    (ht : ∀ γ ∈ tch, ∃ sb, S.heap[γ]? = some sb ∧ mineB sb = true) (hl : ha.length = S.heap.length) (hs : ∀ β, β ∉ tch → ha[β]? = S.heap[β]?) (hdead : ∀ γ ∈ tch, ha[γ]? = some .dead) (hva : ∀ b, blkOf va = some b → ∃ γ ∈ tch, (μ γ).own b)
    (hg : w.grownBy w' va.ownBlock) (hvs : va.ownBlock = blkOf va) (hfr : ∀ b, blkOf u = some b → w.heap.size ≤ b ∨ blkOf va = some b)
    (hown : w'.ownsRow 0 e et.cells.length u n xs) (hn : ls.length = n) (hrd : RdRow RdB et.cells xs ls) (hx : x.get (ρ ++ σ) = some (.lst (ls.map (unflat et.agg)))) :
    HopOk P X M w0 S μ o a w (ρ ++ σ) (.c (.s (.own S.heap.length))) (ha ++ [.row (.s1 et) e x]) tch := by
  have hfr' : ∀ b, blkOf u = some b → w.heap.size ≤ b ∨ ∃ γ, γ ∈ tch ∧ (μ γ).own b := fun b hb => by
    rcases hfr b hb with h | h
    · exact .inl h
    · exact .inr (hva b h)
  have m : Move S μ w tch (ha ++ [.row (.s1 et) e x]) (fun β => if β < S.heap.length then μ β else MV.one u) w' :=
    Move.fresh ht hl hs hdead hg.os hg.tape hg.output hg.size (fun b hb hno => hg.block b hb (fun e => by
      rw [hvs] at e
      obtain ⟨γ, h1, h2⟩ := hva b e.symm
      exact hno γ h1 h2)) (fun b hb => by
      rcases hb with hb | ⟨u, hu, _⟩
      · exact hfr' b hb
      · simp [MV.one, MV.inner] at hu)
  refine ⟨_, _, _, _, hr, .inl rfl, m, fun β sb hb h => ?_, ?_⟩
  · have hβ : β = S.heap.length ∨ sb = .dead := by
      have hlt := (List.getElem?_eq_some_iff.1 hb).1
      simp only [List.length_append, hl, List.length_cons, List.length_nil] at hlt
      rcases h with h | h
      · have hlt2 : β < S.heap.length := by obtain ⟨sb, g1, _⟩ := ht β h; exact (List.getElem?_eq_some_iff.1 g1).1
        rw [List.getElem?_append_left (by omega), hdead β h] at hb
        simp only [Option.some.injEq] at hb
        exact .inr hb.symm
      · left; omega
    rcases hβ with rfl | rfl
    · rw [List.getElem?_append_right (by omega), hl, Nat.sub_self] at hb
      simp only [List.getElem?_cons_zero, Option.some.injEq] at hb
      subst hb
      simp only [Nat.lt_irrefl, if_false]
      refine ⟨rfl, n, xs, ls, hown, fun b hb => ?_, hx, hn, hrd⟩
      rcases hfr' b ((MV.own_flat rfl).1 hb) with h1 | ⟨γ, h1, h2⟩
      · exact .inl (Nat.le_trans hR.keeps.size h1)
      · obtain ⟨sb, g3, g4⟩ := ht γ h1
        exact hR.mine g3 g4 h2
    · trivial
  · obtain ⟨ad, cap, e'⟩ := ownsRow_slice hown
    exact ⟨by simp [hl], by simp [MV.one], ad, n, cap, by simp [MV.one, e']⟩

theorem append_hop {o : Oper} {s x : Operand} {t : TypeId} {args : Array Operand} {ats : Array TypeId} {sa sb v : SV} {ps : List Push} {heap' : List SB} {tch : List Nat} {ρ' : List D} (ho : o.op = .call { callee := .builtin .append, args := args, argTypes := ats })
    (hargs : args.toList = [s, x]) (hat : ats.toList = [t, t]) (hR : R X M w0 S μ ρ a w) (h1 : SVR w (Fz X S.heap μ w) S.heap.length μ ρ sa (a.eval s)) (h2 : SVR w (Fz X S.heap μ w) S.heap.length μ ρ sb (a.eval x))
    (h : hopAppend P S t sa sb = .ok (v, ps, heap', tch)) (hp : pushAll ps ρ = some ρ') : HopOk P X M w0 S μ o a w ρ' v heap' tch := by
  unfold hopAppend at h
  obtain ⟨k, hk0, h0⟩ := bind_ok h
  have hk := need_ok hk0
  obtain ⟨⟨xa, ha, tc⟩, g1, g2⟩ := bind_ok h0
  dsimp only at g2
  clear h hk0 h0
  rcases mkOf_ok hk with ⟨et, e, rfl, ht, hel⟩ | ⟨et, e', e, rfl, ht, hel⟩
  · -- plain elements
    obtain ⟨i, z, hE⟩ := elemOk_ok hel
    have hbase : (sa = .c (.s .nils) ∧ xa = .c (.lst []) ∧ ha = S.heap ∧ tc = []) ∨ ∃ β, sa = .c (.s (.own β)) ∧ S.heap[β]? = some (.row (.s1 et) e xa) ∧ ha = S.heap.set β .dead ∧ tc = [β] := by
      split at g1
      · simp only [Except.ok.injEq, Prod.mk.injEq] at g1
        obtain ⟨rfl, rfl, rfl⟩ := g1
        exact .inl ⟨rfl, rfl, rfl, rfl⟩
      · rename_i β
        split at g1
        · rename_i u e1 y u' e2 hb hkk
          simp only [MK.row.injEq] at hkk
          obtain ⟨rfl, rfl⟩ := hkk
          split at g1
          · rename_i hc
            obtain ⟨rfl, rfl⟩ := hc
            simp only [Except.ok.injEq, Prod.mk.injEq] at g1
            obtain ⟨rfl, rfl, rfl⟩ := g1
            exact .inr ⟨β, rfl, hb, rfl, rfl⟩
          · cases g1
        · rename_i hkk; cases hkk
        · cases g1
      · cases g1
    obtain ⟨n, xs, ls, b1, b2, b3, b4, b5, b6, b7, b8, b9⟩ := base_row hR h1 hbase
    have fin : ∀ {y : Atom} {m : Nat} {news : List Value} {ks : List (List D)}, News w (a.eval x) m news → y.get ρ = some (.lst (ks.map (unflat et.agg))) → ks.length = m → RdRow RdB et.cells news ks →
        pushAll [(Prim.app, [xa, y])] ρ = some ρ' → HopOk P X M w0 S μ o a w ρ' (.c (.s (.own S.heap.length))) (ha ++ [.row (.s1 et) e (.v S.n)]) tc := by
      intro y m news ks hnews hy hks hrd hp
      obtain ⟨d, hd, rfl⟩ := pushAll_one hp
      simp only [evs, List.map_cons, List.map_nil, Atom.ev_of_get b2, Atom.ev_of_get hy, Prim.ev, List.length_map] at hd
      split at hd
      · rename_i hmax
        simp only [Option.some.injEq] at hd
        subst hd
        have hl := hrd.length
        rw [hks] at hl
        obtain ⟨v', w', r1, r2, r3, r4⟩ := run_app (P := P) (ty := o.type) (z := z) ht hE.info hE.zero hE.zs hE.pos hE.bytes (by rw [hE.size]; exact b1) (by rw [hE.size]; exact hl) hnews (RdRow_one hrd) (by omega)
        rw [hE.size] at r2
        obtain ⟨ad, cap, esl⟩ := ownsRow_slice b1
        refine moved_row (σ := [_]) (va := a.eval s) hR (app_run ho hargs hat r1) b5 b6 b7 b8 b9 r3 (ownBlock_blk esl) r4 r2 (by simp [b3, hks]) (RdRow_append b4 hrd) ?_
        rw [List.map_append]
        exact get_new hR.len
      · cases hd
    split at g2
    · rename_i et0 e0 et' y hkk
      simp only [MK.row.injEq, CT.s1.injEq] at hkk
      obtain ⟨rfl, rfl⟩ := hkk
      split at g2
      · rename_i het
        subst het
        simp only [Except.ok.injEq, Prod.mk.injEq] at g2
        obtain ⟨rfl, rfl, rfl, rfl⟩ := g2
        obtain ⟨d, hy, hd⟩ := h2
        obtain ⟨m, news, ks, q1, rfl, q3, q4, _⟩ := news_of hd
        exact fin q1 hy q3 q4 hp
      · cases g2
    · rename_i et0 e0 hkk
      simp only [MK.row.injEq, CT.s1.injEq] at hkk
      obtain ⟨rfl, rfl⟩ := hkk
      simp only [Except.ok.injEq, Prod.mk.injEq] at g2
      obtain ⟨rfl, rfl, rfl, rfl⟩ := g2
      simp only [SVR, CVR, CVR0] at h2
      exact fin (m := 0) (news := []) (ks := []) (.inl ⟨h2, rfl, rfl⟩) rfl rfl rfl hp
    · rename_i et0 e0 γ hkk
      simp only [MK.row.injEq, CT.s1.injEq] at hkk
      obtain ⟨rfl, rfl⟩ := hkk
      split at g2
      · rename_i et' e1 y hγ
        split at g2
        · rename_i het
          subst het
          simp only [Except.ok.injEq, Prod.mk.injEq] at g2
          obtain ⟨rfl, rfl, rfl, rfl⟩ := g2
          have hγS : S.heap[γ]? = some (.row (.s1 et) e1 y) := by
            have hne : γ ∉ tc := fun hm => by rw [b8 γ hm] at hγ; cases hγ
            rw [← b7 γ hne]; exact hγ
          obtain ⟨_, hxv, _⟩ := h2
          obtain ⟨d, hy, hd⟩ := own_read (F := fun _ => True) hR (fun _ _ => trivial) (fun _ _ => trivial) hγS
          rw [← hxv] at hd
          obtain ⟨m, news, ks, q1, rfl, q3, q4, _⟩ := news_of hd
          exact fin q1 hy q3 q4 hp
        · cases g2
      · cases g2
    · rename_i hkk; cases hkk
    · cases g2
  · -- own rows
    obtain ⟨i, hE⟩ := elemSl_ok hel
    split at g2
    · rename_i hkk; cases hkk
    · rename_i hkk; cases hkk
    · rename_i hkk; cases hkk
    · rename_i et0 e0' e0 γ hkk
      simp only [MK.rows.injEq] at hkk
      obtain ⟨rfl, rfl, rfl⟩ := hkk
      split at g2
      · rename_i et2 f2 e2 ver2 y hγ
        split at g2
        · rename_i hc
          obtain ⟨rfl, rfl, rfl⟩ := hc
          simp only [Except.ok.injEq, Prod.mk.injEq] at g2
          obtain ⟨rfl, rfl, rfl, rfl⟩ := g2
          have hbase : ∃ n us ls, w.ownsRow 0 e2 1 (a.eval s) n us ∧ xa.get ρ = some (rowsDat et.agg ls) ∧ ls.length = n ∧ RowsD w et f2 us ls ∧ Apart us ∧ (∀ u ∈ us, ∀ b, blkOf u = some b → blkOf (a.eval s) ≠ some b) ∧
              (∀ γ ∈ tc, ∃ sb, S.heap[γ]? = some sb ∧ mineB sb = true) ∧ ha.length = S.heap.length ∧ (∀ β, β ∉ tc → ha[β]? = S.heap[β]?) ∧ (∀ γ ∈ tc, ha[γ]? = some .dead) ∧ (∀ b, (blkOf (a.eval s) = some b ∨ ∃ u ∈ us, blkOf u = some b) → ∃ γ ∈ tc, (μ γ).own b) := by
            split at g1
            · simp only [Except.ok.injEq, Prod.mk.injEq] at g1
              obtain ⟨rfl, rfl, rfl⟩ := g1
              simp only [SVR, CVR, CVR0] at h1
              rw [h1]
              exact ⟨0, [], [], ⟨by simp, .inl ⟨rfl, rfl⟩⟩, rfl, rfl, ⟨rfl, by simp⟩, by intro i; simp, by simp, by simp, rfl, fun _ _ => rfl, by simp, fun b hb => by
                rcases hb with hb | ⟨u, hu, _⟩
                · cases hb
                · simp at hu⟩
            · rename_i β
              split at g1
              · rename_i hkk; cases hkk
              · rename_i et1 f1 e1 ver1 y1 et1' f1' e1' hb hkk
                simp only [MK.rows.injEq] at hkk
                obtain ⟨rfl, rfl, rfl⟩ := hkk
                split at g1
                · rename_i hc
                  obtain ⟨rfl, rfl, rfl⟩ := hc
                  simp only [Except.ok.injEq, Prod.mk.injEq] at g1
                  obtain ⟨rfl, rfl, rfl⟩ := g1
                  obtain ⟨_, hv, _⟩ := h1
                  obtain ⟨_, n, ls, k1, _, k3, k4, k5, k6, k7⟩ := hR.blocks β _ hb
                  rw [hv]
                  refine ⟨n, (μ β).inner, ls, k1, k3, k4, k5, k6, k7, fun γ hγ => ?_, by simp, fun γ hγ => ?_, fun γ hγ => ?_, fun b hbb => ⟨β, by simp, hbb⟩⟩
                  · simp only [List.mem_singleton] at hγ; subst hγ; exact ⟨_, hb, rfl⟩
                  · rw [List.getElem?_set_ne]; simpa [eq_comm] using hγ
                  · simp only [List.mem_singleton] at hγ; subst hγ; rw [List.getElem?_set_self (List.getElem?_eq_some_iff.1 hb).1]
                · cases g1
              · cases g1
            · cases g1
          obtain ⟨n, us, ls, b1, b2, b3, b4, b5, b6, t1, t2, t3, t4, t5⟩ := hbase
          have hγt : γ ∉ tc := fun hm => by rw [t4 γ hm] at hγ; cases hγ
          have hγS : S.heap[γ]? = some (.rows et f2 e2 ver2 y) := by rw [← t3 γ hγt]; exact hγ
          have hγl : live S.heap γ := ⟨_, hγS, by simp⟩
          obtain ⟨_, hxv, _⟩ := h2
          obtain ⟨_, m, ks, c1, _, c3, c4, c5, c6, c7⟩ := hR.blocks γ _ hγS
          have hnews : News w (a.eval x) m (μ γ).inner := by
            rw [hxv]
            rcases c1.2 with ⟨q1, q2⟩ | ⟨g, cap, cur, q1, _⟩
            · refine .inl ⟨q1, q2, List.eq_nil_of_length_eq_zero ?_⟩
              simp [c1.1, q2]
            · refine .inr ⟨_, cap, q1, c1.cells (g := g) ?_⟩
              rw [q1]; rfl
          obtain ⟨d, hd, rfl⟩ := pushAll_one hp
          simp only [evs, List.map_cons, List.map_nil, Atom.ev_of_get b2, Atom.ev_of_get c3, rowsDat, Prim.ev, List.length_map] at hd
          split at hd
          · rename_i hmax
            simp only [Option.some.injEq] at hd
            subst hd
            have hone : ∀ u ∈ (μ γ).inner, u.oneCell' = true := fun u hu => by
              obtain ⟨j, hj⟩ := List.getElem?_of_mem hu
              have hlt : j < ks.length := by rw [← c5.1]; exact (List.getElem?_eq_some_iff.1 hj).1
              obtain ⟨q, ys, hq, _⟩ := c5.2 j u _ hj (List.getElem?_eq_getElem hlt)
              obtain ⟨ad, cap, e⟩ := ownsRow_slice hq
              rw [e]; rfl
            obtain ⟨v', w', r1, r2, r3, r4⟩ := run_app (P := P) (ty := o.type) (z := .slice none 0 0) ht hE.info hE.zero (by rw [hE.size]; rfl) (by rw [hE.size]; decide) hE.bytes (by rw [hE.size]; exact b1) (by rw [hE.size]; exact c1.1) hnews hone (by omega)
            rw [hE.size] at r2
            obtain ⟨ad, cap, esl⟩ := ownsRow_slice b1
            have hrow := ownBlock_blk esl
            have hnot : ∀ b, blkOf (a.eval s) = some b → ¬ (μ γ).own b := fun b hb hown => by
              obtain ⟨δ, d1, d2⟩ := t5 b (.inl hb)
              obtain ⟨sb, g3, g4⟩ := t1 δ d1
              exact hR.inj δ γ ⟨sb, g3, fun e => by subst e; cases g4⟩ hγl (fun e => hγt (by rw [← e]; exact d1)) b d2 hown
            have hT : ∀ δ ∈ γ :: tc, ∃ sb, S.heap[δ]? = some sb ∧ mineB sb = true := fun δ hδ => by
              rcases List.mem_cons.1 hδ with rfl | h
              · exact ⟨_, hγS, rfl⟩
              · exact t1 δ h
            have hγlt := (List.getElem?_eq_some_iff.1 hγ).1
            have hin : (MV.mk v' [us ++ (μ γ).inner]).inner = us ++ (μ γ).inner := rfl
            have hfr : ∀ b, (MV.mk v' [us ++ (μ γ).inner]).own b → w.heap.size ≤ b ∨ ∃ δ, δ ∈ γ :: tc ∧ (μ δ).own b := fun b hb => by
              rcases hb with hb | ⟨u, hu, hb⟩
              · rcases r4 b hb with h | h
                · exact .inl h
                · obtain ⟨δ, d1, d2⟩ := t5 b (.inl h)
                  exact .inr ⟨δ, by simp [d1], d2⟩
              · rw [hin] at hu
                rcases List.mem_append.1 hu with hu | hu
                · obtain ⟨δ, d1, d2⟩ := t5 b (.inr ⟨u, hu, hb⟩)
                  exact .inr ⟨δ, by simp [d1], d2⟩
                · exact .inr ⟨γ, by simp, .inr ⟨u, hu, hb⟩⟩
            have hdead : ∀ δ ∈ γ :: tc, (ha.set γ SB.dead)[δ]? = some .dead := fun δ hδ => by
              by_cases he : γ = δ
              · subst he; rw [List.getElem?_set_self hγlt]
              · rw [List.getElem?_set_ne he]
                rcases List.mem_cons.1 hδ with rfl | h
                · exact absurd rfl he
                · exact t4 δ h
            have mv : Move S μ w (γ :: tc) (ha.set γ .dead ++ [.rows et f2 e2 0 (.v S.n)]) (fun β => if β < S.heap.length then μ β else ⟨v', [us ++ (μ γ).inner]⟩) w' :=
              Move.fresh hT (by simp [t2]) (fun β hβ => by
                simp only [List.mem_cons, not_or] at hβ
                rw [List.getElem?_set_ne (fun e => hβ.1 e.symm)]; exact t3 β hβ.2) hdead r3.os r3.tape r3.output r3.size
                (fun b hb hno => r3.block b hb (fun e => by
                  rw [hrow] at e
                  obtain ⟨δ, d1, d2⟩ := t5 b (.inl e.symm)
                  exact hno δ (by simp [d1]) d2)) hfr
            refine ⟨_, _, _, _, app_run ho hargs hat r1, .inl rfl, mv, fun β sb hb h => ?_, ?_⟩
            · have hβ : β = S.heap.length ∨ sb = .dead := by
                have hlt := (List.getElem?_eq_some_iff.1 hb).1
                simp only [List.length_append, List.length_set, t2, List.length_cons, List.length_nil] at hlt
                rcases h with h | h
                · have hlt2 : β < S.heap.length := by obtain ⟨sb, g1, _⟩ := hT β h; exact (List.getElem?_eq_some_iff.1 g1).1
                  rw [List.getElem?_append_left (by simp; omega), hdead β h] at hb
                  simp only [Option.some.injEq] at hb
                  exact .inr hb.symm
                · left; omega
              rcases hβ with rfl | rfl
              · rw [List.getElem?_append_right (by simp [t2]), List.length_set, t2, Nat.sub_self] at hb
                simp only [List.getElem?_cons_zero, Option.some.injEq] at hb
                subst hb
                simp only [Nat.lt_irrefl, if_false]
                have hkept : ∀ {vs : List Value} {js : List (List (List D))}, RowsD w et f2 vs js → (∀ u ∈ vs, ∀ b, blkOf u = some b → blkOf (a.eval s) ≠ some b ∧ b < w.heap.size) → RowsD w' et f2 vs js := fun hh hn => hh.kept fun u hu b hb =>
                  r3.block b (hn u hu b hb).2 (fun e => (hn u hu b hb).1 (by rw [← hrow]; exact e.symm))
                have hltu : ∀ {vs : List Value} {js : List (List (List D))}, RowsD w et f2 vs js → ∀ u ∈ vs, ∀ b, blkOf u = some b → b < w.heap.size := fun hh u hu b hb => by
                  obtain ⟨j, hj⟩ := List.getElem?_of_mem hu
                  have hlt := (List.getElem?_eq_some_iff.1 hj).1
                  rw [hh.1] at hlt
                  obtain ⟨q, ys, hq, _⟩ := hh.2 j u _ hj (List.getElem?_eq_getElem hlt)
                  exact ownsRow_lt hq hb
                have hA := hkept b4 fun u hu b hb => ⟨b6 u hu b hb, hltu b4 u hu b hb⟩
                have hB := hkept c5 fun u hu b hb => ⟨fun e => hnot b e (.inr ⟨u, hu, hb⟩), hltu c5 u hu b hb⟩
                refine ⟨rfl, n + m, ls ++ ks, r2, fun b hb => ?_, ?_, by simp [b3, c4], ⟨by simp [hA.1, hB.1, hin], fun j u l hj hl => ?_⟩, ?_, ?_⟩
                · rcases hfr b hb with h1 | ⟨δ, h1, h2⟩
                  · exact .inl (Nat.le_trans hR.keeps.size h1)
                  · obtain ⟨sb, g3, g4⟩ := hT δ h1
                    exact hR.mine g3 g4 h2
                · have := get_new (ρ := ρ) (n := S.n) (d := D.lst ((ls.map fun l => D.lst (l.map (unflat et.agg))) ++ ks.map fun l => D.lst (l.map (unflat et.agg)))) hR.len
                  rw [this]; simp [rowsDat]
                · rw [hin] at hj
                  rcases Nat.lt_or_ge j us.length with hlt | hge
                  · rw [List.getElem?_append_left hlt] at hj
                    rw [List.getElem?_append_left (by rw [← hA.1]; exact hlt)] at hl
                    exact hA.2 j u l hj hl
                  · rw [List.getElem?_append_right hge] at hj
                    rw [List.getElem?_append_right (by rw [← hA.1]; exact hge), ← hA.1] at hl
                    exact hB.2 _ u l hj hl
                · rw [hin]
                  intro p q u u' hp' hq' hne b hb hb'
                  have hx1 : ∀ u ∈ us, ∀ b, blkOf u = some b → ¬ ∃ u' ∈ (μ γ).inner, blkOf u' = some b := fun u hu b hb ⟨u', hu', hb'⟩ => by
                    obtain ⟨δ, d1, d2⟩ := t5 b (.inr ⟨u, hu, hb⟩)
                    obtain ⟨sb, g3, g4⟩ := t1 δ d1
                    exact hR.inj δ γ ⟨sb, g3, fun e => by subst e; cases g4⟩ hγl (fun e => hγt (by rw [← e]; exact d1)) b d2 (.inr ⟨u', hu', hb'⟩)
                  rcases Nat.lt_or_ge p us.length with hp1 | hp1
                  · rw [List.getElem?_append_left hp1] at hp'
                    rcases Nat.lt_or_ge q us.length with hq1 | hq1
                    · rw [List.getElem?_append_left hq1] at hq'
                      exact b5 p q u u' hp' hq' hne b hb hb'
                    · rw [List.getElem?_append_right hq1] at hq'
                      exact hx1 u (List.mem_of_getElem? hp') b hb ⟨u', List.mem_of_getElem? hq', hb'⟩
                  · rw [List.getElem?_append_right hp1] at hp'
                    rcases Nat.lt_or_ge q us.length with hq1 | hq1
                    · rw [List.getElem?_append_left hq1] at hq'
                      exact hx1 u' (List.mem_of_getElem? hq') b hb' ⟨u, List.mem_of_getElem? hp', hb⟩
                    · rw [List.getElem?_append_right hq1] at hq'
                      exact c6 _ _ u u' hp' hq' (by omega) b hb hb'
                · rw [hin]
                  intro u hu b hb hb'
                  have hlt : b < w.heap.size := by
                    rcases List.mem_append.1 hu with hu | hu
                    · exact hltu b4 u hu b hb
                    · exact hltu c5 u hu b hb
                  rcases r4 b hb' with h1 | h1
                  · omega
                  · rcases List.mem_append.1 hu with hu | hu
                    · exact b6 u hu b hb h1
                    · exact hnot b h1 (.inr ⟨u, hu, hb⟩)
              · trivial
            · obtain ⟨ad, cap, e'⟩ := ownsRow_slice r2
              exact ⟨by simp [t2], by simp, ad, n + m, cap, by simp [e']⟩
          · cases hd
        · cases g2
      · cases g2
    · cases g2

end
end Vs
