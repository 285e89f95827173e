/-
  Forces of a body: the program's.
-/
import Derived.Test.YtaakjnkllodchaaGreatK41
import Derived.Test.YtaakjnkllodchaaGreatK13
set_option maxHeartbeats 4000000
namespace Vs
open Go Go.Sort
theorem validB_spr {B : Bd} (h : validB B = true) : B.vs.length ≤ 64 ∧ B.ss.length ≤ 200 ∧ ∀ i, (hi : i < B.ss.length) → inr B.vs.length B.ss[i].a = true ∧ inr B.vs.length B.ss[i].b = true ∧ B.ss[i].a ≠ B.ss[i].b := by
 unfold validB validP at h
 simp only [Bool.and_eq_true, decide_eq_true_eq] at h
 refine ⟨h.1.1.1.1.1, h.1.1.2, fun i hi => ?_⟩
 have := List.all_eq_true.1 h.2 _ (List.getElem_mem hi)
 unfold sprP at this
 simp only [Bool.and_eq_true, Bool.not_eq_true', beq_eq_false_iff_ne] at this
 exact ⟨this.1.1.1, this.1.1.2, this.1.2⟩
theorem rep_vl {n : Nat} (h : n ≤ 1048576) : gev none .rep [.int n, .agg [.flt 0, .flt 0, .flt 0]] = some (vl (zerV n)) := by
 simp only [gev, gok, if_true, Prim.ev, vl, zerV]
 rw [if_pos ⟨by omega, by omega⟩]
 simp [vec]
theorem zerV_len (n : Nat) : (zerV n).length = n := List.length_replicate
theorem hinN_ok {n : Nat} {ts : List (List Int)} (hc : validP n ts = true) : ∀ k, k ≤ (edgL ts n).length → ∀ h ∈ hinN ts (edgL ts n) k, ∃ p q r s, h = [p, q, r, s] ∧ inr n p = true ∧ inr n q = true ∧ inr n r = true ∧ inr n s = true
 | 0, _, h, hm => by
  rw [hinN] at hm
  cases hm
 | k + 1, hk, h, hm => by
  rw [hinN, List.mem_append] at hm
  rcases hm with hm | hm
  ·exact hinN_ok hc k (by omega) h hm
  ·obtain ⟨p, q, he, hpq, hne, _⟩ := edg_get (n := n) (ts := ts) (i := k) (by omega)
   simp only [he] at hm;split at hm
   ·rename_i h2
    obtain ⟨u, v, huv⟩ := len2 h2;rw [List.mem_singleton, hinR_two huv] at hm;have hu : u ∈ atL ts p q := by rw [huv]; simp
    have hv : v ∈ atL ts p q := by rw [huv]; simp
    have t1 := (third_at hc (G := fun _ => F408) rfl hne hu).2.2
    have t2 := (third_at hc (G := fun _ => F408) rfl hne hv).2.2
    rw [Bool.and_eq_true] at hpq;exact ⟨p, q, _, _, hm, hpq.1, hpq.2, inr_iff.2 t1, inr_iff.2 t2⟩
   ·cases hm
theorem hinL_ok {n : Nat} {ts : List (List Int)} (hc : validP n ts = true) : ∀ i, i < (hinL ts n).length → ∃ p q r s, (hinL ts n).getD i [] = [p, q, r, s] ∧ inr n p = true ∧ inr n q = true ∧ inr n r = true ∧ inr n s = true := fun i hi => by
 rw [getD_lt hi]
 refine hinN_ok hc _ (Nat.le_refl _) _ ?_
 exact List.getElem_mem hi
theorem hinL_len {n : Nat} {ts : List (List Int)} (hc : validP n ts = true) : (hinL ts n).length ≤ 4096 :=
 Nat.le_trans (hinN_len ts (edgL ts n) _) (edg_len (valid_len hc).1)
theorem validB_P {B : Bd} (h : validB B = true) : validP B.vs.length B.ts = true ∧ B.ws.length = B.vs.length := by
 unfold validB at h
 simp only [Bool.and_eq_true, decide_eq_true_eq] at h
 exact ⟨h.1.1.1, h.1.2⟩
theorem F521_m {B : Bd} (h : validB B = true) : F521 (bd B) = some [vl (frcB B)] := by
 have e := dB_bd B []
 rw [List.append_nil] at e
 unfold F521
 rw [e]
 exact if_pos ⟨rfl, h⟩
theorem triN3 (vs : List V3) (x y z : Int) (n : V3) (f : Nat) (u : List V3) : triN vs [x, y, z] n f u 3 = pushP (pushP (pushP u x (crossV n (lessV (plc vs z) (plc vs y))) f) y (crossV n (lessV (plc vs x) (plc vs z))) f) z (crossV n (lessV (plc vs y) (plc vs x))) f := rfl
theorem corner3 {vs : List V3} {x y z : Int} (h1 : inr vs.length x = true) (h2 : inr vs.length y = true) (h3 : inr vs.length z = true) : corner vs [x, y, z] = some (plc vs x, plc vs y, plc vs z) := by
 show (if (inr (vs.length : Int) x && inr (vs.length : Int) y && inr (vs.length : Int) z) = true then some (plc vs x, plc vs y, plc vs z) else none) = _
 rw [if_pos (by rw [h1, h2, h3]; rfl)]
theorem c160 {G : Told} (g160 : G 160 = F160) {vs : List V3} {b : D} {x y z : Int} (h1 : inr vs.length x = true) (h2 : inr vs.length y = true) (h3 : inr vs.length z = true) : gcall G none 160 [vl vs, b, il [x, y, z]] 3 = some [.flt (nrmF vs [x, y, z]).x, .flt (nrmF vs [x, y, z]).y, .flt (nrmF vs [x, y, z]).z] :=
 gcall_on g160 rfl (F160_m (corner3 h1 h2 h3)) rfl
theorem c13 {G : Told} (g13 : G 13 = F13) {u v : V3} : gcall G none 13 [.flt u.x, .flt u.y, .flt u.z, .flt v.x, .flt v.y, .flt v.z] 3 = some [.flt (lessV u v).x, .flt (lessV u v).y, .flt (lessV u v).z] := gcall_on g13 rfl rfl rfl
theorem c15 {G : Told} (g15 : G 15 = F15) {v : V3} : gcall G none 15 [.flt v.x, .flt v.y, .flt v.z] 1 = some [.flt (longV v)] := gcall_on g15 rfl rfl rfl
theorem c158 {G : Told} (g158 : G 158 = F158) {u v : V3} : gcall G none 158 [.flt u.x, .flt u.y, .flt u.z, .flt v.x, .flt v.y, .flt v.z] 3 = some [.flt (crossV u v).x, .flt (crossV u v).y, .flt (crossV u v).z] := gcall_on g158 rfl rfl rfl
theorem tri_at {n : Nat} {ts : List (List Int)} (hc : validP n ts = true) {i : Nat} (hi : i < ts.length) : ∃ x y z, ts.getD i [] = [x, y, z] ∧ inr n x = true ∧ inr n y = true ∧ inr n z = true := by
 obtain ⟨x, y, z, ht, _, _, _, hx, hy, hz⟩ := (triOk_of hc).at hi
 exact ⟨x, y, z, ht, inr_iff.2 hx, inr_iff.2 hy, inr_iff.2 hz⟩
theorem a_01 : gev none (.iar .add .i64) [.int 0, .int 1] = some (.int 1) := (rfl)
theorem a_02 : gev none (.iar .add .i64) [.int 0, .int 2] = some (.int 2) := (rfl)
theorem a_11 : gev none (.iar .add .i64) [.int 1, .int 1] = some (.int 2) := (rfl)
theorem a_12 : gev none (.iar .add .i64) [.int 1, .int 2] = some (.int 3) := (rfl)
theorem a_21 : gev none (.iar .add .i64) [.int 2, .int 1] = some (.int 3) := (rfl)
theorem a_22 : gev none (.iar .add .i64) [.int 2, .int 2] = some (.int 4) := (rfl)
theorem m_1 : gev none (.idv .rem .i64) [.int 1, .int 3] = some (.int 1) := (rfl)
theorem m_2 : gev none (.idv .rem .i64) [.int 2, .int 3] = some (.int 2) := (rfl)
theorem m_3 : gev none (.idv .rem .i64) [.int 3, .int 3] = some (.int 0) := (rfl)
theorem m_4 : gev none (.idv .rem .i64) [.int 4, .int 3] = some (.int 1) := (rfl)
theorem l_3 : gev none (.icm .lss) [.int 3, .int 3] = some (.bool false) := (rfl)
theorem l_0 : gev none (.icm .lss) [.int 0, .int 3] = some (.bool true) := (rfl)
theorem l_1 : gev none (.icm .lss) [.int 1, .int 3] = some (.bool true) := (rfl)
theorem l_2 : gev none (.icm .lss) [.int 2, .int 3] = some (.bool true) := (rfl)
attribute [local irreducible] IntKind.wrap il tl vl fl sl inr longP fgt fdiv fmul fsub fadd fneg plc pushP frcS frcT frcH frcW hinF triN bentP dirS pullP spr crossV lessV nrmF longV V3.add V3.scale

theorem stepT {G : Told} (g13 : G 13 = F13) (g158 : G 158 = F158) (g522 : G 522 = F522) {vs us : List V3} {t : D} {n : V3} {f : Nat} {k k1 m1 k2 m2 p q r : Int} (hu : us.length = vs.length)
  (hp : inr vs.length p = true) (hq : inr vs.length q = true) (hr : inr vs.length r = true) (e0 : gev none (.icm .lss) [.int k, .int 3] = some (.bool true)) (e1 : gev none (.iar .add .i64) [.int k, .int 1] = some (.int k1)) (e2 : gev none (.idv .rem .i64) [.int k1, .int 3] = some (.int m1)) (e3 : gev none .idx [t, .int m1] = some (.int q))
  (e4 : gev none (.iar .add .i64) [.int k, .int 2] = some (.int k2)) (e5 : gev none (.idv .rem .i64) [.int k2, .int 3] = some (.int m2)) (e6 : gev none .idx [t, .int m2] = some (.int r)) (e7 : gev none .idx [t, .int k] = some (.int p)) :
  S521L2 G (vl vs) t [.flt n.x, .flt n.y, .flt n.z] [.flt f] [vl us, .int k] = some (0, [vl (pushP us p (crossV n (lessV (plc vs r) (plc vs q))) f), .int k1]) := by
 have i1 := idx_plc hq
 have i2 := idx_plc hr
 have h1 := c13 g13 (u := plc vs r) (v := plc vs q)
 generalize lessV (plc vs r) (plc vs q) = d at *
 have h2 := c158 g158 (u := n) (v := d)
 generalize crossV n d = c at *
 have h3 := c522 g522 (us := us) (p := p) (v := c) (k := f) (by rw [hu]; exact hp)
 unfold S521L2
 simp only [ev0, p_v0, p_v1, p_v2, e0, e1, e2, e3, e4, e5, e6, e7, i1, i2, h1, h2, h3]
theorem loopT3 {G : Told} (g13 : G 13 = F13) (g158 : G 158 = F158) (g522 : G 522 = F522) {vs us : List V3} {x y z : Int} {n : V3} {f : Nat} (hu : us.length = vs.length)
  (hx : inr vs.length x = true) (hy : inr vs.length y = true) (hz : inr vs.length z = true) {F : Nat} (hF : 4200 < F) : iter (tbody 2 (S521L2 G (vl vs) (il [x, y, z]) [.flt n.x, .flt n.y, .flt n.z] [.flt f])) F [vl us, .int 0] = some (0, [vl (triN vs [x, y, z] n f us 3), .int 3, .bool false]) := by
 obtain ⟨F, rfl⟩ : ∃ E, F = E + 4 := ⟨F - 4, by omega⟩
 rw [triN3]
 refine iter_go (tb rfl (stepT g13 g158 g522 hu hx hy hz l_0 a_01 m_1 p_i1 a_02 m_2 p_i2 p_i0)) ?_
 refine iter_go (tb rfl (stepT g13 g158 g522 (by rw [pushP_len, hu]) hy hz hx l_1 a_11 m_2 p_i2 a_12 m_3 p_i0 p_i1)) ?_
 refine iter_go (tb rfl (stepT g13 g158 g522 (by rw [pushP_len, pushP_len, hu]) hz hx hy l_2 a_21 m_3 p_i0 a_22 m_4 p_i1 p_i2)) ?_
 refine iter_end (l := 0) (tb rfl ?_) rfl
 unfold S521L2
 refine st_some l_3 ?_
 refine st_iff ?_
 rfl
theorem loopT {G : Told} (g13 : G 13 = F13) (g15 : G 15 = F15) (g158 : G 158 = F158) (g160 : G 160 = F160) (g522 : G 522 = F522) {vs us : List V3} {ts : List (List Int)} {fm : Nat} (hu : us.length = vs.length) (hc : validP vs.length ts = true) {F : Nat} (hF : 4200 < F) : iter (tbody 2 (S521L3 G F (vl vs) (tl ts) (.flt fm) (.int (ts.length : Int)))) F [vl us, .int 0] = some (0, [vl (frcT vs ts fm us ts.length), .int (ts.length : Int), .bool false]) := by
 have hl128 := (valid_len hc).2
 have e0 : frcT vs ts fm us 0 = us := by rw [frcT]
 have h1 := iter_to (body := tbody 2 (S521L3 G F (vl vs) (tl ts) (.flt fm) (.int (ts.length : Int)))) (n := ts.length) (f := F) (l := 0) (ds := [vl (frcT vs ts fm us ts.length), .int (ts.length : Int), .bool false]) (fun i => [vl (frcT vs ts fm us i), .int (i : Int)]) (by omega) (fun i hi => ?_) ?_
 ·simp only [e0] at h1
  exact h1
 ·refine tb rfl ?_
  have h0 : decide ((i : Int) < (ts.length : Int)) = true := by simpa using hi
  have hr := p_ti hi;have hadd := add1n (i := i) (by omega)
  have hl := frcT_len vs ts fm us i;obtain ⟨x, y, z, ht, kx, ky, kz⟩ := tri_at hc hi;rw [ht] at hr;have hs : frcT vs ts fm us (i + 1) = triN vs [x, y, z] (nrmF vs [x, y, z]) (filmF fm (nrmF vs [x, y, z])) (frcT vs ts fm us i) 3 := by rw [frcT, ht]
  rw [hs];have c0 := c160 g160 (b := tl ts) kx ky kz;generalize nrmF vs [x, y, z] = n at *;generalize frcT vs ts fm us i = w at *;have c1 := c15 g15 (v := n);have it := loopT3 g13 g158 g522 (n := n) (f := filmF fm n) (hl.trans hu) kx ky kz hF;unfold S521L3;generalize hq : filmF fm n = q at *;unfold filmF gainP at hq
  cases hg : fgt .f32 (longV n) 0 with
  | true =>
   rw [hg, if_pos rfl] at hq;simp only [ev0, j_0, p_fmul, p_fgtr, List.length_cons, List.length_nil, Nat.zero_add, Nat.reduceAdd, if_true, h0, hr, c0, c1, hg, p_fneg, p_fquo, hq, it, hadd]
  | false =>
   rw [hg, if_neg (by simp)] at hq
   subst hq;simp only [ev0, j_0, p_fmul, p_fgtr, List.length_cons, List.length_nil, Nat.zero_add, Nat.reduceAdd, if_true, h0, hr, c0, c1, hg, it, hadd]
 ·refine tb rfl ?_
  have h0 : decide ((ts.length : Int) < (ts.length : Int)) = false := by simp
  unfold S521L3;simp only [ev0, p_add, p_fmul, Nat.zero_add, h0]
theorem run521 {G : Told} (g13 : G 13 = F13) (g15 : G 15 = F15) (g158 : G 158 = F158) (g160 : G 160 = F160) (g201 : G 201 = F201) (g520 : G 520 = F520) (g522 : G 522 = F522) (g523 : G 523 = F523) (g524 : G 524 = F524) : Runs G F521 T521 := by
 intro ds rs h
 unfold F521 at h
 obtain ⟨⟨B, r⟩, hb, h⟩ := Option.bind_eq_some_iff.1 h
 rw [dB_inv hb]
 split at h
 case isFalse => cases h
 rename_i hc
 simp only [Option.some.injEq] at h
 subst h
 obtain ⟨e, hv⟩ := hc
 dsimp only at e hv
 subst e
 clear hb
 obtain ⟨n64, s200, hsp⟩ := validB_spr hv
 obtain ⟨hP, hw⟩ := validB_P hv
 obtain ⟨vs, ts, ss, fm, bn, ws, x, y, z⟩ := B
 dsimp only at n64 s200 hsp hP hw
 clear hv
 obtain ⟨F, hF⟩ : ∃ F : Nat, 4200 < F := ⟨5000, by omega⟩
 refine ⟨F, ?_⟩
 unfold bd
 rw [List.append_nil, eq521]
 unfold S521
 have hz := zerV_len vs.length
 have e1 := len_vl (l := vs)
 have e2 := rep_vl (n := vs.length) (by omega)
 have e3 := len_sl (l := ss)
 have i1 := loopS g522 g201 g520 (us := zerV vs.length) (ts := ts) (ss := ss) (fm := fm) (bn := bn) (x := x) (y := y) (z := z) (ws := ws) hz (fun i hi => by
  rw [getD_lt hi]
  exact ⟨(hsp i hi).1, (hsp i hi).2.1⟩) (by omega) hF
 have hl1 := frcS_len vs ss (zerV vs.length) ss.length
 have e4 := len_tl (l := ts)
 have i2 := loopT g13 g15 g158 g160 g522 (us := frcS vs ss (zerV vs.length) ss.length) (fm := fm) (hl1.trans hz) hP hF
 have hl2 := frcT_len vs ts fm (frcS vs ss (zerV vs.length) ss.length) ts.length
 have c0 : gcall G none 523 [vl vs, tl ts] 1 = some [tl (hinL ts vs.length)] := gcall_on g523 rfl (F523_m hP) rfl
 have e5 := len_tl (l := hinL ts vs.length)
 have i3 := loopH g522 g524 (ts := ts) (bn := bn) ((hl2.trans hl1).trans hz) (hinL_ok hP) (hinL_len hP) hF
 have hl3 := frcH_len vs (hinL ts vs.length) bn (frcT vs ts fm (frcS vs ss (zerV vs.length) ss.length) ts.length) (hinL ts vs.length).length
 have e6 := len_fl (l := ws)
 have i4 := loopW g522 (v := ⟨x, y, z⟩) (hw.trans ((((hl3.trans hl2).trans hl1).trans hz)).symm) (by rw [hl3, hl2, hl1, hz]; exact n64) hF
 dsimp only at i4
 have e7 : frcB ⟨vs, ts, ss, fm, bn, ws, x, y, z⟩ = frcW ws ⟨x, y, z⟩ (frcH vs (hinL ts vs.length) bn (frcT vs ts fm (frcS vs ss (zerV vs.length) ss.length) ts.length) (hinL ts vs.length).length) ws.length := rfl
 rw [e7]
 clear e7 hl1 hl2 hl3 hz hsp
 generalize frcW ws ⟨x, y, z⟩ (frcH vs (hinL ts vs.length) bn (frcT vs ts fm (frcS vs ss (zerV vs.length) ss.length) ts.length) (hinL ts vs.length).length) ws.length = w4 at *
 generalize frcH vs (hinL ts vs.length) bn (frcT vs ts fm (frcS vs ss (zerV vs.length) ss.length) ts.length) (hinL ts vs.length).length = w3 at *
 generalize frcT vs ts fm (frcS vs ss (zerV vs.length) ss.length) ts.length = w2 at *
 generalize frcS vs ss (zerV vs.length) ss.length = w1 at *
 generalize zerV vs.length = w0 at *
 simp only [j_0, Option.bind_some, List.getD_cons_zero, List.length_cons, List.length_nil, Nat.zero_add, Nat.reduceAdd, if_true, e1, e2, e3, i1, e4, i2, c0, e5, i3, e6, i4]
end Vs
