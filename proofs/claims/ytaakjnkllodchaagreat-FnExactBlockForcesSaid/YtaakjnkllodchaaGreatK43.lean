/-
  Forces of a body: the reference's.
-/
import Derived.Test.YtaakjnkllodchaaGreatK42
set_option maxHeartbeats 4000000
namespace Vs
open Go Go.Sort
theorem c31 {G : Told} (g31 : G 31 = F31) {v : V3} {k : Nat} : gcall G none 31 [.flt v.x, .flt v.y, .flt v.z, .flt k] 3 = some [.flt (V3.scale v k).x, .flt (V3.scale v k).y, .flt (V3.scale v k).z] := gcall_on g31 rfl rfl rfl
theorem c30 {G : Told} (g30 : G 30 = F30) {u v : V3} : gcall G none 30 [.flt u.x, .flt u.y, .flt u.z, .flt v.x, .flt v.y, .flt v.z] 3 = some [.flt (V3.add u v).x, .flt (V3.add u v).y, .flt (V3.add u v).z] := gcall_on g30 rfl rfl rfl
theorem c126 {G : Told} (g126 : G 126 = F126) {a b : Nat} : gcall G none 126 [.flt a, .flt b] 1 = some [.flt (gainP a b)] := gcall_on g126 rfl rfl rfl
theorem c526 {G : Told} (g526 : G 526 = F526) {vs : List V3} {b1 b2 b3 b4 b5 b6 b7 b8 : D} {s : Sp} (ha : inr vs.length s.a = true) (hb : inr vs.length s.b = true) : gcall G none 526 [vl vs, b1, b2, b3, b4, b5, b6, b7, b8, .int s.a, .int s.b, .flt s.l, .flt s.k] 4 = some [.flt (dirS vs s).x, .flt (dirS vs s).y, .flt (dirS vs s).z, .flt (pullP (dirS vs s) s.l s.k)] :=
 gcall_on g526 rfl (by
  show ((dV (vl vs)).bind fun vs => _) = _
  rw [dV_vl, Option.bind_some, if_pos (by rw [ha, hb]; rfl)]
  rfl) rfl
theorem pushD {G : Told} (g30 : G 30 = F30) {us : List V3} {p : Int} {v : V3} {k : Nat} (h : inr us.length p = true) : ∃ q a : V3, gev none .idx [vl us, .int p] = some (vec q) ∧
  gcall G none 30 [.flt q.x, .flt q.y, .flt q.z, .flt (V3.scale v k).x, .flt (V3.scale v k).y, .flt (V3.scale v k).z] 3 = some [.flt a.x, .flt a.y, .flt a.z] ∧ gev none .set [vl us, .int p, .agg [.flt a.x, .flt a.y, .flt a.z]] = some (vl (pushP us p v k)) :=
 ⟨plc us p, V3.add (plc us p) (V3.scale v k), idx_plc h, c30 g30, set_plc h⟩
attribute [local irreducible] IntKind.wrap il tl vl fl sl inr longP fgt fdiv fmul fsub fadd fneg plc pushP frcS frcT frcH frcW hinF triN bentP dirS pullP spr crossV lessV nrmF longV V3.add V3.scale gainP

theorem loopWs {G : Told} (g30 : G 30 = F30) (g31 : G 31 = F31) {ws : List Nat} {v : V3} {us : List V3} (hw : ws.length = us.length) (hn : us.length ≤ 64) {F : Nat} (hF : 4200 < F) : iter (tbody 2 (S521sL0 G (fl ws) (.flt v.x) (.flt v.y) (.flt v.z) (.int (us.length : Int)))) F [vl us, .int 0] = some (0, [vl (frcW ws v us ws.length), .int (ws.length : Int), .bool false]) := by
 have e0 : frcW ws v us 0 = us := by rw [frcW]
 rw [← hw]
 have h1 := iter_to (body := tbody 2 (S521sL0 G (fl ws) (.flt v.x) (.flt v.y) (.flt v.z) (.int (ws.length : Int)))) (n := ws.length) (f := F) (l := 0) (ds := [vl (frcW ws v us ws.length), .int (ws.length : Int), .bool false]) (fun i => [vl (frcW ws v us i), .int (i : Int)]) (by omega) (fun i hi => ?_) ?_
 ·simp only [e0] at h1
  exact h1
 ·refine tb rfl ?_
  have h0 : decide ((i : Int) < (ws.length : Int)) = true := by simpa using hi
  have hr := idx_fl hi;rw [← getD_lt (d := 0) hi] at hr;have hadd := add1n (i := i) (by omega)
  have hl := frcW_len ws v us i;have hs : frcW ws v us (i + 1) = pushP (frcW ws v us i) (i : Int) v (ws.getD i 0) := by rw [frcW]
  rw [hs];generalize ws.getD i 0 = k at *;have c1 := c31 g31 (v := v) (k := k);obtain ⟨q, a, p1, p2, p3⟩ := pushD g30 (us := frcW ws v us i) (p := (i : Int)) (v := v) (k := k) (by rw [hl]; exact inr_nat (by omega))
  unfold S521sL0;simp only [ev0, p_agg, p_v0, p_v1, p_v2, h0, hr, c1, p1, p2, p3, hadd]
 ·refine tb rfl ?_
  have h0 : decide ((ws.length : Int) < (ws.length : Int)) = false := by simp
  unfold S521sL0;simp only [ev0, p_add, p_agg, Nat.zero_add, h0]
theorem loopHs {G : Told} (g30 : G 30 = F30) (g31 : G 31 = F31) (g524 : G 524 = F524) {vs us : List V3} {ts hs : List (List Int)} {bn : Nat} (hu : us.length = vs.length) (hh : ∀ i, i < hs.length → ∃ p q r s, hs.getD i [] = [p, q, r, s] ∧ inr vs.length p = true ∧ inr vs.length q = true ∧ inr vs.length r = true ∧ inr vs.length s = true) (hn : hs.length ≤ 4096) {F : Nat} (hF : 4200 < F) : iter (tbody 2 (S521sL1 G (vl vs) (tl ts) (.flt bn) [tl hs] (.int (hs.length : Int)))) F [vl us, .int 0] = some (0, [vl (frcH vs hs bn us hs.length), .int (hs.length : Int), .bool false]) := by
 have e0 : frcH vs hs bn us 0 = us := by rw [frcH]
 have h1 := iter_to (body := tbody 2 (S521sL1 G (vl vs) (tl ts) (.flt bn) [tl hs] (.int (hs.length : Int)))) (n := hs.length) (f := F) (l := 0) (ds := [vl (frcH vs hs bn us hs.length), .int (hs.length : Int), .bool false]) (fun i => [vl (frcH vs hs bn us i), .int (i : Int)]) (by omega) (fun i hi => ?_) ?_
 ·simp only [e0] at h1
  exact h1
 ·refine tb rfl ?_
  have h0 : decide ((i : Int) < (hs.length : Int)) = true := by simpa using hi
  have hr := p_ti hi;have hadd := add1n (i := i) (by omega)
  have hl := frcH_len vs hs bn us i;obtain ⟨p, q, r, s, hq, k1, k2, k3, k4⟩ := hh i hi;rw [hq] at hr;have hs : frcH vs hs bn us (i + 1) = hinF vs bn [p, q, r, s] (frcH vs hs bn us i) := by rw [frcH, hq]
  rw [hs, hinF4];have c0 := c524 g524 (b := tl ts) k1 k2 k3 k4;generalize bentP vs [p, q, r, s] = v at *;generalize frcH vs _ bn us i = w at *;have cb := c31 g31 (v := v) (k := bn);have cn := c31 g31 (v := v) (k := fneg .f32 bn);have e1 := hl.trans hu;obtain ⟨q1, a1, b1, b2, b3⟩ := pushD g30 (us := w) (p := p) (v := v) (k := bn) (by rw [e1]; exact k1)
  have e2 := (pushP_len w p v bn).trans e1;generalize pushP w p v bn = w1 at *;obtain ⟨q2, a2, b4, b5, b6⟩ := pushD g30 (us := w1) (p := q) (v := v) (k := bn) (by rw [e2]; exact k2)
  have e3 := (pushP_len w1 q v bn).trans e2;generalize pushP w1 q v bn = w2 at *;obtain ⟨q3, a3, b7, b8, b9⟩ := pushD g30 (us := w2) (p := r) (v := v) (k := fneg .f32 bn) (by rw [e3]; exact k3)
  have e4 := (pushP_len w2 r v (fneg .f32 bn)).trans e3;generalize pushP w2 r v (fneg .f32 bn) = w3 at *;obtain ⟨q4, a4, d1, d2, d3⟩ := pushD g30 (us := w3) (p := s) (v := v) (k := fneg .f32 bn) (by rw [e4]; exact k4)
  unfold S521sL1;have hb0 := (p_lss (x := (i : Int)) (y := _)).trans (congrArg (fun b => some (D.bool b)) h0)
  refine st_some hb0 ?_;refine st_ift ?_;refine st_some hr ?_;refine st_some hr ?_;refine st_some c0 ?_;refine st_some i40 ?_;refine st_some i40 ?_;refine st_some i40 ?_;refine st_some i40 ?_;refine st_some b1 ?_;refine st_some b1 ?_;refine st_some p_v0 ?_;refine st_some p_v1 ?_;refine st_some p_v2 ?_;refine st_some cb ?_;refine st_some b2 ?_;refine st_some b1 ?_;refine st_some p_agg ?_;refine st_some b3 ?_;refine st_some i41 ?_;refine st_some i41 ?_;refine st_some i41 ?_;refine st_some i41 ?_;refine st_some b4 ?_;refine st_some b4 ?_;refine st_some p_v0 ?_;refine st_some p_v1 ?_;refine st_some p_v2 ?_;refine st_some cb ?_;refine st_some b5 ?_;refine st_some b4 ?_;refine st_some p_agg ?_;refine st_some b6 ?_;refine st_some i42 ?_;refine st_some i42 ?_;refine st_some i42 ?_;refine st_some i42 ?_;refine st_some b7 ?_;refine st_some b7 ?_;refine st_some p_v0 ?_;refine st_some p_v1 ?_;refine st_some p_v2 ?_;refine st_some p_fneg ?_;refine st_some cn ?_;refine st_some b8 ?_;refine st_some b7 ?_;refine st_some p_agg ?_;refine st_some b9 ?_;refine st_some i43 ?_;refine st_some i43 ?_;refine st_some i43 ?_;refine st_some i43 ?_;refine st_some d1 ?_;refine st_some d1 ?_;refine st_some p_v0 ?_;refine st_some p_v1 ?_;refine st_some p_v2 ?_;refine st_some p_fneg ?_;refine st_some cn ?_;refine st_some d2 ?_;refine st_some d1 ?_;refine st_some p_agg ?_;refine st_some d3 ?_;refine st_some hadd ?_;rfl
 ·refine tb rfl ?_
  have h0 : decide ((hs.length : Int) < (hs.length : Int)) = false := by simp
  unfold S521sL1;simp only [ev0, p_add, p_agg, Nat.zero_add, h0]
theorem loopSs {G : Told} (g30 : G 30 = F30) (g31 : G 31 = F31) (g526 : G 526 = F526) {vs us : List V3} {ts : List (List Int)} {ss : List Sp} {fm bn x y z : Nat} {ws : List Nat} (hu : us.length = vs.length) (hh : ∀ i, i < ss.length → inr vs.length (ss.getD i ⟨0, 0, 0, 0⟩).a = true ∧ inr vs.length (ss.getD i ⟨0, 0, 0, 0⟩).b = true) (hn : ss.length ≤ 4096) {F : Nat} (hF : 4200 < F) : iter (tbody 2 (S521sL4 G (vl vs) (tl ts) (sl ss) (.flt fm) (.flt bn) (fl ws) (.flt x) (.flt y) (.flt z) (.int (ss.length : Int)))) F [vl us, .int 0] = some (0, [vl (frcS vs ss us ss.length), .int (ss.length : Int), .bool false]) := by
 have e0 : frcS vs ss us 0 = us := by rw [frcS]
 have h1 := iter_to (body := tbody 2 (S521sL4 G (vl vs) (tl ts) (sl ss) (.flt fm) (.flt bn) (fl ws) (.flt x) (.flt y) (.flt z) (.int (ss.length : Int)))) (n := ss.length) (f := F) (l := 0) (ds := [vl (frcS vs ss us ss.length), .int (ss.length : Int), .bool false]) (fun i => [vl (frcS vs ss us i), .int (i : Int)]) (by omega) (fun i hi => ?_) ?_
 ·simp only [e0] at h1
  exact h1
 ·refine tb rfl ?_
  have h0 : decide ((i : Int) < (ss.length : Int)) = true := by simpa using hi
  have hr := idx_sl hi;rw [← getD_lt (d := ⟨0, 0, 0, 0⟩) hi] at hr;have hadd := add1n (i := i) (by omega)
  have hl := frcS_len vs ss us i;obtain ⟨k1, k2⟩ := hh i hi;rw [frcS];generalize ss.getD i ⟨0, 0, 0, 0⟩ = s at *;have c0 := c526 g526 (b1 := tl ts) (b2 := sl ss) (b3 := .flt fm) (b4 := .flt bn) (b5 := fl ws) (b6 := .flt x) (b7 := .flt y) (b8 := .flt z) k1 k2;generalize dirS vs s = v at *;generalize pullP v s.l s.k = g at *;generalize frcS vs ss us i = w at *;have e1 := hl.trans hu;have cb := c31 g31 (v := v) (k := g);have cn := c31 g31 (v := v) (k := fneg .f32 g);obtain ⟨q1, a1, b1, b2, b3⟩ := pushD g30 (us := w) (p := s.a) (v := v) (k := g) (by rw [e1]; exact k1)
  have e2 := (pushP_len w s.a v g).trans e1;generalize pushP w s.a v g = w1 at *;obtain ⟨q2, a2, b4, b5, b6⟩ := pushD g30 (us := w1) (p := s.b) (v := v) (k := fneg .f32 g) (by rw [e2]; exact k2)
  unfold S521sL4;have hb0 := (p_lss (x := (i : Int)) (y := _)).trans (congrArg (fun b => some (D.bool b)) h0)
  refine st_some hb0 ?_;refine st_ift ?_;refine st_some hr ?_;refine st_some s_0 ?_;refine st_some s_1 ?_;refine st_some s_2 ?_;refine st_some s_3 ?_;refine st_some c0 ?_;refine st_some b1 ?_;refine st_some b1 ?_;refine st_some p_v0 ?_;refine st_some p_v1 ?_;refine st_some p_v2 ?_;refine st_some cb ?_;refine st_some b2 ?_;refine st_some b1 ?_;refine st_some p_agg ?_;refine st_some b3 ?_;refine st_some b4 ?_;refine st_some b4 ?_;refine st_some p_v0 ?_;refine st_some p_v1 ?_;refine st_some p_v2 ?_;refine st_some p_fneg ?_;refine st_some cn ?_;refine st_some b5 ?_;refine st_some b4 ?_;refine st_some p_agg ?_;refine st_some b6 ?_;refine st_some hadd ?_;rfl
 ·refine tb rfl ?_
  have h0 : decide ((ss.length : Int) < (ss.length : Int)) = false := by simp
  unfold S521sL4;simp only [ev0, p_add, p_agg, Nat.zero_add, h0]
theorem stepTs {G : Told} (g13 : G 13 = F13) (g30 : G 30 = F30) (g31 : G 31 = F31) (g158 : G 158 = F158) {vs us : List V3} {t : D} {n : V3} {f : Nat} {k k1 m1 k2 m2 p q r : Int} (hu : us.length = vs.length)
  (hp : inr vs.length p = true) (hq : inr vs.length q = true) (hr : inr vs.length r = true) (e0 : gev none (.icm .lss) [.int k, .int 3] = some (.bool true)) (e1 : gev none (.iar .add .i64) [.int k, .int 1] = some (.int k1)) (e2 : gev none (.idv .rem .i64) [.int k1, .int 3] = some (.int m1)) (e3 : gev none .idx [t, .int m1] = some (.int q))
  (e4 : gev none (.iar .add .i64) [.int k, .int 2] = some (.int k2)) (e5 : gev none (.idv .rem .i64) [.int k2, .int 3] = some (.int m2)) (e6 : gev none .idx [t, .int m2] = some (.int r)) (e7 : gev none .idx [t, .int k] = some (.int p)) :
  S521sL2 G (vl vs) t [.flt n.x, .flt n.y, .flt n.z] [.flt f] [vl us, .int k] = some (0, [vl (pushP us p (crossV n (lessV (plc vs r) (plc vs q))) f), .int k1]) := by
 have i1 := idx_plc hq
 have i2 := idx_plc hr
 have h1 := c13 g13 (u := plc vs r) (v := plc vs q)
 generalize lessV (plc vs r) (plc vs q) = d at *
 have h2 := c158 g158 (u := n) (v := d)
 generalize crossV n d = c at *
 have h3 := c31 g31 (v := c) (k := f)
 obtain ⟨q1, a1, b1, b2, b3⟩ := pushD g30 (us := us) (p := p) (v := c) (k := f) (by rw [hu]; exact hp)
 unfold S521sL2
 simp only [ev0, p_agg, p_v0, p_v1, p_v2, e0, e1, e2, e3, e4, e5, e6, e7, i1, i2, h1, h2, h3, b1, b2, b3]
theorem loopT3s {G : Told} (g13 : G 13 = F13) (g30 : G 30 = F30) (g31 : G 31 = F31) (g158 : G 158 = F158) {vs us : List V3} {x y z : Int} {n : V3} {f : Nat} (hu : us.length = vs.length)
  (hx : inr vs.length x = true) (hy : inr vs.length y = true) (hz : inr vs.length z = true) {F : Nat} (hF : 4200 < F) : iter (tbody 2 (S521sL2 G (vl vs) (il [x, y, z]) [.flt n.x, .flt n.y, .flt n.z] [.flt f])) F [vl us, .int 0] = some (0, [vl (triN vs [x, y, z] n f us 3), .int 3, .int 3, .bool false]) := by
 obtain ⟨F, rfl⟩ : ∃ E, F = E + 4 := ⟨F - 4, by omega⟩
 rw [triN3]
 refine iter_go (tb rfl (stepTs g13 g30 g31 g158 hu hx hy hz l_0 a_01 m_1 p_i1 a_02 m_2 p_i2 p_i0)) ?_
 refine iter_go (tb rfl (stepTs g13 g30 g31 g158 (by rw [pushP_len, hu]) hy hz hx l_1 a_11 m_2 p_i2 a_12 m_3 p_i0 p_i1)) ?_
 refine iter_go (tb rfl (stepTs g13 g30 g31 g158 (by rw [pushP_len, pushP_len, hu]) hz hx hy l_2 a_21 m_3 p_i0 a_22 m_4 p_i1 p_i2)) ?_
 refine iter_end (l := 0) (tb rfl ?_) rfl
 unfold S521sL2
 refine st_some l_3 ?_
 refine st_iff ?_
 rfl
theorem loopTs {G : Told} (g13 : G 13 = F13) (g15 : G 15 = F15) (g30 : G 30 = F30) (g31 : G 31 = F31) (g126 : G 126 = F126) (g158 : G 158 = F158) (g160 : G 160 = F160) {vs us : List V3} {ts : List (List Int)} {fm : Nat} (hu : us.length = vs.length) (hc : validP vs.length ts = true) {F : Nat} (hF : 4200 < F) : iter (tbody 2 (S521sL3 G F (vl vs) (tl ts) (.flt fm) (.int (ts.length : Int)))) F [vl us, .int 0] = some (0, [vl (frcT vs ts fm us ts.length), .int (ts.length : Int), .bool false]) := by
 have hl128 := (valid_len hc).2
 have e0 : frcT vs ts fm us 0 = us := by rw [frcT]
 have h1 := iter_to (body := tbody 2 (S521sL3 G F (vl vs) (tl ts) (.flt fm) (.int (ts.length : Int)))) (n := ts.length) (f := F) (l := 0) (ds := [vl (frcT vs ts fm us ts.length), .int (ts.length : Int), .bool false]) (fun i => [vl (frcT vs ts fm us i), .int (i : Int)]) (by omega) (fun i hi => ?_) ?_
 ·simp only [e0] at h1
  exact h1
 ·refine tb rfl ?_
  have h0 : decide ((i : Int) < (ts.length : Int)) = true := by simpa using hi
  have hr := p_ti hi;have hadd := add1n (i := i) (by omega)
  have hl := frcT_len vs ts fm us i;obtain ⟨x, y, z, ht, kx, ky, kz⟩ := tri_at hc hi;rw [ht] at hr;have hs : frcT vs ts fm us (i + 1) = triN vs [x, y, z] (nrmF vs [x, y, z]) (filmF fm (nrmF vs [x, y, z])) (frcT vs ts fm us i) 3 := by rw [frcT, ht]
  rw [hs];have c0 := c160 g160 (b := tl ts) kx ky kz;generalize nrmF vs [x, y, z] = n at *;generalize frcT vs ts fm us i = w at *;have c1 := c15 g15 (v := n);have it := loopT3s g13 g30 g31 g158 (n := n) (f := filmF fm n) (hl.trans hu) kx ky kz hF;have c2 : gcall G none 126 [.flt (fneg .f32 (fmul .f32 1056964608 fm)), .flt (longV n)] 1 = some [.flt (filmF fm n)] := c126 g126;unfold S521sL3;generalize filmF fm n = q at *;simp only [ev0, j_0, p_fmul, List.length_cons, List.length_nil, Nat.zero_add, Nat.reduceAdd, if_true, h0, hr, c0, c1, c2, p_fneg, it, hadd]
 ·refine tb rfl ?_
  have h0 : decide ((ts.length : Int) < (ts.length : Int)) = false := by simp
  unfold S521sL3;simp only [ev0, p_add, p_fmul, Nat.zero_add, h0]
theorem run521s {G : Told} (g13 : G 13 = F13) (g15 : G 15 = F15) (g30 : G 30 = F30) (g31 : G 31 = F31) (g126 : G 126 = F126) (g158 : G 158 = F158) (g160 : G 160 = F160) (g523 : G 523 = F523) (g524 : G 524 = F524) (g526 : G 526 = F526) : Runs G F521 T521s := by
 intro ds rs h
 unfold F521 at h
 obtain ⟨⟨B, r⟩, hb, h⟩ := Option.bind_eq_some_iff.1 h
 rw [dB_inv hb]
 split at h
 case isFalse => cases h
 rename_i hc
 simp only [Option.some.injEq] at h
 subst h
 obtain ⟨e, hv⟩ := hc
 dsimp only at e hv
 subst e
 clear hb
 obtain ⟨n64, s200, hsp⟩ := validB_spr hv
 obtain ⟨hP, hw⟩ := validB_P hv
 obtain ⟨vs, ts, ss, fm, bn, ws, x, y, z⟩ := B
 dsimp only at n64 s200 hsp hP hw
 clear hv
 obtain ⟨F, hF⟩ : ∃ F : Nat, 4200 < F := ⟨5000, by omega⟩
 refine ⟨F, ?_⟩
 unfold bd
 rw [List.append_nil, eq521s]
 unfold S521s
 have hz := zerV_len vs.length
 have e1 := len_vl (l := vs)
 have e2 := rep_vl (n := vs.length) (by omega)
 have e3 := len_sl (l := ss)
 have i1 := loopSs g30 g31 g526 (us := zerV vs.length) (ts := ts) (ss := ss) (fm := fm) (bn := bn) (x := x) (y := y) (z := z) (ws := ws) hz (fun i hi => by
  rw [getD_lt hi]
  exact ⟨(hsp i hi).1, (hsp i hi).2.1⟩) (by omega) hF
 have hl1 := frcS_len vs ss (zerV vs.length) ss.length
 have e4 := len_tl (l := ts)
 have i2 := loopTs g13 g15 g30 g31 g126 g158 g160 (us := frcS vs ss (zerV vs.length) ss.length) (fm := fm) (hl1.trans hz) hP hF
 have hl2 := frcT_len vs ts fm (frcS vs ss (zerV vs.length) ss.length) ts.length
 have c0 : gcall G none 523 [vl vs, tl ts] 1 = some [tl (hinL ts vs.length)] := gcall_on g523 rfl (F523_m hP) rfl
 have e5 := len_tl (l := hinL ts vs.length)
 have i3 := loopHs g30 g31 g524 (ts := ts) (bn := bn) ((hl2.trans hl1).trans hz) (hinL_ok hP) (hinL_len hP) hF
 have hl3 := frcH_len vs (hinL ts vs.length) bn (frcT vs ts fm (frcS vs ss (zerV vs.length) ss.length) ts.length) (hinL ts vs.length).length
 have i4 := loopWs g30 g31 (v := ⟨x, y, z⟩) (hw.trans ((((hl3.trans hl2).trans hl1).trans hz)).symm) (by rw [hl3, hl2, hl1, hz]; exact n64) hF
 dsimp only at i4
 rw [hl3, hl2, hl1, hz] at i4
 have e7 : frcB ⟨vs, ts, ss, fm, bn, ws, x, y, z⟩ = frcW ws ⟨x, y, z⟩ (frcH vs (hinL ts vs.length) bn (frcT vs ts fm (frcS vs ss (zerV vs.length) ss.length) ts.length) (hinL ts vs.length).length) ws.length := rfl
 rw [e7]
 clear e7 hl1 hl2 hl3 hz hsp
 generalize frcW ws ⟨x, y, z⟩ (frcH vs (hinL ts vs.length) bn (frcT vs ts fm (frcS vs ss (zerV vs.length) ss.length) ts.length) (hinL ts vs.length).length) ws.length = w4 at *
 generalize frcH vs (hinL ts vs.length) bn (frcT vs ts fm (frcS vs ss (zerV vs.length) ss.length) ts.length) (hinL ts vs.length).length = w3 at *
 generalize frcT vs ts fm (frcS vs ss (zerV vs.length) ss.length) ts.length = w2 at *
 generalize frcS vs ss (zerV vs.length) ss.length = w1 at *
 generalize zerV vs.length = w0 at *
 simp only [j_0, Option.bind_some, List.getD_cons_zero, List.length_cons, List.length_nil, Nat.zero_add, Nat.reduceAdd, if_true, e1, e2, e3, i1, e4, i2, c0, e5, i3, i4]
end Vs
