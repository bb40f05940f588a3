/- The document's statements, walked. No conditions but those in each statement. -/
import Derived.Test.YtiipmaoonnjlpaaLq3
set_option linter.unusedVariables false
set_option linter.unusedSimpArgs false
namespace Go.Proofs.Ytiipmaoonnjlpaa
open Go Go.Sy Go.RowKit
def rtQ (r : List Pq) : List C := [.ov zPs (r.map pC)]
def zRt : List C := [.v (.slice none 0 0)]
theorem rt_inj (a b : List Pq) (h : rtQ a = rtQ b) : a = b := by
  simp only [rtQ, List.cons.injEq, C.ov.injEq, true_and, and_true] at h
  exact map_inj pc_inj h
theorem rtq_nm (w : List Pq) : ∀ c ∈ rtQ w, c.names = [] := by
  intro c hc
  simp only [rtQ, List.mem_singleton] at hc
  subst hc; rfl
noncomputable def mRt : RowM (List Pq) := rowMOf zRt rtQ rtq_nm
theorem mRt_z : mRt.z = zRt := rfl
theorem mRt_e : mRt.e = rtQ := rfl
theorem mRt_d (l : List Pq) : mRt.d [.ov [.v (.int .i64 0), .v (.int .i64 0)] (l.map pC)] = some l := rowMOf_d rt_inj l
theorem decM_pp (l m : List Pq) : decM mPs.d (l.map pC ++ m.map pC) = some (l ++ m) := by rw [← List.map_append]; exact decM_p _
def okS (n : Nat) (l : List Sm) (f : List Pq) (g : List Nd) (r : List Pq) : Prop := okD n l ∧ ∃ c, okX c f g r ∧ c + 8 * szB n l ≤ 1000000000
theorem mem_gs (g : List Nd) (r f : List Pq) : ∀ q, some q ∈ [some ((zGg, [ggC g]) : MV), none, some ((zRt, [rtQ r]) : MV), some ((zPs, f.map pC) : MV)] → ∀ r ∈ q.2, ∀ c ∈ r, c.names = [] := by
  intro q hq x hx c hc
  simp only [List.mem_cons, List.not_mem_nil, or_false, Option.some.injEq, reduceCtorEq, false_or] at hq
  rcases hq with rfl | rfl | rfl
  · simp only [List.mem_singleton] at hx; subst hx; exact gg_nm g c hc
  · simp only [List.mem_singleton] at hx; subst hx; exact rtq_nm r c hc
  · obtain ⟨v, _, rfl⟩ := List.mem_map.1 hx; exact pc_nm v c hc
abbrev yc_gstmts (n : Nat) (g : List Nd) (l : List Sm) (f : List Pq) (r : List Pq) : Prop := okS n l f g r
abbrev yr_gstmts (n : Nat) (g : List Nd) (l : List Sm) (f : List Pq) (r : List Pq) : SV := .one (.s 3)
abbrev ym_gstmts (n : Nat) (g : List Nd) (l : List Sm) (f : List Pq) (r : List Pq) : List (Option MV) := [some (zGg, [ggC (qB n l f g r).2.1]), none, some (zRt, [rtQ (qB n l f g r).2.2]), some (zPs, (qB n l f g r).1.map pC)]
noncomputable abbrev ya_gstmts : ArgM ((List Nd) × (List Sm) × (List Pq) × (List Pq) × Unit) := (amP (mGg) (amD (cSs) (amS (mPs) (amP (mRt) am0))))
abbrev yq_gstmts (n : Nat) : Prop := CallsM Try.prog 41 ((ya_gstmts).args 0) (ya_gstmts).mem (fun p : (List Nd) × (List Sm) × (List Pq) × (List Pq) × Unit => yc_gstmts n p.1 p.2.1 p.2.2.1 p.2.2.2.1) (fun p : (List Nd) × (List Sm) × (List Pq) × (List Pq) × Unit => yr_gstmts n p.1 p.2.1 p.2.2.1 p.2.2.2.1) (fun p : (List Nd) × (List Sm) × (List Pq) × (List Pq) × Unit => ym_gstmts n p.1 p.2.1 p.2.2.1 p.2.2.2.1)
theorem yl_gstmts (n : Nat) : ∀ p, (fun p : (List Nd) × (List Sm) × (List Pq) × (List Pq) × Unit => yc_gstmts n p.1 p.2.1 p.2.2.1 p.2.2.2.1) p → lenM ((ya_gstmts).mem p).length ((fun p : (List Nd) × (List Sm) × (List Pq) × (List Pq) × Unit => ym_gstmts n p.1 p.2.1 p.2.2.1 p.2.2.2.1) p) = true := by intro p _; rfl
theorem yo_gstmts (n : Nat) : ∀ p, (fun p : (List Nd) × (List Sm) × (List Pq) × (List Pq) × Unit => yc_gstmts n p.1 p.2.1 p.2.2.1 p.2.2.2.1) p → outV ((fun p : (List Nd) × (List Sm) × (List Pq) × (List Pq) × Unit => ym_gstmts n p.1 p.2.1 p.2.2.1 p.2.2.2.1) p).length ((fun p : (List Nd) × (List Sm) × (List Pq) × (List Pq) × Unit => yr_gstmts n p.1 p.2.1 p.2.2.1 p.2.2.2.1) p) = true := by intro p _; rfl
theorem yn_gstmts (n : Nat) : ∀ p, (fun p : (List Nd) × (List Sm) × (List Pq) × (List Pq) × Unit => yc_gstmts n p.1 p.2.1 p.2.2.1 p.2.2.2.1) p → ∀ q, some q ∈ (fun p : (List Nd) × (List Sm) × (List Pq) × (List Pq) × Unit => ym_gstmts n p.1 p.2.1 p.2.2.1 p.2.2.2.1) p → ∀ r ∈ q.2, ∀ c ∈ r, c.names = [] := by intro p _; exact mem_gs _ _ _
noncomputable def yg_gstmts {X : Ctx} {w0 : World} (n : Nat) (h : yq_gstmts n) : Sy.Spec Try.prog X w0 := specM 41 Try.call41 (ya_gstmts) (fun p : (List Nd) × (List Sm) × (List Pq) × (List Pq) × Unit => yc_gstmts n p.1 p.2.1 p.2.2.1 p.2.2.2.1) (fun p : (List Nd) × (List Sm) × (List Pq) × (List Pq) × Unit => yr_gstmts n p.1 p.2.1 p.2.2.1 p.2.2.2.1) (fun p : (List Nd) × (List Sm) × (List Pq) × (List Pq) × Unit => ym_gstmts n p.1 p.2.1 p.2.2.1 p.2.2.2.1) (yl_gstmts n) (yo_gstmts n) (yn_gstmts n) h
theorem pc_stq {l : List Pq} {r : List C} {c : C} (h : r ∈ l.map pC) (hc : c ∈ r) : c.stor = true := by
  obtain ⟨p, _, rfl⟩ := List.mem_map.1 h
  simp only [pC, List.mem_cons, List.not_mem_nil, or_false] at hc
  rcases hc with rfl | rfl <;> rfl
abbrev stQ (l : List Sm) (t i : Nat) (f : List Pq) (g : List Nd) (r : List Pq) : St := ⟨[(0, true, .one (.p 0 0 0)), (1, true, .one (.d (.sl zSm (l.map Sm.r)))), (2, true, .one (.s t)), (3, true, .one (.p 2 0 0)), (9, true, .one (.v (.int .i64 (i : Int))))], [(0, .vec 0 zGg [[.ov zNd (g.map Nd.c)]]), (1, .dead), (t, .vec 0 zPs (f.map pC)), (2, .vec 0 zRt [[.ov zPs (r.map pC)]])]⟩
theorem pl98 : tPlaces Try.prog 98 = none := by kernel_rfl
theorem zSm_lq : zSm.length = 10 := rfl
theorem drop_sm {l : List Sm} {i : Nat} {s : Sm} (h : l[i]? = some s) : l.drop i = s :: l.drop (i + 1) := by
  have hi : i < l.length := (List.getElem?_eq_some_iff.1 h).1
  rw [List.drop_eq_getElem_cons hi]
  have : l[i] = s := (List.getElem?_eq_some_iff.1 h).2
  rw [this]
set_option maxRecDepth 20000 in set_option maxHeartbeats 16000000 in
theorem y_gstmtsS (n : Nat) (hu : yq_gstmts n) : yq_gstmts (n + 1) := by
  rintro ⟨g, l, f, r, _u⟩ w M I lab fz xs hc hA hl hx
  refine calls_toML Try.func41 rfl ((ya_gstmts).mem ⟨g, l, f, r, _u⟩) w M I lab fz [yp_gnode, yp_glink, (yg_gstmts n hu)] [] ((ya_gstmts).args 0 ⟨g, l, f, r, _u⟩) ((fun p : (List Nd) × (List Sm) × (List Pq) × (List Pq) × Unit => ym_gstmts (n + 1) p.1 p.2.1 p.2.2.1 p.2.2.2.1) ⟨g, l, f, r, _u⟩) ((fun p : (List Nd) × (List Sm) × (List Pq) × (List Pq) × Unit => yr_gstmts (n + 1) p.1 p.2.1 p.2.2.1 p.2.2.2.1) ⟨g, l, f, r, _u⟩) xs hA hl hx (fun v hv k hk => by have := (ya_gstmts).an 0 ⟨g, l, f, r, _u⟩ v hv k hk; omega) (Nat.le_of_ble_eq_true rfl) (Nat.le_of_ble_eq_true rfl) ?_
  clear hx hl hA xs
  simp only [Try.f41]
  obtain ⟨hc1, c, hc2, hc3⟩ := hc
  dsimp only at hc1 hc2 hc3
  simp only [↓eB, seval, go_sem, pl98, amG_a, amG_m, mGg_e, mGg_z, mGg_d, mPs_e, mPs_z, mPs_d, mRt_e, mRt_z, mRt_d, amG_d, gD_e, gD_z, mIn_d, decM_p, Nd.cs, cSs_e, cSs_d, ggC, rtQ, zGg, zRt, pC, zPs, inC, zIn, Sm.c, Sm.k, Sm.x, Sm.y, Sm.e, Sm.f, Sm.cd, Sm.ar, Sm.th, Sm.el, Sm.no]
  refine loop_ok (Y := Nat × List Pq × List Nd × List Pq) (fun y => y.1 ≤ l.length ∧ (∃ c, okX c y.2.1 y.2.2.1 y.2.2.2 ∧ c + 8 * szB (n + 1) (l.drop y.1) ≤ 1000000000) ∧ qL (qS (qB n)) (l.drop y.1) y.2.1 y.2.2.1 y.2.2.2 = qB (n + 1) l f g r)
    (fun y => stQ l 1000 y.1 y.2.1 y.2.2.1 y.2.2.2)
    (fun y => l.length - y.1) (0, f, g, r) ⟨Nat.zero_le _, ⟨c, hc2, hc3⟩, rfl⟩ ?_ ?_
  · refine to_with [.mv 1 1000] ?_; simp only [↓eB, seval, go_sem, pl98, amG_a, amG_m, mGg_e, mGg_z, mGg_d, mPs_e, mPs_z, mPs_d, mRt_e, mRt_z, mRt_d, amG_d, gD_e, gD_z, mIn_d, decM_p, Nd.cs, cSs_e, cSs_d, ggC, rtQ, zGg, zRt, pC, zPs, inC, zIn, Sm.c, Sm.k, Sm.x, Sm.y, Sm.e, Sm.f, Sm.cd, Sm.ar, Sm.th, Sm.el, Sm.no, pc_fn, nd_fn, pc_mv]
  · rintro ⟨i, f', g', r'⟩ ⟨j1, ⟨c', j2, j3⟩, j4⟩
    dsimp only at j1 j2 j3 j4
    refine vc_ok [yp_gnode, yp_glink, yg_gstmts n hu] [] _ _ _ ?_
    cases hx : l[i]? with
    | none =>
      have hil := List.getElem?_eq_none_iff.1 hx
      have b1 := natI_ge hil
      rw [List.drop_eq_nil_of_le hil] at j4
      have j4 : (f', g', r') = qB (n + 1) l f g r := j4
      have k1 : (qB (n + 1) l f g r).1 = f' := by rw [← j4]
      have k2 : (qB (n + 1) l f g r).2.1 = g' := by rw [← j4]
      have k3 : (qB (n + 1) l f g r).2.2 = r' := by rw [← j4]
      simp only [↓eB, seval, go_sem, yp_gnode, yp_glink, yg_gstmts, pl98, amG_a, amG_m, mGg_e, mGg_z, mGg_d, mPs_e, mPs_z, mPs_d, mRt_e, mRt_z, mRt_d, amG_d, gD_e, gD_z, mIn_d, decM_p, Nd.cs, cSs_e, cSs_d, ggC, rtQ, zGg, zRt, pC, zPs, inC, zIn, Sm.c, Sm.k, Sm.x, Sm.y, Sm.e, Sm.f, Sm.cd, Sm.ar, Sm.th, Sm.el, Sm.no, b1]
      try simp only [impB, impN]
      repeat' first | exact ck | with_reducible apply And.intro | intro _
      all_goals first | exact hil | (rename_i h; first | exact oI h | exact nah h) | (rename_i _ h _ g; exact sL h g) | decide | omega | (refine ret_with [.mv 1000 3] ?_; simp only [↓eB, seval, go_sem, bne, yr_gstmts, ym_gstmts, k1, k2, k3, zPs, pC, zNd, List.all_append, nd_all, in_all, nd_alls, pc_all, pc_mv, List.isEmpty_nil, List.map_append, List.map_set, Nd.c, ggC, zGg, rtQ, zRt, pc_fn, nd_fn, sm00, ex_nil, cd_nil, Sm.c, Sm.k, Sm.x, Sm.y, Sm.e, Sm.f, Sm.cd, Sm.ar, Sm.th, Sm.el, Sm.no])
    | some s =>
      have hil : i < l.length := (List.getElem?_eq_some_iff.1 hx).1
      have b1 := natI_lt hil
      have b2 := natI_ltp hil
      have b3 := smr_at hx
      have b4 := natI_succ (n := l.length) j1 (by have := hc1.1; omega)
      obtain ⟨d1, d2⟩ := hc1.2 s (List.mem_of_getElem? hx)
      rw [drop_sm hx, szB_cons] at j3
      rw [drop_sm hx] at j4
      have j4 : qL (qS (qB n)) (l.drop (i + 1)) (qS (qB n) s f' g' r').1 (qS (qB n) s f' g' r').2.1 (qS (qB n) s f' g' r').2.2 = qB (n + 1) l f g r := j4
      have SX := qS_gx (qB_gx n) d1 d2 j2
      have j5 : ∃ c, okX c (qS (qB n) s f' g' r').1 (qS (qB n) s f' g' r').2.1 (qS (qB n) s f' g' r').2.2 ∧ c + 8 * szB (n + 1) (l.drop (i + 1)) ≤ 1000000000 := ⟨_, SX.ok, by omega⟩
      clear SX
      have o1 : g'.length ≤ 1000000000 := by have := j2.gl; omega
      have o2 := fun k nx b => (gN_ok (s := s) j2 k nx b).1.w (by omega)
      cases k10 : (s.k == 10) with
      | true =>
        have hS : qS (qB n) s f' g' r' = gif (qB n) s f' g' r' := by unfold qS; rw [if_pos k10]
        rw [hS] at j4 j5
        have hA := giA_gx (qB_gx n) d1 j2
        have hA2 := giA_x2 (qB_gx n) d1 j2
        have hB := giB_gx (qB_gx n) d1 d2 j2
        obtain ⟨w1, w2, w3⟩ := giJ_w (qB_gx n) d1 d2 j2
        have o3 : okS n s.th [((g'.length : Int), 0)] (gN s f' g' 2 [0, 0] false) r' := ⟨d1, c' + 1, (gN_ok (s := s) j2 2 [0, 0] false).2.2.2.2 0 (by decide) (by decide), by omega⟩
        have o4 : okS n s.el [((g'.length : Int), 1)] (giA (qB n) s f' g' r').2.1 (giA (qB n) s f' g' r').2.2 := ⟨d2, _, hA2, by omega⟩
        have o5 : (giB (qB n) s f' g' r').2.1.length ≤ 1000000000 := by have := hB.ok.gl; omega
        have o6 : okW ((giB (qB n) s f' g' r').2.1 ++ [⟨4, sm00, [0], false⟩]) ((giA (qB n) s f' g' r').1 ++ (giB (qB n) s f' g' r').1) := ⟨by rw [List.length_append, List.length_singleton]; have := hB.ok.gl; omega, by omega, w3⟩
        have o7 : (giA (qB n) s f' g' r').1.length + (giB (qB n) s f' g' r').1.length ≤ 2 := by have := hA.ok.fl; have := hB.ok.fl; omega
        have o2 := o2 2 [0, 0] false
        have r1 : lnkG f' (g'.length : Int) (g' ++ [⟨2, s, [0, 0], false⟩]) = gN s f' g' 2 [0, 0] false := rfl
        have r2 : qB n s.th [((g'.length : Int), 0)] (gN s f' g' 2 [0, 0] false) r' = giA (qB n) s f' g' r' := rfl
        have r3 : qB n s.el [((g'.length : Int), 1)] (giA (qB n) s f' g' r').2.1 (giA (qB n) s f' g' r').2.2 = giB (qB n) s f' g' r' := rfl
        have r4 : ((giB (qB n) s f' g' r').2.1.length : Int) = giJ (qB n) s f' g' r' := rfl
        have r5 : lnkG ((giA (qB n) s f' g' r').1 ++ (giB (qB n) s f' g' r').1) (giJ (qB n) s f' g' r') ((giB (qB n) s f' g' r').2.1 ++ [⟨4, sm00, [0], false⟩]) = (gif (qB n) s f' g' r').2.1 := rfl
        have r6 : (gif (qB n) s f' g' r').1 = [(giJ (qB n) s f' g' r', 0)] := rfl
        have r7 : (gif (qB n) s f' g' r').2.2 = (giB (qB n) s f' g' r').2.2 := rfl
        rw [r6, r7] at j4 j5
        clear hS hA hA2 hB w1 w2 w3 r6 r7
        obtain ⟨k, x, y, e, e2, cd, ar, th, el, no⟩ := s
        simp only [Sm.k, Sm.th, Sm.el] at k10 o3 o4 r2 r3
        simp only [↓eB, seval, go_sem, yp_gnode, yp_glink, yg_gstmts, pl98, amG_a, amG_m, mGg_e, mGg_z, mGg_d, mPs_e, mPs_z, mPs_d, mRt_e, mRt_z, mRt_d, amG_d, gD_e, gD_z, mIn_d, decM_p, Nd.cs, cSs_e, cSs_d, ggC, rtQ, zGg, zRt, pC, zPs, inC, zIn, Sm.c, Sm.k, Sm.x, Sm.y, Sm.e, Sm.f, Sm.cd, Sm.ar, Sm.th, Sm.el, Sm.no, b1, b2, b3, b4, k10, sm_r, zSm_lq, fl10, r1, r2, r3, r4, r5, decM_pp]
        try simp only [impB, impN]
        repeat' first | exact ck | with_reducible apply And.intro | intro _
        all_goals try first | exact hil | exact o1 | exact o2 | exact o3 | exact o4 | exact o5 | exact o6 | exact pc_stq ‹_› ‹_› | (rename_i h; first | exact oI h | exact nah h) | (rename_i _ h _ g; exact sL h g) | decide | omega
        refine ⟨(i + 1, [(giJ (qB n) (.mk k x y e e2 cd ar th el no) f' g' r', 0)], (gif (qB n) (.mk k x y e e2 cd ar th el no) f' g' r').2.1, (giB (qB n) (.mk k x y e e2 cd ar th el no) f' g' r').2.2), ⟨hil, j5, j4⟩, by dsimp only; omega, to_trans (t := stQ l 92 (i + 1) [(giJ (qB n) (.mk k x y e e2 cd ar th el no) f' g' r', 0)] (gif (qB n) (.mk k x y e e2 cd ar th el no) f' g' r').2.1 (giB (qB n) (.mk k x y e e2 cd ar th el no) f' g' r').2.2) (to_with [] ?_) (to_with [.mv 92 1000] ?_)⟩
        · simp only [↓eB, seval, go_sem, stQ, pl98, amG_a, amG_m, mGg_e, mGg_z, mGg_d, mPs_e, mPs_z, mPs_d, mRt_e, mRt_z, mRt_d, amG_d, gD_e, gD_z, mIn_d, decM_p, Nd.cs, cSs_e, cSs_d, ggC, rtQ, zGg, zRt, pC, zPs, inC, zIn, Sm.c, Sm.k, Sm.x, Sm.y, Sm.e, Sm.f, Sm.cd, Sm.ar, Sm.th, Sm.el, Sm.no, pc_fn, nd_fn, zNd, List.all_append, nd_all, in_all, nd_alls, pc_all, pc_mv, List.isEmpty_nil, List.map_append, List.map_set, Nd.c, sm00, ex_nil, cd_nil]
        · simp only [↓eB, seval, go_sem, stQ, pl98, amG_a, amG_m, mGg_e, mGg_z, mGg_d, mPs_e, mPs_z, mPs_d, mRt_e, mRt_z, mRt_d, amG_d, gD_e, gD_z, mIn_d, decM_p, Nd.cs, cSs_e, cSs_d, ggC, rtQ, zGg, zRt, pC, zPs, inC, zIn, Sm.c, Sm.k, Sm.x, Sm.y, Sm.e, Sm.f, Sm.cd, Sm.ar, Sm.th, Sm.el, Sm.no, pc_fn, nd_fn, pc_mv, zNd, List.all_append, nd_all, in_all, nd_alls, pc_all, List.isEmpty_nil, List.map_append, List.map_set, Nd.c, sm00, ex_nil, cd_nil]
      | false =>
      cases k11 : (s.k == 11) with
      | true =>
        have hS : qS (qB n) s f' g' r' = gwh (qB n) s f' g' r' := by unfold qS; rw [if_neg (by rw [k10]; decide), if_pos k11]
        rw [hS] at j4 j5
        have hA := gwA_gx (qB_gx n) d1 j2
        have o3 : okS n s.th [((g'.length : Int), 0)] (gN s f' g' 2 [0, 0] true) r' := ⟨d1, c' + 1, (gN_ok (s := s) j2 2 [0, 0] true).2.2.2.2 0 (by decide) (by decide), by omega⟩
        have o6 : okW (gwA (qB n) s f' g' r').2.1 (gwA (qB n) s f' g' r').1 := hA.ok.w (by omega)
        have o2 := o2 2 [0, 0] true
        have r1 : lnkG f' (g'.length : Int) (g' ++ [⟨2, s, [0, 0], true⟩]) = gN s f' g' 2 [0, 0] true := rfl
        have r2 : qB n s.th [((g'.length : Int), 0)] (gN s f' g' 2 [0, 0] true) r' = gwA (qB n) s f' g' r' := rfl
        have r5 : lnkG (gwA (qB n) s f' g' r').1 (g'.length : Int) (gwA (qB n) s f' g' r').2.1 = (gwh (qB n) s f' g' r').2.1 := rfl
        have r6 : (gwh (qB n) s f' g' r').1 = [((g'.length : Int), 1)] := rfl
        have r7 : (gwh (qB n) s f' g' r').2.2 = (gwA (qB n) s f' g' r').2.2 := rfl
        rw [r6, r7] at j4 j5
        clear hS hA r6 r7
        obtain ⟨k, x, y, e, e2, cd, ar, th, el, no⟩ := s
        simp only [Sm.k, Sm.th, Sm.el] at k10 k11 o3 r2
        simp only [↓eB, seval, go_sem, yp_gnode, yp_glink, yg_gstmts, pl98, amG_a, amG_m, mGg_e, mGg_z, mGg_d, mPs_e, mPs_z, mPs_d, mRt_e, mRt_z, mRt_d, amG_d, gD_e, gD_z, mIn_d, decM_p, Nd.cs, cSs_e, cSs_d, ggC, rtQ, zGg, zRt, pC, zPs, inC, zIn, Sm.c, Sm.k, Sm.x, Sm.y, Sm.e, Sm.f, Sm.cd, Sm.ar, Sm.th, Sm.el, Sm.no, b1, b2, b3, b4, k10, k11, sm_r, zSm_lq, fl10, r1, r2, r5, decM_pp]
        try simp only [impB, impN]
        repeat' first | exact ck | with_reducible apply And.intro | intro _
        all_goals try first | exact hil | exact o1 | exact o2 | exact o3 | exact o6 | (rename_i h; first | exact oI h | exact nah h) | (rename_i _ h _ g; exact sL h g) | decide | omega
        refine ⟨(i + 1, [((g'.length : Int), 1)], (gwh (qB n) (.mk k x y e e2 cd ar th el no) f' g' r').2.1, (gwA (qB n) (.mk k x y e e2 cd ar th el no) f' g' r').2.2), ⟨hil, j5, j4⟩, by dsimp only; omega, to_trans (t := stQ l 117 (i + 1) [((g'.length : Int), 1)] (gwh (qB n) (.mk k x y e e2 cd ar th el no) f' g' r').2.1 (gwA (qB n) (.mk k x y e e2 cd ar th el no) f' g' r').2.2) (to_with [] ?_) (to_with [.mv 117 1000] ?_)⟩
        · simp only [↓eB, seval, go_sem, stQ, pl98, amG_a, amG_m, mGg_e, mGg_z, mGg_d, mPs_e, mPs_z, mPs_d, mRt_e, mRt_z, mRt_d, amG_d, gD_e, gD_z, mIn_d, decM_p, Nd.cs, cSs_e, cSs_d, ggC, rtQ, zGg, zRt, pC, zPs, inC, zIn, Sm.c, Sm.k, Sm.x, Sm.y, Sm.e, Sm.f, Sm.cd, Sm.ar, Sm.th, Sm.el, Sm.no, pc_fn, nd_fn, zNd, List.all_append, nd_all, in_all, nd_alls, pc_all, pc_mv, List.isEmpty_nil, List.map_append, List.map_set, Nd.c, sm00, ex_nil, cd_nil]
        · simp only [↓eB, seval, go_sem, stQ, pl98, amG_a, amG_m, mGg_e, mGg_z, mGg_d, mPs_e, mPs_z, mPs_d, mRt_e, mRt_z, mRt_d, amG_d, gD_e, gD_z, mIn_d, decM_p, Nd.cs, cSs_e, cSs_d, ggC, rtQ, zGg, zRt, pC, zPs, inC, zIn, Sm.c, Sm.k, Sm.x, Sm.y, Sm.e, Sm.f, Sm.cd, Sm.ar, Sm.th, Sm.el, Sm.no, pc_fn, nd_fn, pc_mv, zNd, List.all_append, nd_all, in_all, nd_alls, pc_all, List.isEmpty_nil, List.map_append, List.map_set, Nd.c, sm00, ex_nil, cd_nil]
      | false =>
      have hS : qS (qB n) s f' g' r' = gpl s f' g' r' := by unfold qS; rw [if_neg (by rw [k10]; decide), if_neg (by rw [k11]; decide)]
      rw [hS] at j4 j5
      have o2 := o2 1 [0] false
      have o3 : r'.length ≤ 1000000000 := by have := j2.rl; omega
      have r1 : lnkG f' (g'.length : Int) (g' ++ [⟨1, s, [0], false⟩]) = gN s f' g' 1 [0] false := rfl
      cases k9 : (s.k == 9) with
      | true =>
        have hP : gpl s f' g' r' = ([], gN s f' g' 1 [0] false, r' ++ [((g'.length : Int), 0)]) := by unfold gpl; rw [if_pos k9]
        rw [hP] at j4 j5
        clear hS hP
        obtain ⟨k, x, y, e, e2, cd, ar, th, el, no⟩ := s
        simp only [Sm.k] at k10 k11 k9
        simp only [↓eB, seval, go_sem, yp_gnode, yp_glink, yg_gstmts, pl98, amG_a, amG_m, mGg_e, mGg_z, mGg_d, mPs_e, mPs_z, mPs_d, mRt_e, mRt_z, mRt_d, amG_d, gD_e, gD_z, mIn_d, decM_p, Nd.cs, cSs_e, cSs_d, ggC, rtQ, zGg, zRt, pC, zPs, inC, zIn, Sm.c, Sm.k, Sm.x, Sm.y, Sm.e, Sm.f, Sm.cd, Sm.ar, Sm.th, Sm.el, Sm.no, b1, b2, b3, b4, k10, k11, k9, sm_r, zSm_lq, fl10, r1]
        try simp only [impB, impN]
        repeat' first | exact ck | with_reducible apply And.intro | intro _
        all_goals try first | exact hil | exact o1 | exact o2 | exact o3 | (rename_i h; first | exact oI h | exact nah h) | (rename_i _ h _ g; exact sL h g) | decide | omega
        refine ⟨(i + 1, [], gN (.mk k x y e e2 cd ar th el no) f' g' 1 [0] false, r' ++ [((g'.length : Int), 0)]), ⟨hil, j5, j4⟩, by dsimp only; omega, to_trans (t := ⟨[(0, true, .one (.p 0 0 0)), (1, true, .one (.d (.sl zSm (l.map Sm.r)))), (2, true, .one (.v (.slice none 0 0))), (3, true, .one (.p 2 0 0)), (9, true, .one (.v (.int .i64 ((i + 1 : Nat) : Int))))], [(0, .vec 0 zGg [[.ov zNd ((gN (.mk k x y e e2 cd ar th el no) f' g' 1 [0] false).map Nd.c)]]), (1, .dead), (2, .vec 0 zRt [[.ov zPs ((r' ++ [((g'.length : Int), 0)]).map pC)]])]⟩) (to_with [.fold 2 0 0] ?_) (to_with [.nil 2 1000 zPs] ?_)⟩
        · simp only [↓eB, seval, go_sem, stQ, pl98, amG_a, amG_m, mGg_e, mGg_z, mGg_d, mPs_e, mPs_z, mPs_d, mRt_e, mRt_z, mRt_d, amG_d, gD_e, gD_z, mIn_d, decM_p, Nd.cs, cSs_e, cSs_d, ggC, rtQ, zGg, zRt, pC, zPs, inC, zIn, Sm.c, Sm.k, Sm.x, Sm.y, Sm.e, Sm.f, Sm.cd, Sm.ar, Sm.th, Sm.el, Sm.no, pc_fn, nd_fn, zNd, List.all_append, nd_all, in_all, nd_alls, pc_all, pc_mv, List.isEmpty_nil, List.map_append, List.map_set, Nd.c, sm00, ex_nil, cd_nil]
        · simp only [↓eB, seval, go_sem, stQ, pl98, amG_a, amG_m, mGg_e, mGg_z, mGg_d, mPs_e, mPs_z, mPs_d, mRt_e, mRt_z, mRt_d, amG_d, gD_e, gD_z, mIn_d, decM_p, Nd.cs, cSs_e, cSs_d, ggC, rtQ, zGg, zRt, pC, zPs, inC, zIn, Sm.c, Sm.k, Sm.x, Sm.y, Sm.e, Sm.f, Sm.cd, Sm.ar, Sm.th, Sm.el, Sm.no, pc_fn, nd_fn, pc_mv, zNd, List.all_append, nd_all, in_all, nd_alls, pc_all, List.isEmpty_nil, List.map_append, List.map_set, Nd.c, sm00, ex_nil, cd_nil]
      | false =>
        have hP : gpl s f' g' r' = ([((g'.length : Int), 0)], gN s f' g' 1 [0] false, r') := by unfold gpl; rw [if_neg (by rw [k9]; decide)]
        rw [hP] at j4 j5
        clear hS hP
        obtain ⟨k, x, y, e, e2, cd, ar, th, el, no⟩ := s
        simp only [Sm.k] at k10 k11 k9
        simp only [↓eB, seval, go_sem, yp_gnode, yp_glink, yg_gstmts, pl98, amG_a, amG_m, mGg_e, mGg_z, mGg_d, mPs_e, mPs_z, mPs_d, mRt_e, mRt_z, mRt_d, amG_d, gD_e, gD_z, mIn_d, decM_p, Nd.cs, cSs_e, cSs_d, ggC, rtQ, zGg, zRt, pC, zPs, inC, zIn, Sm.c, Sm.k, Sm.x, Sm.y, Sm.e, Sm.f, Sm.cd, Sm.ar, Sm.th, Sm.el, Sm.no, b1, b2, b3, b4, k10, k11, k9, sm_r, zSm_lq, fl10, r1]
        try simp only [impB, impN]
        repeat' first | exact ck | with_reducible apply And.intro | intro _
        all_goals try first | exact hil | exact o1 | exact o2 | exact o3 | (rename_i h; first | exact oI h | exact nah h) | (rename_i _ h _ g; exact sL h g) | decide | omega
        refine ⟨(i + 1, [((g'.length : Int), 0)], gN (.mk k x y e e2 cd ar th el no) f' g' 1 [0] false, r'), ⟨hil, j5, j4⟩, by dsimp only; omega, to_trans (t := stQ l 40 (i + 1) [((g'.length : Int), 0)] (gN (.mk k x y e e2 cd ar th el no) f' g' 1 [0] false) r') (to_with [] ?_) (to_with [.mv 40 1000] ?_)⟩
        · simp only [↓eB, seval, go_sem, stQ, pl98, amG_a, amG_m, mGg_e, mGg_z, mGg_d, mPs_e, mPs_z, mPs_d, mRt_e, mRt_z, mRt_d, amG_d, gD_e, gD_z, mIn_d, decM_p, Nd.cs, cSs_e, cSs_d, ggC, rtQ, zGg, zRt, pC, zPs, inC, zIn, Sm.c, Sm.k, Sm.x, Sm.y, Sm.e, Sm.f, Sm.cd, Sm.ar, Sm.th, Sm.el, Sm.no, pc_fn, nd_fn, zNd, List.all_append, nd_all, in_all, nd_alls, pc_all, pc_mv, List.isEmpty_nil, List.map_append, List.map_set, Nd.c, sm00, ex_nil, cd_nil]
        · simp only [↓eB, seval, go_sem, stQ, pl98, amG_a, amG_m, mGg_e, mGg_z, mGg_d, mPs_e, mPs_z, mPs_d, mRt_e, mRt_z, mRt_d, amG_d, gD_e, gD_z, mIn_d, decM_p, Nd.cs, cSs_e, cSs_d, ggC, rtQ, zGg, zRt, pC, zPs, inC, zIn, Sm.c, Sm.k, Sm.x, Sm.y, Sm.e, Sm.f, Sm.cd, Sm.ar, Sm.th, Sm.el, Sm.no, pc_fn, nd_fn, pc_mv, zNd, List.all_append, nd_all, in_all, nd_alls, pc_all, List.isEmpty_nil, List.map_append, List.map_set, Nd.c, sm00, ex_nil, cd_nil]
theorem y_gstmts : ∀ n : Nat, yq_gstmts n
  | 0 => by
    rintro ⟨g, l, f, r, _u⟩ w M I lab fz xs hc hA hl hx
    exact hc.1.elim
  | n + 1 => y_gstmtsS n (y_gstmts n)
end Go.Proofs.Ytiipmaoonnjlpaa
