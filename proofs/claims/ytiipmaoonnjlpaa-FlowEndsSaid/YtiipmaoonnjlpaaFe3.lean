/- The graphs of functions that are made of any bytes: their ends. No conditions but those in each statement. -/
import Derived.Test.YtiipmaoonnjlpaaFe2
import Derived.Test.YtiipmaoonnjlpaaFl
import Derived.Test.YtiipmaoonnjlpaaGr4
set_option linter.unusedVariables false
set_option linter.unusedSimpArgs false
namespace Go.Proofs.Ytiipmaoonnjlpaa
open Go Go.Sy Go.RowKit

theorem cBy_d' (l : List Int) : cBy.d (.one (.d (.sl zBy (l.map byD)))) = some l := cBy_d l
theorem zBy_ln : zBy.length = 1 := rfl
noncomputable def rBy : RowC Int := rowOf zBy byD by_inj fun _ => rfl
theorem rBy_e : rBy.e = byD := rfl
theorem rBy_z : rBy.z = zBy := rfl
theorem decL_by (l : List Int) : decL rBy.d (l.map byD) = some l := decL_map rBy l
def plF (k : Int) : Int := if decide (k.tmod 4 < 0) = true then w64i (k.tmod 4 + 4) else k.tmod 4
theorem tmodk (k : Int) : -4 < k.tmod 4 ∧ k.tmod 4 < 4 := by
  refine ⟨?_, Int.tmod_lt_of_pos k (by decide)⟩
  have := Int.tmod_lt_of_pos (-k) (b := 4) (by decide)
  rw [Int.neg_tmod] at this
  omega
theorem plF_in (k : Int) : 0 ≤ plF k ∧ plF k < 4 := by
  have := tmodk k
  unfold plF
  split
  · rename_i h
    have h := of_decide_eq_true h
    unfold w64i; rw [wrap_i64 (by omega) (by omega)]; omega
  · rename_i h
    simp only [decide_eq_true_eq] at h
    omega
abbrev yc_Place (k : Int) (n : Int) : Prop := n = 4
abbrev yr_Place (k : Int) (n : Int) : SV := SV.one (.v (.int .i64 (plF k)))
set_option maxRecDepth 20000 in set_option maxHeartbeats 4000000 in
theorem y_Place : CallsY Try.prog 13 (acS (cInt .i64) (acS (cInt .i64) ac0)) (fun p : (Int × (Int × Unit)) => yc_Place p.1 p.2.1) (fun p : (Int × (Int × Unit)) => yr_Place p.1 p.2.1) := by
  rintro ⟨k, n, _u⟩ w fz xs hc hfz hl hx
  refine calls_toL Try.func13 rfl w fz [] [] (acS (cInt .i64) (acS (cInt .i64) ac0)) (fun p : (Int × (Int × Unit)) => yr_Place p.1 p.2.1) _ xs hfz hl hx (Nat.le_of_ble_eq_true rfl) ?_
  clear hx hl hfz xs
  simp only [Try.f13]
  have hc : n = 4 := hc
  subst hc
  have h1 := tmodk k
  cases h2 : decide (k.tmod 4 < 0) with
  | true =>
    have hr : plF k = w64i (k.tmod 4 + 4) := by unfold plF; rw [if_pos h2]
    simp only [↓eB, seval, ↓reduceIte, reduceCtorEq, Nat.reduceEqDiff, Nat.reduceLeDiff, go_sem, h2]
    try simp only [impB, impN]
    repeat' (first | exact chk_ok (by kernel_rfl) | with_reducible apply And.intro | intro _)
    all_goals first
      | exact h1
      | (rename_i h; exact (Option.some.inj h).symm)
      | (rename_i r h1 c h2; exact storL1 (by simp only [go_sem]) r h1 c h2)
      | (rename_i h; exact absurd h (by decide))
      | (decide)
      | omega
      | (refine ret_with [] ?_; simp only [↓eB, seval, ↓reduceIte, reduceCtorEq, Nat.reduceEqDiff, Nat.reduceLeDiff, go_sem, bne, yr_Place, hr])
  | false =>
    have hr : plF k = k.tmod 4 := by unfold plF; rw [if_neg (by rw [h2]; decide)]
    simp only [↓eB, seval, ↓reduceIte, reduceCtorEq, Nat.reduceEqDiff, Nat.reduceLeDiff, go_sem, h2]
    try simp only [impB, impN]
    repeat' (first | exact chk_ok (by kernel_rfl) | with_reducible apply And.intro | intro _)
    all_goals first
      | exact h1
      | (rename_i h; exact (Option.some.inj h).symm)
      | (rename_i r h1 c h2; exact storL1 (by simp only [go_sem]) r h1 c h2)
      | (rename_i h; exact absurd h (by decide))
      | (decide)
      | omega
      | (refine ret_with [] ?_; simp only [↓eB, seval, ↓reduceIte, reduceCtorEq, Nat.reduceEqDiff, Nat.reduceLeDiff, go_sem, bne, yr_Place, hr])
theorem yn_Place : ∀ p : (Int × (Int × Unit)), ((fun p : (Int × (Int × Unit)) => yr_Place p.1 p.2.1) p).names = [] := by intro p; first | rfl | simp [SV.names, C.names]
noncomputable def yp_Place {X : Ctx} {w0 : World} : Sy.Spec Try.prog X w0 := specD 13 Try.call13 (acS (cInt .i64) (acS (cInt .i64) ac0)) (fun p : (Int × (Int × Unit)) => yc_Place p.1 p.2.1) (fun p : (Int × (Int × Unit)) => yr_Place p.1 p.2.1) yn_Place y_Place
theorem bl_at2 {l : List Bool} {i : Nat} (h : i < l.length) (z : List D) : (l.map blD).getD i z = [.v (.bool (l.getD i false))] := by simp [List.getD, h, blD]
abbrev yc_reached (l : List Bool) (n : Int) : Prop := n = (l.length : Int) ∧ 0 < l.length ∧ l.length ≤ 1000000
abbrev yr_reached (l : List Bool) (n : Int) : Value := Value.bool (l.getD (l.length - 1) false)
set_option maxRecDepth 20000 in set_option maxHeartbeats 4000000 in
theorem y_reached : CallsR Try.prog 14 (ahS (cSl rBl) (ahS ((cInt .i64).H) ah0)) (fun p : (List Bool × (Int × Unit)) => yc_reached p.1 p.2.1) (fun p : (List Bool × (Int × Unit)) => ofV (yr_reached p.1 p.2.1)) := by
  rintro ⟨l, n, _u⟩ w fz xs hc hfz hl hx
  refine calls_toRL Try.func14 rfl w fz [] [] (ahS (cSl rBl) (ahS ((cInt .i64).H) ah0)) (fun p : (List Bool × (Int × Unit)) => ofV (yr_reached p.1 p.2.1)) _ xs hfz hl hx (Nat.le_of_ble_eq_true rfl) ?_
  clear hx hl hfz xs
  simp only [Try.f14]
  obtain ⟨h1, h2, h3⟩ := hc
  dsimp only at h1 h2 h3
  subst h1
  have e1 : ((l.length : Int) == (l.length : Int)) = true := beq_self_eq_true _
  have e2 := wr_sub (n := l.length) (by omega) h2
  have e3 := bl_at2 (l := l) (i := l.length - 1) (by omega)
  have e4 : ((l.length - 1 : Nat) : Int) < (l.length : Int) := by omega
  simp only [↓eB, seval, ↓reduceIte, reduceCtorEq, Nat.reduceEqDiff, Nat.reduceLeDiff, go_sem, cGr_e, cGr_d, rBy_e, rBy_z, zBy_ln, decL_by, rBl_e, rBl_z, zBl_ln, decL_bl, zID_ln, cSl, zND_ln, zIn_ln, cFn_e, cFn_d, Fn.c, fn_eta, cBy_e, cBy_d', gB, Gq.r, Nd.g, ↓oD_stor, ↓oD_names, ↓oD_noVw, ↓oD_flat, ↓oD_mv, ↓oD_ldc, e1, e2, e3]
  try simp only [impB, impN]
  repeat' (first | exact chk_ok (by kernel_rfl) | with_reducible apply And.intro | intro _)
  all_goals first
    | exact e4
    | (rename_i h; exact (Option.some.inj h).symm)
    | (rename_i r h1 c h2; exact storL1 (by simp only [go_sem]) r h1 c h2)
    | (rename_i h; exact absurd h (by decide))
    | (decide)
    | omega
    | (refine ret_with [] ?_; simp only [↓eB, seval, ↓reduceIte, reduceCtorEq, Nat.reduceEqDiff, Nat.reduceLeDiff, go_sem, bne, yr_reached])
theorem yh_reached : ∀ p : (List Bool × (Int × Unit)), okV ((fun p : (List Bool × (Int × Unit)) => yr_reached p.1 p.2.1) p) = true := by intro p; rfl
noncomputable def yp_reached {X : Ctx} {w0 : World} : Sy.Spec Try.prog X w0 := specR 14 Try.call14 (ahS (cSl rBl) (ahS ((cInt .i64).H) ah0)) (fun p : (List Bool × (Int × Unit)) => yc_reached p.1 p.2.1) (fun p : (List Bool × (Int × Unit)) => yr_reached p.1 p.2.1) yh_reached y_reached
def fl13 : List C := [.v (.bool false), .v (.bool false), .v (.bool false), .v (.bool false), .v (.bool false), .v (.bool false), .v (.bool false), .v (.bool false), .v (.bool false), .v (.bool false), .v (.bool false), .v (.bool false), .v (.bool false)]
def rowN (nd : Nd) : List C := [.v (.int .i64 nd.k), .v (.int .i64 nd.s.k), .v (.string (bs nd.s.x)), .v (.string (bs nd.s.y)), exC nd.s.e, exC nd.s.f, cdC nd.s.cd, .d (.sl zAr (nd.s.ar.map Ar.r)), .d (.sl zSm (nd.s.th.map Sm.r)), .d (.sl zSm (nd.s.el.map Sm.r)), .v (.int .i64 nd.s.no), .d (.sl zID (nd.nx.map inD)), .v (.bool nd.h)]
theorem rowN_nm (nd : Nd) : List.flatMap C.names (rowN nd) = [] := by
  apply List.flatMap_eq_nil_iff.2
  intro c hc
  simp only [rowN, List.mem_cons, List.not_mem_nil, or_false] at hc
  rcases hc with rfl | rfl | rfl | rfl | rfl | rfl | rfl | rfl | rfl | rfl | rfl | rfl | rfl <;> first | rfl | exact ex_names _ | exact cd_names _
theorem atL_cons (x : Nd) (l : List Nd) : atL (x :: l) = if (x.k == 1 || x.k == 2) = true then x.s.no :: atL l else atL l := by
  simp only [atL, List.filter_cons]
  split <;> simp
theorem gq_nd {L : List Nd} {i : Nat} (h : i < L.length) (z : List D) : ((L.map Nd.g).map Gq.r).getD i z = Gq.r (Nd.g (L.getD i nd0)) := by simp [List.getD, h]
theorem rg_gc {a : List Int} {c : Int} (ha : a = rg 0 c) {i : Nat} (h : i < a.length) : (a.map inC).getD i zIn = [.v (.int .i64 (i : Int))] := by
  subst ha
  simp [List.getD, rg_get h, inC]
abbrev yc_FlowEnds (k : Int) (b : List Int) : Prop := (-9223372036854775808 ≤ k ∧ k ≤ 9223372036854775807) ∧ b.length ≤ maxLen ∧ ∀ x ∈ b, 0 ≤ x ∧ x < 256
abbrev yr_FlowEnds (k : Int) (b : List Int) : Value := Value.bool true
set_option maxRecDepth 20000 in set_option maxHeartbeats 16000000 in
theorem y_FlowEnds : CallsR Try.prog 4 (ahS ((cInt .i64).H) (ahS (cSl rBy) ah0)) (fun p : (Int × (List Int × Unit)) => yc_FlowEnds p.1 p.2.1) (fun p : (Int × (List Int × Unit)) => ofV (yr_FlowEnds p.1 p.2.1)) := by
  rintro ⟨k, b, _u⟩ w fz xs hc hfz hl hx
  refine calls_toRL Try.func4 rfl w fz [yp_known, yp_Place, yp_FnA, (yg_lower (dpM (txT (plF k) b)) (y_lower (dpM (txT (plF k) b)))), yp_Reach, yp_reached] [] (ahS ((cInt .i64).H) (ahS (cSl rBy) ah0)) (fun p : (Int × (List Int × Unit)) => ofV (yr_FlowEnds p.1 p.2.1)) _ xs hfz hl hx (Nat.le_of_ble_eq_true rfl) ?_
  clear hx hl hfz xs
  simp only [Try.f4]
  obtain ⟨_, _, hby⟩ := hc
  dsimp only at hby
  cases c1 : decide ((200 : Int) < (b.length : Int)) with
  | true =>
    simp only [↓eB, seval, ↓reduceIte, reduceCtorEq, Nat.reduceEqDiff, Nat.reduceLeDiff, go_sem, yp_known, yp_Place, yp_FnA, yg_FnA, yg_lower, yp_Reach, yp_reached, cGr_e, cGr_d, rBy_e, rBy_z, zBy_ln, decL_by, rBl_e, rBl_z, zBl_ln, decL_bl, zID_ln, cSl, zND_ln, zIn_ln, cFn_e, cFn_d, Fn.c, fn_eta, cBy_e, cBy_d', gB, Gq.r, Nd.g, ↓oD_stor, ↓oD_names, ↓oD_noVw, ↓oD_flat, ↓oD_mv, ↓oD_ldc, c1]
    try simp only [impB, impN]
    repeat' (first | exact chk_ok (by kernel_rfl) | with_reducible apply And.intro | intro _)
    all_goals first
      | exact trivial
      | (rename_i h; exact (Option.some.inj h).symm)
      | (rename_i r h1 c h2; exact storL1 (by simp only [go_sem]) r h1 c h2)
      | (rename_i h; exact absurd h (by decide))
      | (decide)
      | omega
      | (refine ret_with [] ?_; simp only [↓eB, seval, ↓reduceIte, reduceCtorEq, Nat.reduceEqDiff, Nat.reduceLeDiff, go_sem, bne, yr_FlowEnds])
  | false =>
  have hbl := of_decide_eq_false c1
  have p0 := plF_in k
  have g1 : okY b := ⟨by omega, hby⟩
  obtain ⟨hd, hsz, hns, c, hal⟩ := fnA_al (plF k) b
  have E := low_en hd
  have A := low_at hd hns
  rw [hal] at A
  have hsm := low_small hd hsz
  have hd2 : szB (dpM (txT (plF k) b)) (fnA (plF k) b).body ≤ 10000000 := by omega
  generalize dpM (txT (plF k) b) = m at *
  obtain ⟨F, hF⟩ : ∃ F, fnA (plF k) b = F := ⟨_, rfl⟩
  rw [hF] at hd hd2 E A hsm
  obtain ⟨L, hL⟩ : ∃ L, lowF m F.body = L := ⟨_, rfl⟩
  rw [hL] at E A hsm
  obtain ⟨G, hG⟩ : ∃ G, L.map Nd.g = G := ⟨_, rfl⟩
  have hLG : L.map Nd.r = G.map Gq.r := by rw [← hG]; exact nd_g L
  have hGl : G.length = L.length := by rw [← hG]; simp
  have hre := E.re
  rw [hG] at hre
  obtain ⟨n, hn⟩ : ∃ n, L.length = n := ⟨_, rfl⟩
  have two := E.two
  have k1 : okG G := ⟨by rw [hGl]; omega, fun x hx => by
    rw [← hG] at hx
    obtain ⟨y, hy, rfl⟩ := List.mem_map.1 hx
    have := hsm.2 y hy
    show y.nx.length ≤ _; omega⟩
  rw [hn] at hGl hre two
  have k2 : (rcF G).getD ((rcF G).length - 1) false = true := by
    rw [rcF_len, hGl]; exact (rcF_get (by omega)).2 hre
  have k3 : yc_reached (rcF G) (n : Int) := ⟨by rw [rcF_len, hGl], by rw [rcF_len]; omega, by rw [rcF_len]; omega⟩
  have e1 : decide ((n : Int) < 2) = false := by simp; omega
  have e2 := wr_sub (n := n) (by omega) (by omega)
  have e3 := gq_nd (L := L) (i := n - 1) (by omega)
  rw [hG] at e3
  have e4 : (L.getD (n - 1) nd0).k = 3 := (E.ex (n - 1) (by omega)).2 (by omega)
  have e5 : ((n - 1 : Nat) : Int) < (G.length : Int) := by rw [hGl]; omega
  have e6 : ((n : Int) == (n : Int)) = true := beq_self_eq_true _
  have g2 : (0 : Int) ≤ plF k := p0.1
  simp only [↓eB, seval, ↓reduceIte, reduceCtorEq, Nat.reduceEqDiff, Nat.reduceLeDiff, go_sem, yp_known, yp_Place, yp_FnA, yg_FnA, yg_lower, yp_Reach, yp_reached, cGr_e, cGr_d, rBy_e, rBy_z, zBy_ln, decL_by, rBl_e, rBl_z, zBl_ln, decL_bl, zID_ln, cSl, zND_ln, zIn_ln, cFn_e, cFn_d, Fn.c, fn_eta, cBy_e, cBy_d', gB, Gq.r, Nd.g, ↓oD_stor, ↓oD_names, ↓oD_noVw, ↓oD_flat, ↓oD_mv, ↓oD_ldc, c1, yr_Place, yr_FnA, yr_lower, yr_Reach, yr_reached, trB, hF, hL, hLG, hGl, e1, e2, e3, e4, k2]
  repeat' (first | exact chk_ok (by kernel_rfl) | with_reducible apply And.intro)
  all_goals try first | exact g1 | exact g2 | exact hd | exact hd2 | exact k1 | exact k3 | exact k3.1 | exact k3.2.1 | exact k3.2.2 | exact e5 | exact natI_le _ | rfl | omega | decide
  refine loop_ok (Y := Nat × List Int) (fun y => y.1 ≤ n ∧ y.2 ++ atL (L.drop y.1) = rg 0 c ∧ y.2.length ≤ y.1)
    (fun y => ⟨[(6, true, .one (.p 6 0 0)), (7, true, .one (.v (.int .i64 (n : Int)))), (8, true, .one (.s 1000)), (9, true, .one (.v (.int .i64 (y.1 : Int))))], [(6, .vec 0 [.v (.bool false)] [[.d (.sl zND (G.map Gq.r))]]), (1000, .vec 0 zIn (y.2.map inC))]⟩)
    (fun y => n - y.1) (0, []) ⟨Nat.zero_le _, by simpa using A, Nat.le_refl _⟩ ?_ ?_
  · refine to_with [.nil 8 1000 zIn] ?_; simp only [↓eB, seval, ↓reduceIte, reduceCtorEq, Nat.reduceEqDiff, Nat.reduceLeDiff, go_sem, rowsI.fn, ↓oD_stor, ↓oD_names, ↓oD_noVw, ↓oD_flat, ↓oD_mv, ↓oD_ldc, hLG]
  · rintro ⟨i, acc⟩ ⟨j1, j2, j3⟩
    refine vc_ok [] [] _ _ _ ?_
    dsimp only at j1 j2 j3
    rcases Nat.lt_or_ge i n with hil | hil
    · have b1 := natI_lt hil
      have b2 := natI_ltp hil
      have b4 := natI_succ (n := n) j1 (by omega)
      have b3 := gq_nd (L := L) (i := i) (by omega)
      have hed := E.ed i (by omega)
      have hex := E.ex i (by omega)
      have hen := E.en i (by omega)
      have hnx := hsm.2 (L.getD i nd0) (by simp [List.getD, (by omega : i < L.length)])
      have hdr : L.drop i = L.getD i nd0 :: L.drop (i + 1) := drop_get (getD_get (by omega))
      rw [hG] at b3
      rw [hdr, atL_cons] at j2
      rw [hn] at hed hex
      generalize L.getD i nd0 = nd at b3 hed hex hen hnx j2
      have i1 : (i : Int) < (G.length : Int) := by rw [hGl]; omega
      have q3 : (nd.k == 3) = ((i : Int) == ((n - 1 : Nat) : Int)) := by
        rw [Bool.eq_iff_iff, beq_iff_eq, beq_iff_eq, hex]; omega
      have q0 : (nd.k == 0) = ((i : Int) == 0) := by
        rw [Bool.eq_iff_iff, beq_iff_eq, beq_iff_eq, hen]; omega
      have q3' : (((i : Int) == ((n - 1 : Nat) : Int)) == ((i : Int) == ((n - 1 : Nat) : Int))) = true := beq_self_eq_true _
      have q0' : (((i : Int) == 0) == ((i : Int) == 0)) = true := beq_self_eq_true _
      cases s1 : (nd.k == 1) with
      | true =>
        have hacc : acc ++ [nd.s.no] ++ atL (L.drop (i + 1)) = rg 0 c := by
          rw [s1, Bool.true_or, if_pos rfl] at j2; rw [List.append_assoc]; exact j2
        simp only [↓eB, seval, ↓reduceIte, reduceCtorEq, Nat.reduceEqDiff, Nat.reduceLeDiff, go_sem, yp_known, yp_Place, yp_FnA, yg_FnA, yg_lower, yp_Reach, yp_reached, cGr_e, cGr_d, rBy_e, rBy_z, zBy_ln, decL_by, rBl_e, rBl_z, zBl_ln, decL_bl, zID_ln, cSl, zND_ln, zIn_ln, cFn_e, cFn_d, Fn.c, fn_eta, cBy_e, cBy_d', gB, Gq.r, Nd.g, ↓oD_stor, ↓oD_names, ↓oD_noVw, ↓oD_flat, ↓oD_mv, ↓oD_ldc, b1, b2, b3, e2, q3, q0, q3', q0', s1]
        repeat' (first | exact chk_ok (by kernel_rfl) | with_reducible apply And.intro)
        all_goals try first | exact i1 | exact natI_le _ | exact storL1 (by simp only [go_sem]) | rfl | omega | decide
        refine loop_ok (Y := Nat) (fun j => j ≤ nd.nx.length)
          (fun j => ⟨[(6, true, .one (.p 6 0 0)), (7, true, .one (.v (.int .i64 (n : Int)))), (8, true, .one (.s 1001)), (9, true, .one (.v (.int .i64 (i : Int)))), (10, true, .one (.p 10 0 0)), (11, true, .one (.v (.int .i64 (j : Int))))], [(6, .vec 0 [.v (.bool false)] [[.d (.sl zND (G.map Gq.r))]]), (1001, .vec 0 zIn ((acc ++ [nd.s.no]).map inC)), (10, .vec 0 fl13 [rowN nd])]⟩)
          (fun j => nd.nx.length - j) 0 (Nat.zero_le _) ?_ ?_
        · refine to_trans (t := ⟨[(6, true, .one (.p 6 0 0)), (7, true, .one (.v (.int .i64 (n : Int)))), (8, true, .one (.s 86)), (9, true, .one (.v (.int .i64 (i : Int)))), (10, true, .one (.p 10 0 0)), (11, true, .one (.v (.int .i64 (0 : Int))))], [(6, .vec 0 [.v (.bool false)] [[.d (.sl zND (G.map Gq.r))]]), (86, .vec 0 zIn ((acc ++ [nd.s.no]).map inC)), (10, .vec 0 fl13 [rowN nd])]⟩) (to_with [] ?_) (to_with [.mv 86 1001] ?_)
          · simp only [↓eB, seval, ↓reduceIte, reduceCtorEq, Nat.reduceEqDiff, Nat.reduceLeDiff, go_sem, rowsI.fn, ↓oD_stor, ↓oD_names, ↓oD_noVw, ↓oD_flat, ↓oD_mv, ↓oD_ldc, rowN_nm, rowN, fl13, List.map_append, List.flatMap_append, inC]
          · simp only [↓eB, seval, ↓reduceIte, reduceCtorEq, Nat.reduceEqDiff, Nat.reduceLeDiff, go_sem, rowsI.fn, ↓oD_stor, ↓oD_names, ↓oD_noVw, ↓oD_flat, ↓oD_mv, ↓oD_ldc, rowN_nm, rowN, fl13, rowsI.mv]
        · intro j hj
          refine vc_ok [] [] _ _ _ ?_
          cases hy : nd.nx[j]? with
          | none =>
            have f1 := natI_ge (List.getElem?_eq_none_iff.1 hy)
            simp only [↓eB, seval, ↓reduceIte, reduceCtorEq, Nat.reduceEqDiff, Nat.reduceLeDiff, go_sem, yp_known, yp_Place, yp_FnA, yg_FnA, yg_lower, yp_Reach, yp_reached, cGr_e, cGr_d, rBy_e, rBy_z, zBy_ln, decL_by, rBl_e, rBl_z, zBl_ln, decL_bl, zID_ln, cSl, zND_ln, zIn_ln, cFn_e, cFn_d, Fn.c, fn_eta, cBy_e, cBy_d', gB, Gq.r, Nd.g, ↓oD_stor, ↓oD_names, ↓oD_noVw, ↓oD_flat, ↓oD_mv, ↓oD_ldc, f1, b4, rowN, fl13]
            refine ⟨(i + 1, (acc ++ [nd.s.no])), ⟨hil, hacc, by simp only [List.length_append, List.length_cons, List.length_nil] <;> omega⟩, by dsimp only; omega, to_with [.mv 1001 1000] ?_⟩
            simp only [↓eB, seval, ↓reduceIte, reduceCtorEq, Nat.reduceEqDiff, Nat.reduceLeDiff, go_sem, rowsI.fn, ↓oD_stor, ↓oD_names, ↓oD_noVw, ↓oD_flat, ↓oD_mv, ↓oD_ldc, rowsI.mv]
          | some x =>
            have hlj : j < nd.nx.length := (List.getElem?_eq_some_iff.1 hy).1
            have f1 := natI_lt hlj
            have f2 := natI_ltp hlj
            have f3 := in_at hy
            have f4 := natI_succ (n := nd.nx.length) hj (by omega)
            obtain ⟨x0, x1, x2⟩ := hed x (List.mem_of_getElem? hy)
            have m1 : decide (x < 0) = false := by simp; omega
            have m2 : decide ((n : Int) ≤ x) = false := by simp; omega
            have m3 := gq_nd (L := L) (i := x.toNat) (by omega)
            have m4 : x < (G.length : Int) := by rw [hGl]; exact x1
            rw [hG] at m3
            cases m5 : decide (x ≤ (i : Int)) with
            | true =>
              have m6 := x2 (of_decide_eq_true m5)
              simp only [↓eB, seval, ↓reduceIte, reduceCtorEq, Nat.reduceEqDiff, Nat.reduceLeDiff, go_sem, yp_known, yp_Place, yp_FnA, yg_FnA, yg_lower, yp_Reach, yp_reached, cGr_e, cGr_d, rBy_e, rBy_z, zBy_ln, decL_by, rBl_e, rBl_z, zBl_ln, decL_bl, zID_ln, cSl, zND_ln, zIn_ln, cFn_e, cFn_d, Fn.c, fn_eta, cBy_e, cBy_d', gB, Gq.r, Nd.g, ↓oD_stor, ↓oD_names, ↓oD_noVw, ↓oD_flat, ↓oD_mv, ↓oD_ldc, f1, f2, f3, f4, m1, m2, m3, m5, m6, rowN, fl13]
              try simp only [impB, impN]
              repeat' (first | exact chk_ok (by kernel_rfl) | with_reducible apply And.intro | intro _)
              all_goals try first | exact hlj | exact x0 | exact m4 | (rename_i h; exact (Option.some.inj h).symm) | (rename_i r h1 c h2; exact storL1 (by simp only [go_sem]) r h1 c h2) | (rename_i h; exact absurd h (by decide)) | (decide) | omega
              refine ⟨j + 1, hlj, by omega, to_with [] ?_⟩
              simp only [↓eB, seval, ↓reduceIte, reduceCtorEq, Nat.reduceEqDiff, Nat.reduceLeDiff, go_sem, rowsI.fn, ↓oD_stor, ↓oD_names, ↓oD_noVw, ↓oD_flat, ↓oD_mv, ↓oD_ldc, rowN_nm, rowN, fl13]
            | false =>
              simp only [↓eB, seval, ↓reduceIte, reduceCtorEq, Nat.reduceEqDiff, Nat.reduceLeDiff, go_sem, yp_known, yp_Place, yp_FnA, yg_FnA, yg_lower, yp_Reach, yp_reached, cGr_e, cGr_d, rBy_e, rBy_z, zBy_ln, decL_by, rBl_e, rBl_z, zBl_ln, decL_bl, zID_ln, cSl, zND_ln, zIn_ln, cFn_e, cFn_d, Fn.c, fn_eta, cBy_e, cBy_d', gB, Gq.r, Nd.g, ↓oD_stor, ↓oD_names, ↓oD_noVw, ↓oD_flat, ↓oD_mv, ↓oD_ldc, f1, f2, f3, f4, m1, m2, m3, m5, rowN, fl13]
              try simp only [impB, impN]
              repeat' (first | exact chk_ok (by kernel_rfl) | with_reducible apply And.intro | intro _)
              all_goals try first | exact hlj | exact x0 | exact m4 | (rename_i h; exact (Option.some.inj h).symm) | (rename_i r h1 c h2; exact storL1 (by simp only [go_sem]) r h1 c h2) | (rename_i h; exact absurd h (by decide)) | (decide) | omega
              refine ⟨j + 1, hlj, by omega, to_with [] ?_⟩
              simp only [↓eB, seval, ↓reduceIte, reduceCtorEq, Nat.reduceEqDiff, Nat.reduceLeDiff, go_sem, rowsI.fn, ↓oD_stor, ↓oD_names, ↓oD_noVw, ↓oD_flat, ↓oD_mv, ↓oD_ldc, rowN_nm, rowN, fl13]
      | false =>
      cases s2 : (nd.k == 2) with
      | true =>
        have hacc : acc ++ [nd.s.no] ++ atL (L.drop (i + 1)) = rg 0 c := by
          rw [s1, s2, Bool.false_or, if_pos rfl] at j2; rw [List.append_assoc]; exact j2
        simp only [↓eB, seval, ↓reduceIte, reduceCtorEq, Nat.reduceEqDiff, Nat.reduceLeDiff, go_sem, yp_known, yp_Place, yp_FnA, yg_FnA, yg_lower, yp_Reach, yp_reached, cGr_e, cGr_d, rBy_e, rBy_z, zBy_ln, decL_by, rBl_e, rBl_z, zBl_ln, decL_bl, zID_ln, cSl, zND_ln, zIn_ln, cFn_e, cFn_d, Fn.c, fn_eta, cBy_e, cBy_d', gB, Gq.r, Nd.g, ↓oD_stor, ↓oD_names, ↓oD_noVw, ↓oD_flat, ↓oD_mv, ↓oD_ldc, b1, b2, b3, e2, q3, q0, q3', q0', s1, s2]
        repeat' (first | exact chk_ok (by kernel_rfl) | with_reducible apply And.intro)
        all_goals try first | exact i1 | exact natI_le _ | exact storL1 (by simp only [go_sem]) | rfl | omega | decide
        refine loop_ok (Y := Nat) (fun j => j ≤ nd.nx.length)
          (fun j => ⟨[(6, true, .one (.p 6 0 0)), (7, true, .one (.v (.int .i64 (n : Int)))), (8, true, .one (.s 1001)), (9, true, .one (.v (.int .i64 (i : Int)))), (10, true, .one (.p 10 0 0)), (11, true, .one (.v (.int .i64 (j : Int))))], [(6, .vec 0 [.v (.bool false)] [[.d (.sl zND (G.map Gq.r))]]), (1001, .vec 0 zIn ((acc ++ [nd.s.no]).map inC)), (10, .vec 0 fl13 [rowN nd])]⟩)
          (fun j => nd.nx.length - j) 0 (Nat.zero_le _) ?_ ?_
        · refine to_trans (t := ⟨[(6, true, .one (.p 6 0 0)), (7, true, .one (.v (.int .i64 (n : Int)))), (8, true, .one (.s 86)), (9, true, .one (.v (.int .i64 (i : Int)))), (10, true, .one (.p 10 0 0)), (11, true, .one (.v (.int .i64 (0 : Int))))], [(6, .vec 0 [.v (.bool false)] [[.d (.sl zND (G.map Gq.r))]]), (86, .vec 0 zIn ((acc ++ [nd.s.no]).map inC)), (10, .vec 0 fl13 [rowN nd])]⟩) (to_with [] ?_) (to_with [.mv 86 1001] ?_)
          · simp only [↓eB, seval, ↓reduceIte, reduceCtorEq, Nat.reduceEqDiff, Nat.reduceLeDiff, go_sem, rowsI.fn, ↓oD_stor, ↓oD_names, ↓oD_noVw, ↓oD_flat, ↓oD_mv, ↓oD_ldc, rowN_nm, rowN, fl13, List.map_append, List.flatMap_append, inC]
          · simp only [↓eB, seval, ↓reduceIte, reduceCtorEq, Nat.reduceEqDiff, Nat.reduceLeDiff, go_sem, rowsI.fn, ↓oD_stor, ↓oD_names, ↓oD_noVw, ↓oD_flat, ↓oD_mv, ↓oD_ldc, rowN_nm, rowN, fl13, rowsI.mv]
        · intro j hj
          refine vc_ok [] [] _ _ _ ?_
          cases hy : nd.nx[j]? with
          | none =>
            have f1 := natI_ge (List.getElem?_eq_none_iff.1 hy)
            simp only [↓eB, seval, ↓reduceIte, reduceCtorEq, Nat.reduceEqDiff, Nat.reduceLeDiff, go_sem, yp_known, yp_Place, yp_FnA, yg_FnA, yg_lower, yp_Reach, yp_reached, cGr_e, cGr_d, rBy_e, rBy_z, zBy_ln, decL_by, rBl_e, rBl_z, zBl_ln, decL_bl, zID_ln, cSl, zND_ln, zIn_ln, cFn_e, cFn_d, Fn.c, fn_eta, cBy_e, cBy_d', gB, Gq.r, Nd.g, ↓oD_stor, ↓oD_names, ↓oD_noVw, ↓oD_flat, ↓oD_mv, ↓oD_ldc, f1, b4, rowN, fl13]
            refine ⟨(i + 1, (acc ++ [nd.s.no])), ⟨hil, hacc, by simp only [List.length_append, List.length_cons, List.length_nil] <;> omega⟩, by dsimp only; omega, to_with [.mv 1001 1000] ?_⟩
            simp only [↓eB, seval, ↓reduceIte, reduceCtorEq, Nat.reduceEqDiff, Nat.reduceLeDiff, go_sem, rowsI.fn, ↓oD_stor, ↓oD_names, ↓oD_noVw, ↓oD_flat, ↓oD_mv, ↓oD_ldc, rowsI.mv]
          | some x =>
            have hlj : j < nd.nx.length := (List.getElem?_eq_some_iff.1 hy).1
            have f1 := natI_lt hlj
            have f2 := natI_ltp hlj
            have f3 := in_at hy
            have f4 := natI_succ (n := nd.nx.length) hj (by omega)
            obtain ⟨x0, x1, x2⟩ := hed x (List.mem_of_getElem? hy)
            have m1 : decide (x < 0) = false := by simp; omega
            have m2 : decide ((n : Int) ≤ x) = false := by simp; omega
            have m3 := gq_nd (L := L) (i := x.toNat) (by omega)
            have m4 : x < (G.length : Int) := by rw [hGl]; exact x1
            rw [hG] at m3
            cases m5 : decide (x ≤ (i : Int)) with
            | true =>
              have m6 := x2 (of_decide_eq_true m5)
              simp only [↓eB, seval, ↓reduceIte, reduceCtorEq, Nat.reduceEqDiff, Nat.reduceLeDiff, go_sem, yp_known, yp_Place, yp_FnA, yg_FnA, yg_lower, yp_Reach, yp_reached, cGr_e, cGr_d, rBy_e, rBy_z, zBy_ln, decL_by, rBl_e, rBl_z, zBl_ln, decL_bl, zID_ln, cSl, zND_ln, zIn_ln, cFn_e, cFn_d, Fn.c, fn_eta, cBy_e, cBy_d', gB, Gq.r, Nd.g, ↓oD_stor, ↓oD_names, ↓oD_noVw, ↓oD_flat, ↓oD_mv, ↓oD_ldc, f1, f2, f3, f4, m1, m2, m3, m5, m6, rowN, fl13]
              try simp only [impB, impN]
              repeat' (first | exact chk_ok (by kernel_rfl) | with_reducible apply And.intro | intro _)
              all_goals try first | exact hlj | exact x0 | exact m4 | (rename_i h; exact (Option.some.inj h).symm) | (rename_i r h1 c h2; exact storL1 (by simp only [go_sem]) r h1 c h2) | (rename_i h; exact absurd h (by decide)) | (decide) | omega
              refine ⟨j + 1, hlj, by omega, to_with [] ?_⟩
              simp only [↓eB, seval, ↓reduceIte, reduceCtorEq, Nat.reduceEqDiff, Nat.reduceLeDiff, go_sem, rowsI.fn, ↓oD_stor, ↓oD_names, ↓oD_noVw, ↓oD_flat, ↓oD_mv, ↓oD_ldc, rowN_nm, rowN, fl13]
            | false =>
              simp only [↓eB, seval, ↓reduceIte, reduceCtorEq, Nat.reduceEqDiff, Nat.reduceLeDiff, go_sem, yp_known, yp_Place, yp_FnA, yg_FnA, yg_lower, yp_Reach, yp_reached, cGr_e, cGr_d, rBy_e, rBy_z, zBy_ln, decL_by, rBl_e, rBl_z, zBl_ln, decL_bl, zID_ln, cSl, zND_ln, zIn_ln, cFn_e, cFn_d, Fn.c, fn_eta, cBy_e, cBy_d', gB, Gq.r, Nd.g, ↓oD_stor, ↓oD_names, ↓oD_noVw, ↓oD_flat, ↓oD_mv, ↓oD_ldc, f1, f2, f3, f4, m1, m2, m3, m5, rowN, fl13]
              try simp only [impB, impN]
              repeat' (first | exact chk_ok (by kernel_rfl) | with_reducible apply And.intro | intro _)
              all_goals try first | exact hlj | exact x0 | exact m4 | (rename_i h; exact (Option.some.inj h).symm) | (rename_i r h1 c h2; exact storL1 (by simp only [go_sem]) r h1 c h2) | (rename_i h; exact absurd h (by decide)) | (decide) | omega
              refine ⟨j + 1, hlj, by omega, to_with [] ?_⟩
              simp only [↓eB, seval, ↓reduceIte, reduceCtorEq, Nat.reduceEqDiff, Nat.reduceLeDiff, go_sem, rowsI.fn, ↓oD_stor, ↓oD_names, ↓oD_noVw, ↓oD_flat, ↓oD_mv, ↓oD_ldc, rowN_nm, rowN, fl13]
      | false =>
        have hacc : acc ++ atL (L.drop (i + 1)) = rg 0 c := by
          rw [s1, s2, Bool.false_or, if_neg (by decide)] at j2; exact j2
        simp only [↓eB, seval, ↓reduceIte, reduceCtorEq, Nat.reduceEqDiff, Nat.reduceLeDiff, go_sem, yp_known, yp_Place, yp_FnA, yg_FnA, yg_lower, yp_Reach, yp_reached, cGr_e, cGr_d, rBy_e, rBy_z, zBy_ln, decL_by, rBl_e, rBl_z, zBl_ln, decL_bl, zID_ln, cSl, zND_ln, zIn_ln, cFn_e, cFn_d, Fn.c, fn_eta, cBy_e, cBy_d', gB, Gq.r, Nd.g, ↓oD_stor, ↓oD_names, ↓oD_noVw, ↓oD_flat, ↓oD_mv, ↓oD_ldc, b1, b2, b3, e2, q3, q0, q3', q0', s1, s2]
        repeat' (first | exact chk_ok (by kernel_rfl) | with_reducible apply And.intro)
        all_goals try first | exact i1 | exact natI_le _ | exact storL1 (by simp only [go_sem]) | rfl | omega | decide
        refine loop_ok (Y := Nat) (fun j => j ≤ nd.nx.length)
          (fun j => ⟨[(6, true, .one (.p 6 0 0)), (7, true, .one (.v (.int .i64 (n : Int)))), (8, true, .one (.s 1001)), (9, true, .one (.v (.int .i64 (i : Int)))), (10, true, .one (.p 10 0 0)), (11, true, .one (.v (.int .i64 (j : Int))))], [(6, .vec 0 [.v (.bool false)] [[.d (.sl zND (G.map Gq.r))]]), (1001, .vec 0 zIn (acc.map inC)), (10, .vec 0 fl13 [rowN nd])]⟩)
          (fun j => nd.nx.length - j) 0 (Nat.zero_le _) ?_ ?_
        · refine to_trans (t := ⟨[(6, true, .one (.p 6 0 0)), (7, true, .one (.v (.int .i64 (n : Int)))), (8, true, .one (.s 1000)), (9, true, .one (.v (.int .i64 (i : Int)))), (10, true, .one (.p 10 0 0)), (11, true, .one (.v (.int .i64 (0 : Int))))], [(6, .vec 0 [.v (.bool false)] [[.d (.sl zND (G.map Gq.r))]]), (1000, .vec 0 zIn (acc.map inC)), (10, .vec 0 fl13 [rowN nd])]⟩) (to_with [] ?_) (to_with [.mv 1000 1001] ?_)
          · simp only [↓eB, seval, ↓reduceIte, reduceCtorEq, Nat.reduceEqDiff, Nat.reduceLeDiff, go_sem, rowsI.fn, ↓oD_stor, ↓oD_names, ↓oD_noVw, ↓oD_flat, ↓oD_mv, ↓oD_ldc, rowN_nm, rowN, fl13, List.map_append, List.flatMap_append, inC]
          · simp only [↓eB, seval, ↓reduceIte, reduceCtorEq, Nat.reduceEqDiff, Nat.reduceLeDiff, go_sem, rowsI.fn, ↓oD_stor, ↓oD_names, ↓oD_noVw, ↓oD_flat, ↓oD_mv, ↓oD_ldc, rowN_nm, rowN, fl13, rowsI.mv]
        · intro j hj
          refine vc_ok [] [] _ _ _ ?_
          cases hy : nd.nx[j]? with
          | none =>
            have f1 := natI_ge (List.getElem?_eq_none_iff.1 hy)
            simp only [↓eB, seval, ↓reduceIte, reduceCtorEq, Nat.reduceEqDiff, Nat.reduceLeDiff, go_sem, yp_known, yp_Place, yp_FnA, yg_FnA, yg_lower, yp_Reach, yp_reached, cGr_e, cGr_d, rBy_e, rBy_z, zBy_ln, decL_by, rBl_e, rBl_z, zBl_ln, decL_bl, zID_ln, cSl, zND_ln, zIn_ln, cFn_e, cFn_d, Fn.c, fn_eta, cBy_e, cBy_d', gB, Gq.r, Nd.g, ↓oD_stor, ↓oD_names, ↓oD_noVw, ↓oD_flat, ↓oD_mv, ↓oD_ldc, f1, b4, rowN, fl13]
            refine ⟨(i + 1, acc), ⟨hil, hacc, by simp only [List.length_append, List.length_cons, List.length_nil] <;> omega⟩, by dsimp only; omega, to_with [.mv 1001 1000] ?_⟩
            simp only [↓eB, seval, ↓reduceIte, reduceCtorEq, Nat.reduceEqDiff, Nat.reduceLeDiff, go_sem, rowsI.fn, ↓oD_stor, ↓oD_names, ↓oD_noVw, ↓oD_flat, ↓oD_mv, ↓oD_ldc, rowsI.mv]
          | some x =>
            have hlj : j < nd.nx.length := (List.getElem?_eq_some_iff.1 hy).1
            have f1 := natI_lt hlj
            have f2 := natI_ltp hlj
            have f3 := in_at hy
            have f4 := natI_succ (n := nd.nx.length) hj (by omega)
            obtain ⟨x0, x1, x2⟩ := hed x (List.mem_of_getElem? hy)
            have m1 : decide (x < 0) = false := by simp; omega
            have m2 : decide ((n : Int) ≤ x) = false := by simp; omega
            have m3 := gq_nd (L := L) (i := x.toNat) (by omega)
            have m4 : x < (G.length : Int) := by rw [hGl]; exact x1
            rw [hG] at m3
            cases m5 : decide (x ≤ (i : Int)) with
            | true =>
              have m6 := x2 (of_decide_eq_true m5)
              simp only [↓eB, seval, ↓reduceIte, reduceCtorEq, Nat.reduceEqDiff, Nat.reduceLeDiff, go_sem, yp_known, yp_Place, yp_FnA, yg_FnA, yg_lower, yp_Reach, yp_reached, cGr_e, cGr_d, rBy_e, rBy_z, zBy_ln, decL_by, rBl_e, rBl_z, zBl_ln, decL_bl, zID_ln, cSl, zND_ln, zIn_ln, cFn_e, cFn_d, Fn.c, fn_eta, cBy_e, cBy_d', gB, Gq.r, Nd.g, ↓oD_stor, ↓oD_names, ↓oD_noVw, ↓oD_flat, ↓oD_mv, ↓oD_ldc, f1, f2, f3, f4, m1, m2, m3, m5, m6, rowN, fl13]
              try simp only [impB, impN]
              repeat' (first | exact chk_ok (by kernel_rfl) | with_reducible apply And.intro | intro _)
              all_goals try first | exact hlj | exact x0 | exact m4 | (rename_i h; exact (Option.some.inj h).symm) | (rename_i r h1 c h2; exact storL1 (by simp only [go_sem]) r h1 c h2) | (rename_i h; exact absurd h (by decide)) | (decide) | omega
              refine ⟨j + 1, hlj, by omega, to_with [] ?_⟩
              simp only [↓eB, seval, ↓reduceIte, reduceCtorEq, Nat.reduceEqDiff, Nat.reduceLeDiff, go_sem, rowsI.fn, ↓oD_stor, ↓oD_names, ↓oD_noVw, ↓oD_flat, ↓oD_mv, ↓oD_ldc, rowN_nm, rowN, fl13]
            | false =>
              simp only [↓eB, seval, ↓reduceIte, reduceCtorEq, Nat.reduceEqDiff, Nat.reduceLeDiff, go_sem, yp_known, yp_Place, yp_FnA, yg_FnA, yg_lower, yp_Reach, yp_reached, cGr_e, cGr_d, rBy_e, rBy_z, zBy_ln, decL_by, rBl_e, rBl_z, zBl_ln, decL_bl, zID_ln, cSl, zND_ln, zIn_ln, cFn_e, cFn_d, Fn.c, fn_eta, cBy_e, cBy_d', gB, Gq.r, Nd.g, ↓oD_stor, ↓oD_names, ↓oD_noVw, ↓oD_flat, ↓oD_mv, ↓oD_ldc, f1, f2, f3, f4, m1, m2, m3, m5, rowN, fl13]
              try simp only [impB, impN]
              repeat' (first | exact chk_ok (by kernel_rfl) | with_reducible apply And.intro | intro _)
              all_goals try first | exact hlj | exact x0 | exact m4 | (rename_i h; exact (Option.some.inj h).symm) | (rename_i r h1 c h2; exact storL1 (by simp only [go_sem]) r h1 c h2) | (rename_i h; exact absurd h (by decide)) | (decide) | omega
              refine ⟨j + 1, hlj, by omega, to_with [] ?_⟩
              simp only [↓eB, seval, ↓reduceIte, reduceCtorEq, Nat.reduceEqDiff, Nat.reduceLeDiff, go_sem, rowsI.fn, ↓oD_stor, ↓oD_names, ↓oD_noVw, ↓oD_flat, ↓oD_mv, ↓oD_ldc, rowN_nm, rowN, fl13]
    · have b1 := natI_ge hil
      rw [List.drop_eq_nil_of_le (by omega)] at j2
      have hacc : acc = rg 0 c := by simpa [atL] using j2
      simp only [↓eB, seval, ↓reduceIte, reduceCtorEq, Nat.reduceEqDiff, Nat.reduceLeDiff, go_sem, yp_known, yp_Place, yp_FnA, yg_FnA, yg_lower, yp_Reach, yp_reached, cGr_e, cGr_d, rBy_e, rBy_z, zBy_ln, decL_by, rBl_e, rBl_z, zBl_ln, decL_bl, zID_ln, cSl, zND_ln, zIn_ln, cFn_e, cFn_d, Fn.c, fn_eta, cBy_e, cBy_d', gB, Gq.r, Nd.g, ↓oD_stor, ↓oD_names, ↓oD_noVw, ↓oD_flat, ↓oD_mv, ↓oD_ldc, b1]
      refine loop_ok (Y := Nat) (fun i => i ≤ acc.length)
        (fun i => ⟨[(8, true, .one (.s 1000)), (13, true, .one (.v (.int .i64 (i : Int))))], [(1000, .vec 0 zIn (acc.map inC))]⟩)
        (fun i => acc.length - i) 0 (Nat.zero_le _) ?_ ?_
      · refine to_with [] ?_; simp only [↓eB, seval, ↓reduceIte, reduceCtorEq, Nat.reduceEqDiff, Nat.reduceLeDiff, go_sem, rowsI.fn, ↓oD_stor, ↓oD_names, ↓oD_noVw, ↓oD_flat, ↓oD_mv, ↓oD_ldc]
      · intro i hi
        refine vc_ok [] [] _ _ _ ?_
        rcases Nat.lt_or_ge i acc.length with hil | hil
        · have b1 := natI_lt hil
          have b2 := natI_ltp hil
          have b3 := rg_gc hacc hil
          have b4 := natI_succ (n := acc.length) hi (by omega)
          have b5 : ((i : Int) != (i : Int)) = false := by simp
          simp only [↓eB, seval, ↓reduceIte, reduceCtorEq, Nat.reduceEqDiff, Nat.reduceLeDiff, go_sem, yp_known, yp_Place, yp_FnA, yg_FnA, yg_lower, yp_Reach, yp_reached, cGr_e, cGr_d, rBy_e, rBy_z, zBy_ln, decL_by, rBl_e, rBl_z, zBl_ln, decL_bl, zID_ln, cSl, zND_ln, zIn_ln, cFn_e, cFn_d, Fn.c, fn_eta, cBy_e, cBy_d', gB, Gq.r, Nd.g, ↓oD_stor, ↓oD_names, ↓oD_noVw, ↓oD_flat, ↓oD_mv, ↓oD_ldc, b1, b2, b3, b4, b5]
          try simp only [impB, impN]
          repeat' (first | exact chk_ok (by kernel_rfl) | with_reducible apply And.intro | intro _)
          all_goals try first | exact hil | (rename_i h; exact (Option.some.inj h).symm) | (rename_i r h1 c h2; exact storL1 (by simp only [go_sem]) r h1 c h2) | (rename_i h; exact absurd h (by decide)) | (decide) | omega
          refine ⟨i + 1, hil, by omega, to_with [] ?_⟩
          simp only [↓eB, seval, ↓reduceIte, reduceCtorEq, Nat.reduceEqDiff, Nat.reduceLeDiff, go_sem, rowsI.fn, ↓oD_stor, ↓oD_names, ↓oD_noVw, ↓oD_flat, ↓oD_mv, ↓oD_ldc]
        · have b1 := natI_ge hil
          simp only [↓eB, seval, ↓reduceIte, reduceCtorEq, Nat.reduceEqDiff, Nat.reduceLeDiff, go_sem, yp_known, yp_Place, yp_FnA, yg_FnA, yg_lower, yp_Reach, yp_reached, cGr_e, cGr_d, rBy_e, rBy_z, zBy_ln, decL_by, rBl_e, rBl_z, zBl_ln, decL_bl, zID_ln, cSl, zND_ln, zIn_ln, cFn_e, cFn_d, Fn.c, fn_eta, cBy_e, cBy_d', gB, Gq.r, Nd.g, ↓oD_stor, ↓oD_names, ↓oD_noVw, ↓oD_flat, ↓oD_mv, ↓oD_ldc, b1]
          try simp only [impB, impN]
          repeat' (first | exact chk_ok (by kernel_rfl) | with_reducible apply And.intro | intro _)
          all_goals first
            | exact hil
            | (rename_i h; exact (Option.some.inj h).symm)
            | (rename_i r h1 c h2; exact storL1 (by simp only [go_sem]) r h1 c h2)
            | (rename_i h; exact absurd h (by decide))
            | (decide)
            | omega
            | (refine ret_with [] ?_; simp only [↓eB, seval, ↓reduceIte, reduceCtorEq, Nat.reduceEqDiff, Nat.reduceLeDiff, go_sem, bne, yr_FlowEnds])
theorem yh_FlowEnds : ∀ p : (Int × (List Int × Unit)), okV ((fun p : (Int × (List Int × Unit)) => yr_FlowEnds p.1 p.2.1) p) = true := by intro p; rfl
noncomputable def yp_FlowEnds {X : Ctx} {w0 : World} : Sy.Spec Try.prog X w0 := specR 4 Try.call4 (ahS ((cInt .i64).H) (ahS (cSl rBy) ah0)) (fun p : (Int × (List Int × Unit)) => yc_FlowEnds p.1 p.2.1) (fun p : (Int × (List Int × Unit)) => yr_FlowEnds p.1 p.2.1) yh_FlowEnds y_FlowEnds
end Go.Proofs.Ytiipmaoonnjlpaa
