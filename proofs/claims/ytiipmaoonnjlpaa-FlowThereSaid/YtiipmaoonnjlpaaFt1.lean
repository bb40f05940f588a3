/- Ways there and ways back are the same ones. No conditions but those in each statement. -/
import Derived.Test.YtiipmaoonnjlpaaFa1
import Derived.Test.YtiipmaoonnjlpaaFt0
set_option linter.unusedVariables false
set_option linter.unusedSimpArgs false
namespace Go.Proofs.Ytiipmaoonnjlpaa
open Go Go.Sy Go.RowKit

def anE (l : List Int) (k : Int) : Bool := l.any fun x => x == k
theorem anE_mem (l : List Int) (k : Int) : anE l k = true ↔ k ∈ l := by simp [anE]
theorem anE_take {l : List Int} {j : Nat} {x : Int} (h : l[j]? = some x) (k : Int) : anE (l.take (j + 1)) k = (anE (l.take j) k || (x == k)) := by rw [take_snoc h]; simp [anE]
def anR (r : List Bool) (b : Bool) (l : List Int) : Bool := b || l.any fun x => r.getD x.toNat false
theorem anR_take {r : List Bool} {b : Bool} {l : List Int} {j : Nat} {x : Int} (h : l[j]? = some x) : anR r b (l.take (j + 1)) = (anR r b (l.take j) || r.getD x.toNat false) := by rw [take_snoc h]; simp [anR, Bool.or_assoc]
theorem hd_none : ∀ (l : List Gq) (i : Nat), (∀ x ∈ l, x.h = false) → hdF i l = []
  | [], i, _ => rfl
  | x :: r, i, h => by simp only [hdF, h x (List.mem_cons_self ..), Bool.false_eq_true, if_false]; exact hd_none r (i + 1) fun y hy => h y (List.mem_cons_of_mem _ hy)
theorem bl_at' {l : List Bool} {i : Nat} (h : i < l.length) (z : List D) : (l.map blD).getD i z = [.v (.bool (l.getD i false))] := by simp [List.getD, h, blD]
theorem pr_at' {l : List (List Int)} {i : Nat} (h : i < l.length) (z : List D) : (l.map prD).getD i z = [prE (l.getD i [])] := by simp [List.getD, h, prD]
/-- what the law asks of a graph -/
structure Thr (l : List (List Int)) (G : List Gq) (P : List (List Int)) (R : List Bool) : Prop where
  gl : G.length = l.length
  pl : P.length = l.length
  rl : R.length = l.length
  to : ∀ (i k : Nat), i < l.length → k < l.length → anE (l.getD i []) (k : Int) = anE (P.getD k []) (i : Int)
  up : ∀ (i k : Nat), i < l.length → k < l.length → anE (l.getD i []) (k : Int) = true → R.getD i false = true → R.getD k false = true
  dn : ∀ (i : Nat), i < l.length → R.getD i false = true → anR R ((i : Int) == 0) (P.getD i []) = true
  el : ∀ (i : Nat), i < l.length → ∀ x ∈ P.getD i [], 0 ≤ x ∧ x < (l.length : Int)
  inc : ∀ (i : Nat), i < l.length → ∀ j, j + 1 < (P.getD i []).length → (P.getD i []).getD j 0 < (P.getD i []).getD (j + 1) 0
  row : ∀ q ∈ P, q.length ≤ 1000000
  hd : hdF 0 G = []
theorem thr_of {l : List (List Int)} {G : List Gq} (hG : G = l.map fun x => gqN x false) (hl : l.length ≤ 20) (hx : ∀ x ∈ l, x.length ≤ 8) : Thr l G (prF G) (rcF G) := by
  have gl : G.length = l.length := by rw [hG]; simp
  have gx : ∀ i, i < l.length → (G.getD i gq0).nx = l.getD i [] := by
    intro i hi
    rw [hG]; simp [List.getD, hi, gqN]
  refine ⟨gl, by rw [prF_len, gl], by rw [rcF_len, gl], ?_, ?_, ?_, ?_, ?_, ?_, ?_⟩
  · intro i k hi hk
    rw [Bool.eq_iff_iff, anE_mem, anE_mem, prF_mem (by rw [gl]; exact hk)]
    constructor
    · intro h; exact ⟨i, by rw [gl]; exact hi, rfl, by rw [gx i hi]; exact h⟩
    · rintro ⟨j, j1, j2, j3⟩
      have : j = i := by omega
      subst this
      rw [gx j hi] at j3; exact j3
  · intro i k hi hk h h'
    rw [anE_mem] at h
    rw [rcF_get (by rw [gl]; exact hi)] at h'
    rw [rcF_get (by rw [gl]; exact hk)]
    exact .step i (k : Int) h' (by rw [gx i hi]; exact h) (by omega) (by omega)
  · intro i hi h
    rw [rcF_get (by rw [gl]; exact hi)] at h
    rcases rc_pred (by rw [gl]; exact hi) h with rfl | ⟨j, j1, j2, j3⟩
    · rfl
    · simp only [anR, Bool.or_eq_true, List.any_eq_true]
      exact .inr ⟨(j : Int), j3, by rw [Int.toNat_natCast]; exact (rcF_get j1).2 j2⟩
  · intro i hi x hx
    obtain ⟨j, j1, j2, _⟩ := (prF_mem (by rw [gl]; exact hi) x).1 hx
    omega
  · intro i hi j hj
    exact prF_inc (by rw [gl]; exact hi) (by omega) hj
  · intro q hq
    have := prF_row (c := 8) (fun x hx' => by
      rw [hG] at hx'
      obtain ⟨y, hy, rfl⟩ := List.mem_map.1 hx'
      exact hx y hy) q hq
    rw [gl] at this
    omega
  · refine hd_none G 0 fun x hx' => ?_
    rw [hG] at hx'
    obtain ⟨y, _, rfl⟩ := List.mem_map.1 hx'
    rfl
abbrev yc_FlowThere (l : List (List Int)) : Prop := l.length ≤ maxLen ∧ ∀ x ∈ l, x.length ≤ maxLen
abbrev yr_FlowThere (l : List (List Int)) : Value := Value.bool true
set_option maxRecDepth 20000 in set_option maxHeartbeats 16000000 in
theorem y_FlowThere : CallsR Try.prog 7 (ahS (cSl rPl) ah0) (fun p : (List (List Int) × Unit) => yc_FlowThere p.1) (fun p : (List (List Int) × Unit) => ofV (yr_FlowThere p.1)) := by
  rintro ⟨l, _u⟩ w fz xs hc hfz hl hx
  refine calls_toRL Try.func7 rfl w fz [yp_known, yp_Preds, yp_Reach, yp_Heads, yp_Ints] [(12, [.fz 1000])] (ahS (cSl rPl) ah0) (fun p : (List (List Int) × Unit) => ofV (yr_FlowThere p.1)) _ xs hfz hl hx (Nat.le_of_ble_eq_true rfl) ?_
  clear hx hl hfz xs
  simp only [Try.f7]
  cases c1 : decide ((20 : Int) < (l.length : Int)) with
  | true =>
    simp only [↓eB, seval, ↓reduceIte, reduceCtorEq, Nat.reduceEqDiff, Nat.reduceLeDiff, go_sem, yp_known, yp_Preds, yp_Reach, yp_Heads, yp_Ints, cGr_e, cGr_d, rPl_e, rPl_z, zPl_ln, decL_pl, rBl_e, rBl_z, zBl_ln, decL_bl, rPp_e, rPp_z, zPp_ln, decL_pr, rIn_e, rIn_z, zID_ln, decL_in, cSl, zND_ln, zNd_ln, ↓oD_stor, ↓oD_names, ↓oD_noVw, ↓oD_flat, ↓oD_mv, ↓oD_ldc, c1]
    try simp only [impB, impN]
    repeat' (first | exact chk_ok (by kernel_rfl) | with_reducible apply And.intro | intro _)
    all_goals first
      | exact trivial
      | (rename_i h; exact (Option.some.inj h).symm)
      | (rename_i r h1 c h2; exact storL1 (by simp only [go_sem]) r h1 c h2)
      | (rename_i h; exact absurd h (by decide))
      | (decide)
      | omega
      | (refine ret_with [] ?_; simp only [↓eB, seval, ↓reduceIte, reduceCtorEq, Nat.reduceEqDiff, Nat.reduceLeDiff, go_sem, bne, yr_FlowThere])
  | false =>
  have hl := of_decide_eq_false c1
  simp only [↓eB, seval, ↓reduceIte, reduceCtorEq, Nat.reduceEqDiff, Nat.reduceLeDiff, go_sem, yp_known, yp_Preds, yp_Reach, yp_Heads, yp_Ints, cGr_e, cGr_d, rPl_e, rPl_z, zPl_ln, decL_pl, rBl_e, rBl_z, zBl_ln, decL_bl, rPp_e, rPp_z, zPp_ln, decL_pr, rIn_e, rIn_z, zID_ln, decL_in, cSl, zND_ln, zNd_ln, ↓oD_stor, ↓oD_names, ↓oD_noVw, ↓oD_flat, ↓oD_mv, ↓oD_ldc, c1]
  refine loop_ok (Y := Nat × List Gq) (fun y => y.1 ≤ l.length ∧ y.2 = (l.map fun x => gqN x false).take y.1 ∧ y.2.length = y.1 ∧ ∀ x ∈ l.take y.1, x.length ≤ 8)
    (fun y => ⟨[(0, true, .one (.d (.sl zPl (l.map plD)))), (3, true, .one (.p 3 0 0)), (4, true, .one (.v (.int .i64 (y.1 : Int))))], [(3, .vec 0 [.v (.bool false)] [[.s 1000]]), (1000, .vec 0 zNd (y.2.map gC))]⟩)
    (fun y => l.length - y.1) (0, []) ⟨Nat.zero_le _, rfl, rfl, fun x hx => by cases hx⟩ ?_ ?_
  · refine to_with [.nilr 3 0 0 1000 zNd] ?_; simp only [↓eB, seval, ↓reduceIte, reduceCtorEq, Nat.reduceEqDiff, Nat.reduceLeDiff, go_sem, zPl]
  · rintro ⟨i, G⟩ ⟨j1, j2, j3, j4⟩
    refine vc_ok [yp_known, yp_Preds, yp_Reach, yp_Heads, yp_Ints] [] _ _ _ ?_
    dsimp only at j1 j2 j3 j4
    cases hx : l[i]? with
    | some x =>
      have hlt : i < l.length := (List.getElem?_eq_some_iff.1 hx).1
      have h1 := natI_lt hlt
      have h2 := natI_ltp hlt
      have h3 := pl_at hx
      have h4 := natI_succ (n := l.length) j1 (by omega)
      cases hc : decide ((8 : Int) < (x.length : Int)) with
      | true =>
        simp only [↓eB, seval, ↓reduceIte, reduceCtorEq, Nat.reduceEqDiff, Nat.reduceLeDiff, go_sem, yp_known, yp_Preds, yp_Reach, yp_Heads, yp_Ints, cGr_e, cGr_d, rPl_e, rPl_z, zPl_ln, decL_pl, rBl_e, rBl_z, zBl_ln, decL_bl, rPp_e, rPp_z, zPp_ln, decL_pr, rIn_e, rIn_z, zID_ln, decL_in, cSl, zND_ln, zNd_ln, ↓oD_stor, ↓oD_names, ↓oD_noVw, ↓oD_flat, ↓oD_mv, ↓oD_ldc, h1, h2, h3, hc]
        try simp only [impB, impN]
        repeat' (first | exact chk_ok (by kernel_rfl) | with_reducible apply And.intro | intro _)
        all_goals first
          | exact hlt
          | (rename_i h; exact (Option.some.inj h).symm)
          | (rename_i r h1 c h2; exact storL1 (by simp only [go_sem]) r h1 c h2)
          | (rename_i h; exact absurd h (by decide))
          | (decide)
          | omega
          | (refine ret_with [] ?_; simp only [↓eB, seval, ↓reduceIte, reduceCtorEq, Nat.reduceEqDiff, Nat.reduceLeDiff, go_sem, bne, yr_FlowThere])
      | false =>
        have hcx := of_decide_eq_false hc
        have hsn : G ++ [gqN x false] = (l.map fun x => gqN x false).take (i + 1) := by rw [take_snoc (by simp [hx] : (l.map fun x => gqN x false)[i]? = some (gqN x false)), j2]
        simp only [↓eB, seval, ↓reduceIte, reduceCtorEq, Nat.reduceEqDiff, Nat.reduceLeDiff, go_sem, yp_known, yp_Preds, yp_Reach, yp_Heads, yp_Ints, cGr_e, cGr_d, rPl_e, rPl_z, zPl_ln, decL_pl, rBl_e, rBl_z, zBl_ln, decL_bl, rPp_e, rPp_z, zPp_ln, decL_pr, rIn_e, rIn_z, zID_ln, decL_in, cSl, zND_ln, zNd_ln, ↓oD_stor, ↓oD_names, ↓oD_noVw, ↓oD_flat, ↓oD_mv, ↓oD_ldc, h1, h2, h3, h4, hc]
        try simp only [impB, impN]
        repeat' (first | exact chk_ok (by kernel_rfl) | with_reducible apply And.intro | intro _)
        all_goals try first | exact hlt | (rename_i h; exact (Option.some.inj h).symm) | (rename_i r h1 c h2; exact storL1 (by simp only [go_sem]) r h1 c h2) | (rename_i h; exact absurd h (by decide)) | (decide) | omega
        refine ⟨(i + 1, G ++ [gqN x false]), ⟨hlt, hsn, by simp [j3], fun y hy => ?_⟩, by dsimp only; omega,
          to_trans (t := ⟨[(0, true, .one (.d (.sl zPl (l.map plD)))), (3, true, .one (.p 3 0 0)), (4, true, .one (.v (.int .i64 ((i + 1 : Nat) : Int))))], [(3, .vec 0 [.v (.bool false)] [[.s 40]]), (40, .vec 0 zNd ((G ++ [gqN x false]).map gC))]⟩) (to_with [] ?_) (to_with [.mv 40 1000] ?_)⟩
        · rw [take_snoc hx] at hy
          rcases List.mem_append.1 hy with h | h
          · exact j4 y h
          · rw [List.mem_singleton.1 h]; omega
        · simp only [↓eB, seval, ↓reduceIte, reduceCtorEq, Nat.reduceEqDiff, Nat.reduceLeDiff, go_sem, rowsG.fn, zPl, ↓oD_stor, ↓oD_names, ↓oD_noVw, ↓oD_flat, ↓oD_mv, ↓oD_ldc, gC_N, List.map_append, List.flatMap_append]
        · simp only [↓eB, seval, ↓reduceIte, reduceCtorEq, Nat.reduceEqDiff, Nat.reduceLeDiff, go_sem, rowsG.fn, zPl, ↓oD_stor, ↓oD_names, ↓oD_noVw, ↓oD_flat, ↓oD_mv, ↓oD_ldc, rowsG.mv]
    | none =>
      have hi2 : l.length ≤ i := List.getElem?_eq_none_iff.1 hx
      have h1 := natI_ge hi2
      have hG : G = l.map fun x => gqN x false := by rw [j2]; exact List.take_of_length_le (by simpa using hi2)
      rw [List.take_of_length_le hi2] at j4
      have hT := thr_of hG (by omega) j4
      have k7 : okG G := ⟨by rw [hT.gl]; omega, fun x hx => by
        rw [hG] at hx
        obtain ⟨y, hy, rfl⟩ := List.mem_map.1 hx
        have := j4 y hy
        show y.length ≤ 1000000; omega⟩
      have k8 : G.length ≤ 1000000 := k7.1
      have z1 : toDs zNd = some zND := rfl
      clear j2 j3 h1 hi2 j1 hG
      obtain ⟨P, hP⟩ : ∃ P, prF G = P := ⟨_, rfl⟩
      obtain ⟨R, hR⟩ : ∃ R, rcF G = R := ⟨_, rfl⟩
      rw [hP, hR] at hT
      have e1 : ((P.length : Int) != (l.length : Int)) = false := by rw [hT.pl]; simp
      have e2 : ((R.length : Int) != (l.length : Int)) = false := by rw [hT.rl]; simp
      have e3 : decide ((i : Int) < (l.length : Int)) = false := natI_ge (List.getElem?_eq_none_iff.1 hx)
      simp only [↓eB, seval, ↓reduceIte, reduceCtorEq, Nat.reduceEqDiff, Nat.reduceLeDiff, go_sem, yp_known, yp_Preds, yp_Reach, yp_Heads, yp_Ints, cGr_e, cGr_d, rPl_e, rPl_z, zPl_ln, decL_pl, rBl_e, rBl_z, zBl_ln, decL_bl, rPp_e, rPp_z, zPp_ln, decL_pr, rIn_e, rIn_z, zID_ln, decL_in, cSl, zND_ln, zNd_ln, ↓oD_stor, ↓oD_names, ↓oD_noVw, ↓oD_flat, ↓oD_mv, ↓oD_ldc, e3, z1, rowsG.ds, rowsG.fz, rowsG.fn, yr_Preds, yr_Reach, prB, trB, hP, hR, e1, e2]
      repeat' (first | exact chk_ok (by kernel_rfl) | with_reducible apply And.intro)
      all_goals try first | exact k7 | exact k8
      clear hx e1 e2 e3 hP hR
      refine loop_ok (Y := Nat) (fun i => i ≤ l.length)
        (fun i => ⟨[(0, true, .one (.d (.sl zPl (l.map plD)))), (3, true, .one (.p 3 0 0)), (5, true, .one (.d (.sl zPp (P.map prD)))), (6, true, .one (.d (.sl zBl (R.map blD)))), (7, true, .one (.v (.int .i64 (i : Int))))], [(3, .vec 0 [.v (.bool false)] [[.d (.sl zND (G.map Gq.r))]])]⟩)
        (fun i => l.length - i) 0 (Nat.zero_le _) ?_ ?_
      · refine to_with [] ?_; simp only [↓eB, seval, ↓reduceIte, reduceCtorEq, Nat.reduceEqDiff, Nat.reduceLeDiff, go_sem, rowsG.fn, zPl, ↓oD_stor, ↓oD_names, ↓oD_noVw, ↓oD_flat, ↓oD_mv, ↓oD_ldc, rowsG.mv]
      · intro i hi
        refine vc_ok [yp_known, yp_Preds, yp_Reach, yp_Heads, yp_Ints] [] _ _ _ ?_
        rcases Nat.lt_or_ge i l.length with hil | hil
        · have b1 := natI_lt hil
          have b2 := natI_ltp hil
          have b4 := natI_succ (n := l.length) hi (by omega)
          have b3 := pl_at (List.getElem?_eq_getElem hil)
          have hnx : l.getD i [] = l[i] := by simp [List.getD, hil]
          have hto := hT.to i
          have hup := hT.up i
          rw [hnx] at hto hup
          have hnl : l[i].length ≤ 8 := j4 _ (List.getElem_mem hil)
          generalize l[i] = nx at b3 hto hup hnl
          have rI := bl_at' (l := R) (i := i) (by rw [hT.rl]; exact hil)
          have pI := pr_at' (l := P) (i := i) (by rw [hT.pl]; exact hil)
          have g1 : (i : Int) < (R.length : Int) := by rw [hT.rl]; omega
          have g2 : (i : Int) < (P.length : Int) := by rw [hT.pl]; omega
          simp only [↓eB, seval, ↓reduceIte, reduceCtorEq, Nat.reduceEqDiff, Nat.reduceLeDiff, go_sem, yp_known, yp_Preds, yp_Reach, yp_Heads, yp_Ints, cGr_e, cGr_d, rPl_e, rPl_z, zPl_ln, decL_pl, rBl_e, rBl_z, zBl_ln, decL_bl, rPp_e, rPp_z, zPp_ln, decL_pr, rIn_e, rIn_z, zID_ln, decL_in, cSl, zND_ln, zNd_ln, ↓oD_stor, ↓oD_names, ↓oD_noVw, ↓oD_flat, ↓oD_mv, ↓oD_ldc, b1, b2]
          refine loop_ok (Y := Nat) (fun k => k ≤ l.length)
            (fun k => ⟨[(0, true, .one (.d (.sl zPl (l.map plD)))), (3, true, .one (.p 3 0 0)), (5, true, .one (.d (.sl zPp (P.map prD)))), (6, true, .one (.d (.sl zBl (R.map blD)))), (7, true, .one (.v (.int .i64 (i : Int)))), (8, true, .one (.v (.int .i64 (k : Int))))], [(3, .vec 0 [.v (.bool false)] [[.d (.sl zND (G.map Gq.r))]])]⟩)
            (fun k => l.length - k) 0 (Nat.zero_le _) ?_ ?_
          · refine to_with [] ?_; simp only [↓eB, seval, ↓reduceIte, reduceCtorEq, Nat.reduceEqDiff, Nat.reduceLeDiff, go_sem, rowsG.fn, zPl, ↓oD_stor, ↓oD_names, ↓oD_noVw, ↓oD_flat, ↓oD_mv, ↓oD_ldc]
          · intro k hk
            refine vc_ok [yp_known, yp_Preds, yp_Reach, yp_Heads, yp_Ints] [] _ _ _ ?_
            rcases Nat.lt_or_ge k l.length with hkl | hkl
            · have d1 := natI_lt hkl
              have d2 := natI_ltp hkl
              have d4 := natI_succ (n := l.length) hk (by omega)
              have hto := hto k hil hkl
              have hup := hup k hil hkl
              have rK := bl_at' (l := R) (i := k) (by rw [hT.rl]; exact hkl)
              have pK := pr_at' (l := P) (i := k) (by rw [hT.pl]; exact hkl)
              have g3 : (k : Int) < (R.length : Int) := by rw [hT.rl]; omega
              have g4 : (k : Int) < (P.length : Int) := by rw [hT.pl]; omega
              have hql : (P.getD k []).length ≤ 1000000 := hT.row _ (by
                have h : k < P.length := by rw [hT.pl]; exact hkl
                simp [List.getD, h])
              generalize P.getD k [] = q at hto pK hql
              simp only [↓eB, seval, ↓reduceIte, reduceCtorEq, Nat.reduceEqDiff, Nat.reduceLeDiff, go_sem, yp_known, yp_Preds, yp_Reach, yp_Heads, yp_Ints, cGr_e, cGr_d, rPl_e, rPl_z, zPl_ln, decL_pl, rBl_e, rBl_z, zBl_ln, decL_bl, rPp_e, rPp_z, zPp_ln, decL_pr, rIn_e, rIn_z, zID_ln, decL_in, cSl, zND_ln, zNd_ln, ↓oD_stor, ↓oD_names, ↓oD_noVw, ↓oD_flat, ↓oD_mv, ↓oD_ldc, d1, d2]
              refine loop_ok (Y := Nat × Bool) (fun y => y.1 ≤ nx.length ∧ y.2 = anE (nx.take y.1) (k : Int))
                (fun y => ⟨[(0, true, .one (.d (.sl zPl (l.map plD)))), (3, true, .one (.p 3 0 0)), (5, true, .one (.d (.sl zPp (P.map prD)))), (6, true, .one (.d (.sl zBl (R.map blD)))), (7, true, .one (.v (.int .i64 (i : Int)))), (8, true, .one (.v (.int .i64 (k : Int)))), (9, true, .one (.v (.bool y.2))), (10, true, .one (.v (.bool false))), (11, true, .one (.v (.int .i64 (y.1 : Int))))], [(3, .vec 0 [.v (.bool false)] [[.d (.sl zND (G.map Gq.r))]])]⟩)
                (fun y => nx.length - y.1) (0, false) ⟨Nat.zero_le _, rfl⟩ ?_ ?_
              · refine to_with [] ?_; simp only [↓eB, seval, ↓reduceIte, reduceCtorEq, Nat.reduceEqDiff, Nat.reduceLeDiff, go_sem, rowsG.fn, zPl, ↓oD_stor, ↓oD_names, ↓oD_noVw, ↓oD_flat, ↓oD_mv, ↓oD_ldc]
              · rintro ⟨j, to⟩ ⟨m1, m2⟩
                refine vc_ok [yp_known, yp_Preds, yp_Reach, yp_Heads, yp_Ints] [] _ _ _ ?_
                dsimp only at m1 m2
                cases hy : nx[j]? with
                | some x =>
                  have hlj : j < nx.length := (List.getElem?_eq_some_iff.1 hy).1
                  have f1 := natI_lt hlj
                  have f2 := natI_ltp hlj
                  have f3 := in_at hy
                  have f4 := natI_succ (n := nx.length) m1 (by omega)
                  have f5 := anE_take hy (k : Int)
                  rw [← m2] at f5
                  cases to with
                  | true =>
                    simp only [↓eB, seval, ↓reduceIte, reduceCtorEq, Nat.reduceEqDiff, Nat.reduceLeDiff, go_sem, yp_known, yp_Preds, yp_Reach, yp_Heads, yp_Ints, cGr_e, cGr_d, rPl_e, rPl_z, zPl_ln, decL_pl, rBl_e, rBl_z, zBl_ln, decL_bl, rPp_e, rPp_z, zPp_ln, decL_pr, rIn_e, rIn_z, zID_ln, decL_in, cSl, zND_ln, zNd_ln, ↓oD_stor, ↓oD_names, ↓oD_noVw, ↓oD_flat, ↓oD_mv, ↓oD_ldc, b1, b2, b3, f1, f2, f3, f4]
                    try simp only [impB, impN]
                    repeat' (first | exact chk_ok (by kernel_rfl) | with_reducible apply And.intro | intro _)
                    all_goals try first | exact hlj | exact hil | (rename_i h; exact (Option.some.inj h).symm) | (rename_i r h1 c h2; exact storL1 (by simp only [go_sem]) r h1 c h2) | (rename_i h; exact absurd h (by decide)) | (decide) | omega
                    refine ⟨(j + 1, true), ⟨hlj, by rw [f5]; rfl⟩, by dsimp only; omega, to_with [] ?_⟩
                    simp only [↓eB, seval, ↓reduceIte, reduceCtorEq, Nat.reduceEqDiff, Nat.reduceLeDiff, go_sem, rowsG.fn, zPl, ↓oD_stor, ↓oD_names, ↓oD_noVw, ↓oD_flat, ↓oD_mv, ↓oD_ldc]
                  | false =>
                    simp only [↓eB, seval, ↓reduceIte, reduceCtorEq, Nat.reduceEqDiff, Nat.reduceLeDiff, go_sem, yp_known, yp_Preds, yp_Reach, yp_Heads, yp_Ints, cGr_e, cGr_d, rPl_e, rPl_z, zPl_ln, decL_pl, rBl_e, rBl_z, zBl_ln, decL_bl, rPp_e, rPp_z, zPp_ln, decL_pr, rIn_e, rIn_z, zID_ln, decL_in, cSl, zND_ln, zNd_ln, ↓oD_stor, ↓oD_names, ↓oD_noVw, ↓oD_flat, ↓oD_mv, ↓oD_ldc, b1, b2, b3, f1, f2, f3, f4]
                    try simp only [impB, impN]
                    repeat' (first | exact chk_ok (by kernel_rfl) | with_reducible apply And.intro | intro _)
                    all_goals try first | exact hlj | exact hil | (rename_i h; exact (Option.some.inj h).symm) | (rename_i r h1 c h2; exact storL1 (by simp only [go_sem]) r h1 c h2) | (rename_i h; exact absurd h (by decide)) | (decide) | omega
                    refine ⟨(j + 1, x == (k : Int)), ⟨hlj, by rw [f5]; rfl⟩, by dsimp only; omega, to_with [] ?_⟩
                    simp only [↓eB, seval, ↓reduceIte, reduceCtorEq, Nat.reduceEqDiff, Nat.reduceLeDiff, go_sem, rowsG.fn, zPl, ↓oD_stor, ↓oD_names, ↓oD_noVw, ↓oD_flat, ↓oD_mv, ↓oD_ldc]
                | none =>
                  have hi2 : nx.length ≤ j := List.getElem?_eq_none_iff.1 hy
                  have f1 := natI_ge hi2
                  rw [List.take_of_length_le hi2] at m2
                  rw [← m2] at hto hup
                  simp only [↓eB, seval, ↓reduceIte, reduceCtorEq, Nat.reduceEqDiff, Nat.reduceLeDiff, go_sem, yp_known, yp_Preds, yp_Reach, yp_Heads, yp_Ints, cGr_e, cGr_d, rPl_e, rPl_z, zPl_ln, decL_pl, rBl_e, rBl_z, zBl_ln, decL_bl, rPp_e, rPp_z, zPp_ln, decL_pr, rIn_e, rIn_z, zID_ln, decL_in, cSl, zND_ln, zNd_ln, ↓oD_stor, ↓oD_names, ↓oD_noVw, ↓oD_flat, ↓oD_mv, ↓oD_ldc, b1, b2, b3, f1]
                  repeat' (first | exact chk_ok (by kernel_rfl) | with_reducible apply And.intro)
                  all_goals try first | exact hil | exact b2 | exact natI_le _ | decide | omega
                  refine loop_ok (Y := Nat × Bool) (fun y => y.1 ≤ q.length ∧ y.2 = anE (q.take y.1) (i : Int))
                    (fun y => ⟨[(0, true, .one (.d (.sl zPl (l.map plD)))), (3, true, .one (.p 3 0 0)), (5, true, .one (.d (.sl zPp (P.map prD)))), (6, true, .one (.d (.sl zBl (R.map blD)))), (7, true, .one (.v (.int .i64 (i : Int)))), (8, true, .one (.v (.int .i64 (k : Int)))), (9, true, .one (.v (.bool to))), (10, true, .one (.v (.bool y.2))), (12, true, .one (.v (.int .i64 (y.1 : Int))))], [(3, .vec 0 [.v (.bool false)] [[.d (.sl zND (G.map Gq.r))]])]⟩)
                    (fun y => q.length - y.1) (0, false) ⟨Nat.zero_le _, rfl⟩ ?_ ?_
                  · refine to_with [] ?_; simp only [↓eB, seval, ↓reduceIte, reduceCtorEq, Nat.reduceEqDiff, Nat.reduceLeDiff, go_sem, rowsG.fn, zPl, ↓oD_stor, ↓oD_names, ↓oD_noVw, ↓oD_flat, ↓oD_mv, ↓oD_ldc]
                  · rintro ⟨j, fr⟩ ⟨m1, m2⟩
                    refine vc_ok [yp_known, yp_Preds, yp_Reach, yp_Heads, yp_Ints] [] _ _ _ ?_
                    dsimp only at m1 m2
                    rcases prE_or q with ⟨ex, hq0⟩ | ex
                    · subst hq0
                      have hj0 : j = 0 := by simpa using m1
                      subst hj0
                      have hfr : fr = false := m2
                      subst hfr
                      have hto' : to = false := hto
                      subst hto'
                      cases hRi : R.getD i false with
                      | false =>
                        rw [hRi] at rI
                        simp only [↓eB, seval, ↓reduceIte, reduceCtorEq, Nat.reduceEqDiff, Nat.reduceLeDiff, go_sem, yp_known, yp_Preds, yp_Reach, yp_Heads, yp_Ints, cGr_e, cGr_d, rPl_e, rPl_z, zPl_ln, decL_pl, rBl_e, rBl_z, zBl_ln, decL_bl, rPp_e, rPp_z, zPp_ln, decL_pr, rIn_e, rIn_z, zID_ln, decL_in, cSl, zND_ln, zNd_ln, ↓oD_stor, ↓oD_names, ↓oD_noVw, ↓oD_flat, ↓oD_mv, ↓oD_ldc, b1, b2, d1, d2, d4, pK, ex, rI, rK]
                        try simp only [impB, impN]
                        repeat' (first | exact chk_ok (by kernel_rfl) | with_reducible apply And.intro | intro _)
                        all_goals try first | exact hil | exact hkl | exact g1 | exact g2 | exact g3 | exact g4 | (rename_i h; exact (Option.some.inj h).symm) | (rename_i r h1 c h2; exact storL1 (by simp only [go_sem]) r h1 c h2) | (rename_i h; exact absurd h (by decide)) | (decide) | omega
                        refine ⟨k + 1, hkl, by omega, to_with [] ?_⟩
                        simp only [↓eB, seval, ↓reduceIte, reduceCtorEq, Nat.reduceEqDiff, Nat.reduceLeDiff, go_sem, rowsG.fn, zPl, ↓oD_stor, ↓oD_names, ↓oD_noVw, ↓oD_flat, ↓oD_mv, ↓oD_ldc]
                      | true =>
                        rw [hRi] at rI
                        simp only [↓eB, seval, ↓reduceIte, reduceCtorEq, Nat.reduceEqDiff, Nat.reduceLeDiff, go_sem, yp_known, yp_Preds, yp_Reach, yp_Heads, yp_Ints, cGr_e, cGr_d, rPl_e, rPl_z, zPl_ln, decL_pl, rBl_e, rBl_z, zBl_ln, decL_bl, rPp_e, rPp_z, zPp_ln, decL_pr, rIn_e, rIn_z, zID_ln, decL_in, cSl, zND_ln, zNd_ln, ↓oD_stor, ↓oD_names, ↓oD_noVw, ↓oD_flat, ↓oD_mv, ↓oD_ldc, b1, b2, d1, d2, d4, pK, ex, rI, rK]
                        try simp only [impB, impN]
                        repeat' (first | exact chk_ok (by kernel_rfl) | with_reducible apply And.intro | intro _)
                        all_goals try first | exact hil | exact hkl | exact g1 | exact g2 | exact g3 | exact g4 | (rename_i h; exact (Option.some.inj h).symm) | (rename_i r h1 c h2; exact storL1 (by simp only [go_sem]) r h1 c h2) | (rename_i h; exact absurd h (by decide)) | (decide) | omega
                        refine ⟨k + 1, hkl, by omega, to_with [] ?_⟩
                        simp only [↓eB, seval, ↓reduceIte, reduceCtorEq, Nat.reduceEqDiff, Nat.reduceLeDiff, go_sem, rowsG.fn, zPl, ↓oD_stor, ↓oD_names, ↓oD_noVw, ↓oD_flat, ↓oD_mv, ↓oD_ldc]
                    · cases hy : q[j]? with
                      | some x =>
                        have hlj : j < q.length := (List.getElem?_eq_some_iff.1 hy).1
                        have f1 := natI_lt hlj
                        have f2 := natI_ltp hlj
                        have f3 := in_at hy
                        have f4 := natI_succ (n := q.length) m1 (by omega)
                        have f5 := anE_take hy (i : Int)
                        rw [← m2] at f5
                        cases fr with
                        | true =>
                          simp only [↓eB, seval, ↓reduceIte, reduceCtorEq, Nat.reduceEqDiff, Nat.reduceLeDiff, go_sem, yp_known, yp_Preds, yp_Reach, yp_Heads, yp_Ints, cGr_e, cGr_d, rPl_e, rPl_z, zPl_ln, decL_pl, rBl_e, rBl_z, zBl_ln, decL_bl, rPp_e, rPp_z, zPp_ln, decL_pr, rIn_e, rIn_z, zID_ln, decL_in, cSl, zND_ln, zNd_ln, ↓oD_stor, ↓oD_names, ↓oD_noVw, ↓oD_flat, ↓oD_mv, ↓oD_ldc, b1, b2, d1, d2, d4, pK, ex, f1, f2, f3, f4]
                          try simp only [impB, impN]
                          repeat' (first | exact chk_ok (by kernel_rfl) | with_reducible apply And.intro | intro _)
                          all_goals try first | exact hlj | exact hkl | exact g4 | (rename_i h; exact (Option.some.inj h).symm) | (rename_i r h1 c h2; exact storL1 (by simp only [go_sem]) r h1 c h2) | (rename_i h; exact absurd h (by decide)) | (decide) | omega
                          refine ⟨(j + 1, true), ⟨hlj, by rw [f5]; rfl⟩, by dsimp only; omega, to_with [] ?_⟩
                          simp only [↓eB, seval, ↓reduceIte, reduceCtorEq, Nat.reduceEqDiff, Nat.reduceLeDiff, go_sem, rowsG.fn, zPl, ↓oD_stor, ↓oD_names, ↓oD_noVw, ↓oD_flat, ↓oD_mv, ↓oD_ldc]
                        | false =>
                          simp only [↓eB, seval, ↓reduceIte, reduceCtorEq, Nat.reduceEqDiff, Nat.reduceLeDiff, go_sem, yp_known, yp_Preds, yp_Reach, yp_Heads, yp_Ints, cGr_e, cGr_d, rPl_e, rPl_z, zPl_ln, decL_pl, rBl_e, rBl_z, zBl_ln, decL_bl, rPp_e, rPp_z, zPp_ln, decL_pr, rIn_e, rIn_z, zID_ln, decL_in, cSl, zND_ln, zNd_ln, ↓oD_stor, ↓oD_names, ↓oD_noVw, ↓oD_flat, ↓oD_mv, ↓oD_ldc, b1, b2, d1, d2, d4, pK, ex, f1, f2, f3, f4]
                          try simp only [impB, impN]
                          repeat' (first | exact chk_ok (by kernel_rfl) | with_reducible apply And.intro | intro _)
                          all_goals try first | exact hlj | exact hkl | exact g4 | (rename_i h; exact (Option.some.inj h).symm) | (rename_i r h1 c h2; exact storL1 (by simp only [go_sem]) r h1 c h2) | (rename_i h; exact absurd h (by decide)) | (decide) | omega
                          refine ⟨(j + 1, x == (i : Int)), ⟨hlj, by rw [f5]; rfl⟩, by dsimp only; omega, to_with [] ?_⟩
                          simp only [↓eB, seval, ↓reduceIte, reduceCtorEq, Nat.reduceEqDiff, Nat.reduceLeDiff, go_sem, rowsG.fn, zPl, ↓oD_stor, ↓oD_names, ↓oD_noVw, ↓oD_flat, ↓oD_mv, ↓oD_ldc]
                      | none =>
                        have hi2 : q.length ≤ j := List.getElem?_eq_none_iff.1 hy
                        have f1 := natI_ge hi2
                        rw [List.take_of_length_le hi2] at m2
                        have hfr : fr = to := by rw [m2]; exact hto.symm
                        subst hfr
                        cases hF : fr with
                        | false =>
                          simp only [↓eB, seval, ↓reduceIte, reduceCtorEq, Nat.reduceEqDiff, Nat.reduceLeDiff, go_sem, yp_known, yp_Preds, yp_Reach, yp_Heads, yp_Ints, cGr_e, cGr_d, rPl_e, rPl_z, zPl_ln, decL_pl, rBl_e, rBl_z, zBl_ln, decL_bl, rPp_e, rPp_z, zPp_ln, decL_pr, rIn_e, rIn_z, zID_ln, decL_in, cSl, zND_ln, zNd_ln, ↓oD_stor, ↓oD_names, ↓oD_noVw, ↓oD_flat, ↓oD_mv, ↓oD_ldc, b1, b2, d1, d2, d4, pK, ex, f1, rI, rK]
                          try simp only [impB, impN]
                          repeat' (first | exact chk_ok (by kernel_rfl) | with_reducible apply And.intro | intro _)
                          all_goals try first | exact hil | exact hkl | exact g1 | exact g2 | exact g3 | exact g4 | (rename_i h; exact (Option.some.inj h).symm) | (rename_i r h1 c h2; exact storL1 (by simp only [go_sem]) r h1 c h2) | (rename_i h; exact absurd h (by decide)) | (decide) | omega
                          refine ⟨k + 1, hkl, by omega, to_with [] ?_⟩
                          simp only [↓eB, seval, ↓reduceIte, reduceCtorEq, Nat.reduceEqDiff, Nat.reduceLeDiff, go_sem, rowsG.fn, zPl, ↓oD_stor, ↓oD_names, ↓oD_noVw, ↓oD_flat, ↓oD_mv, ↓oD_ldc]
                        | true =>
                          cases hRi : R.getD i false with
                          | false =>
                            rw [hRi] at rI
                            simp only [↓eB, seval, ↓reduceIte, reduceCtorEq, Nat.reduceEqDiff, Nat.reduceLeDiff, go_sem, yp_known, yp_Preds, yp_Reach, yp_Heads, yp_Ints, cGr_e, cGr_d, rPl_e, rPl_z, zPl_ln, decL_pl, rBl_e, rBl_z, zBl_ln, decL_bl, rPp_e, rPp_z, zPp_ln, decL_pr, rIn_e, rIn_z, zID_ln, decL_in, cSl, zND_ln, zNd_ln, ↓oD_stor, ↓oD_names, ↓oD_noVw, ↓oD_flat, ↓oD_mv, ↓oD_ldc, b1, b2, d1, d2, d4, pK, ex, f1, rI, rK]
                            try simp only [impB, impN]
                            repeat' (first | exact chk_ok (by kernel_rfl) | with_reducible apply And.intro | intro _)
                            all_goals try first | exact hil | exact hkl | exact g1 | exact g2 | exact g3 | exact g4 | (rename_i h; exact (Option.some.inj h).symm) | (rename_i r h1 c h2; exact storL1 (by simp only [go_sem]) r h1 c h2) | (rename_i h; exact absurd h (by decide)) | (decide) | omega
                            refine ⟨k + 1, hkl, by omega, to_with [] ?_⟩
                            simp only [↓eB, seval, ↓reduceIte, reduceCtorEq, Nat.reduceEqDiff, Nat.reduceLeDiff, go_sem, rowsG.fn, zPl, ↓oD_stor, ↓oD_names, ↓oD_noVw, ↓oD_flat, ↓oD_mv, ↓oD_ldc]
                          | true =>
                            have hRk := hup hF hRi
                            rw [hRi] at rI
                            rw [hRk] at rK
                            simp only [↓eB, seval, ↓reduceIte, reduceCtorEq, Nat.reduceEqDiff, Nat.reduceLeDiff, go_sem, yp_known, yp_Preds, yp_Reach, yp_Heads, yp_Ints, cGr_e, cGr_d, rPl_e, rPl_z, zPl_ln, decL_pl, rBl_e, rBl_z, zBl_ln, decL_bl, rPp_e, rPp_z, zPp_ln, decL_pr, rIn_e, rIn_z, zID_ln, decL_in, cSl, zND_ln, zNd_ln, ↓oD_stor, ↓oD_names, ↓oD_noVw, ↓oD_flat, ↓oD_mv, ↓oD_ldc, b1, b2, d1, d2, d4, pK, ex, f1, rI, rK]
                            try simp only [impB, impN]
                            repeat' (first | exact chk_ok (by kernel_rfl) | with_reducible apply And.intro | intro _)
                            all_goals try first | exact hil | exact hkl | exact g1 | exact g2 | exact g3 | exact g4 | (rename_i h; exact (Option.some.inj h).symm) | (rename_i r h1 c h2; exact storL1 (by simp only [go_sem]) r h1 c h2) | (rename_i h; exact absurd h (by decide)) | (decide) | omega
                            refine ⟨k + 1, hkl, by omega, to_with [] ?_⟩
                            simp only [↓eB, seval, ↓reduceIte, reduceCtorEq, Nat.reduceEqDiff, Nat.reduceLeDiff, go_sem, rowsG.fn, zPl, ↓oD_stor, ↓oD_names, ↓oD_noVw, ↓oD_flat, ↓oD_mv, ↓oD_ldc]
            · have d1 := natI_ge hkl
              have hdn := hT.dn i hil
              have hel := hT.el i hil
              have hinc := hT.inc i hil
              have hql : (P.getD i []).length ≤ 1000000 := hT.row _ (by
                have h : i < P.length := by rw [hT.pl]; exact hil
                simp [List.getD, h])
              generalize P.getD i [] = q at hdn hel hinc pI hql
              simp only [↓eB, seval, ↓reduceIte, reduceCtorEq, Nat.reduceEqDiff, Nat.reduceLeDiff, go_sem, yp_known, yp_Preds, yp_Reach, yp_Heads, yp_Ints, cGr_e, cGr_d, rPl_e, rPl_z, zPl_ln, decL_pl, rBl_e, rBl_z, zBl_ln, decL_bl, rPp_e, rPp_z, zPp_ln, decL_pr, rIn_e, rIn_z, zID_ln, decL_in, cSl, zND_ln, zNd_ln, ↓oD_stor, ↓oD_names, ↓oD_noVw, ↓oD_flat, ↓oD_mv, ↓oD_ldc, b1, b2, d1]
              refine loop_ok (Y := Nat × Bool) (fun y => y.1 ≤ q.length ∧ y.2 = anR R ((i : Int) == 0) (q.take y.1))
                (fun y => ⟨[(0, true, .one (.d (.sl zPl (l.map plD)))), (3, true, .one (.p 3 0 0)), (5, true, .one (.d (.sl zPp (P.map prD)))), (6, true, .one (.d (.sl zBl (R.map blD)))), (7, true, .one (.v (.int .i64 (i : Int)))), (13, true, .one (.v (.bool y.2))), (14, true, .one (.v (.int .i64 (y.1 : Int))))], [(3, .vec 0 [.v (.bool false)] [[.d (.sl zND (G.map Gq.r))]])]⟩)
                (fun y => q.length - y.1) (0, (i : Int) == 0) ⟨Nat.zero_le _, by simp [anR]⟩ ?_ ?_
              · refine to_with [] ?_; simp only [↓eB, seval, ↓reduceIte, reduceCtorEq, Nat.reduceEqDiff, Nat.reduceLeDiff, go_sem, rowsG.fn, zPl, ↓oD_stor, ↓oD_names, ↓oD_noVw, ↓oD_flat, ↓oD_mv, ↓oD_ldc]
              · rintro ⟨j, re⟩ ⟨m1, m2⟩
                refine vc_ok [yp_known, yp_Preds, yp_Reach, yp_Heads, yp_Ints] [] _ _ _ ?_
                dsimp only at m1 m2
                rcases prE_or q with ⟨ex, hq0⟩ | ex
                · subst hq0
                  have hj0 : j = 0 := by simpa using m1
                  subst hj0
                  rw [List.take_nil] at m2
                  rw [← m2] at hdn
                  cases hRi : R.getD i false with
                  | false =>
                    rw [hRi] at rI
                    simp only [↓eB, seval, ↓reduceIte, reduceCtorEq, Nat.reduceEqDiff, Nat.reduceLeDiff, go_sem, yp_known, yp_Preds, yp_Reach, yp_Heads, yp_Ints, cGr_e, cGr_d, rPl_e, rPl_z, zPl_ln, decL_pl, rBl_e, rBl_z, zBl_ln, decL_bl, rPp_e, rPp_z, zPp_ln, decL_pr, rIn_e, rIn_z, zID_ln, decL_in, cSl, zND_ln, zNd_ln, ↓oD_stor, ↓oD_names, ↓oD_noVw, ↓oD_flat, ↓oD_mv, ↓oD_ldc, b1, b2, b4, pI, ex, rI]
                    try simp only [impB, impN]
                    repeat' (first | exact chk_ok (by kernel_rfl) | with_reducible apply And.intro | intro _)
                    all_goals try first | exact hil | exact g1 | exact g2 | (rename_i h; exact (Option.some.inj h).symm) | (rename_i r h1 c h2; exact storL1 (by simp only [go_sem]) r h1 c h2) | (rename_i h; exact absurd h (by decide)) | (decide) | omega
                    refine ⟨i + 1, hil, by omega, to_with [] ?_⟩
                    simp only [↓eB, seval, ↓reduceIte, reduceCtorEq, Nat.reduceEqDiff, Nat.reduceLeDiff, go_sem, rowsG.fn, zPl, ↓oD_stor, ↓oD_names, ↓oD_noVw, ↓oD_flat, ↓oD_mv, ↓oD_ldc]
                  | true =>
                    have hre := hdn hRi
                    subst hre
                    rw [hRi] at rI
                    simp only [↓eB, seval, ↓reduceIte, reduceCtorEq, Nat.reduceEqDiff, Nat.reduceLeDiff, go_sem, yp_known, yp_Preds, yp_Reach, yp_Heads, yp_Ints, cGr_e, cGr_d, rPl_e, rPl_z, zPl_ln, decL_pl, rBl_e, rBl_z, zBl_ln, decL_bl, rPp_e, rPp_z, zPp_ln, decL_pr, rIn_e, rIn_z, zID_ln, decL_in, cSl, zND_ln, zNd_ln, ↓oD_stor, ↓oD_names, ↓oD_noVw, ↓oD_flat, ↓oD_mv, ↓oD_ldc, b1, b2, b4, pI, ex, rI]
                    try simp only [impB, impN]
                    repeat' (first | exact chk_ok (by kernel_rfl) | with_reducible apply And.intro | intro _)
                    all_goals try first | exact hil | exact g1 | exact g2 | (rename_i h; exact (Option.some.inj h).symm) | (rename_i r h1 c h2; exact storL1 (by simp only [go_sem]) r h1 c h2) | (rename_i h; exact absurd h (by decide)) | (decide) | omega
                    refine ⟨i + 1, hil, by omega, to_with [] ?_⟩
                    simp only [↓eB, seval, ↓reduceIte, reduceCtorEq, Nat.reduceEqDiff, Nat.reduceLeDiff, go_sem, rowsG.fn, zPl, ↓oD_stor, ↓oD_names, ↓oD_noVw, ↓oD_flat, ↓oD_mv, ↓oD_ldc]
                · cases hy : q[j]? with
                  | some x =>
                    have hlj : j < q.length := (List.getElem?_eq_some_iff.1 hy).1
                    have f1 := natI_lt hlj
                    have f2 := natI_ltp hlj
                    have f3 := in_at hy
                    have f4 := natI_succ (n := q.length) m1 (by omega)
                    have f5 := anR_take (r := R) (b := ((i : Int) == 0)) hy
                    rw [← m2] at f5
                    have hxe := hel x (List.mem_of_getElem? hy)
                    have g5 : 0 ≤ x := hxe.1
                    have g6 : x < (R.length : Int) := by rw [hT.rl]; exact hxe.2
                    have rX := bl_at' (l := R) (i := x.toNat) (by omega)
                    have hjx : q.getD j 0 = x := by simp [List.getD, hy]
                    cases jz : decide ((0 : Int) < (j : Int)) with
                    | true =>
                      have hj0 := of_decide_eq_true jz
                      obtain ⟨w, hw⟩ : ∃ w, q[j - 1]? = some w := ⟨_, List.getElem?_eq_getElem (by omega)⟩
                      have w1 := in_at hw
                      have w2 : IntKind.i64.wrap ((j : Int) - 1) = ((j - 1 : Nat) : Int) := by rw [wrap_i64 (by omega) (by omega)]; omega
                      have w3 : decide (x ≤ w) = false := by
                        have h := hinc (j - 1) (by omega)
                        rw [show j - 1 + 1 = j by omega, hjx, show q.getD (j - 1) 0 = w by simp [List.getD, hw]] at h
                        simp; omega
                      have w4 : ((j - 1 : Nat) : Int) < (q.length : Int) := by omega
                      cases re with
                      | true =>
                        simp only [↓eB, seval, ↓reduceIte, reduceCtorEq, Nat.reduceEqDiff, Nat.reduceLeDiff, go_sem, yp_known, yp_Preds, yp_Reach, yp_Heads, yp_Ints, cGr_e, cGr_d, rPl_e, rPl_z, zPl_ln, decL_pl, rBl_e, rBl_z, zBl_ln, decL_bl, rPp_e, rPp_z, zPp_ln, decL_pr, rIn_e, rIn_z, zID_ln, decL_in, cSl, zND_ln, zNd_ln, ↓oD_stor, ↓oD_names, ↓oD_noVw, ↓oD_flat, ↓oD_mv, ↓oD_ldc, b1, b2, pI, ex, f1, f2, f3, f4, rX, jz, w1, w2, w3]
                        try simp only [impB, impN]
                        repeat' (first | exact chk_ok (by kernel_rfl) | with_reducible apply And.intro | intro _)
                        all_goals try first | exact hlj | exact hil | exact g2 | exact g5 | exact g6 | exact w4 | (rename_i h; exact (Option.some.inj h).symm) | (rename_i r h1 c h2; exact storL1 (by simp only [go_sem]) r h1 c h2) | (rename_i h; exact absurd h (by decide)) | (decide) | omega
                        refine ⟨(j + 1, true), ⟨hlj, by rw [f5]; rfl⟩, by dsimp only; omega, to_with [] ?_⟩
                        simp only [↓eB, seval, ↓reduceIte, reduceCtorEq, Nat.reduceEqDiff, Nat.reduceLeDiff, go_sem, rowsG.fn, zPl, ↓oD_stor, ↓oD_names, ↓oD_noVw, ↓oD_flat, ↓oD_mv, ↓oD_ldc]
                      | false =>
                        simp only [↓eB, seval, ↓reduceIte, reduceCtorEq, Nat.reduceEqDiff, Nat.reduceLeDiff, go_sem, yp_known, yp_Preds, yp_Reach, yp_Heads, yp_Ints, cGr_e, cGr_d, rPl_e, rPl_z, zPl_ln, decL_pl, rBl_e, rBl_z, zBl_ln, decL_bl, rPp_e, rPp_z, zPp_ln, decL_pr, rIn_e, rIn_z, zID_ln, decL_in, cSl, zND_ln, zNd_ln, ↓oD_stor, ↓oD_names, ↓oD_noVw, ↓oD_flat, ↓oD_mv, ↓oD_ldc, b1, b2, pI, ex, f1, f2, f3, f4, rX, jz, w1, w2, w3]
                        try simp only [impB, impN]
                        repeat' (first | exact chk_ok (by kernel_rfl) | with_reducible apply And.intro | intro _)
                        all_goals try first | exact hlj | exact hil | exact g2 | exact g5 | exact g6 | exact w4 | (rename_i h; exact (Option.some.inj h).symm) | (rename_i r h1 c h2; exact storL1 (by simp only [go_sem]) r h1 c h2) | (rename_i h; exact absurd h (by decide)) | (decide) | omega
                        refine ⟨(j + 1, R.getD x.toNat false), ⟨hlj, by rw [f5]; rfl⟩, by dsimp only; omega, to_with [] ?_⟩
                        simp only [↓eB, seval, ↓reduceIte, reduceCtorEq, Nat.reduceEqDiff, Nat.reduceLeDiff, go_sem, rowsG.fn, zPl, ↓oD_stor, ↓oD_names, ↓oD_noVw, ↓oD_flat, ↓oD_mv, ↓oD_ldc]
                    | false =>
                      have hj0 := of_decide_eq_false jz
                      have hj : j = 0 := by omega
                      have w2 : IntKind.i64.wrap ((j : Int) - 1) = -1 := by rw [wrap_i64 (by omega) (by omega)]; omega
                      have f3' : ∀ z, (q.map inD).getD 0 z = [.v (.int .i64 x)] := by have h := f3; rw [hj] at h; exact h
                      cases re with
                      | true =>
                        simp only [↓eB, seval, ↓reduceIte, reduceCtorEq, Nat.reduceEqDiff, Nat.reduceLeDiff, go_sem, yp_known, yp_Preds, yp_Reach, yp_Heads, yp_Ints, cGr_e, cGr_d, rPl_e, rPl_z, zPl_ln, decL_pl, rBl_e, rBl_z, zBl_ln, decL_bl, rPp_e, rPp_z, zPp_ln, decL_pr, rIn_e, rIn_z, zID_ln, decL_in, cSl, zND_ln, zNd_ln, ↓oD_stor, ↓oD_names, ↓oD_noVw, ↓oD_flat, ↓oD_mv, ↓oD_ldc, b1, b2, pI, ex, f1, f2, f3, f4, rX, jz, w2, f3']
                        try simp only [impB, impN]
                        repeat' (first | exact chk_ok (by kernel_rfl) | with_reducible apply And.intro | intro _)
                        all_goals try first | exact hlj | exact hil | exact g2 | exact g5 | exact g6 | (rename_i h; exact (Option.some.inj h).symm) | (rename_i r h1 c h2; exact storL1 (by simp only [go_sem]) r h1 c h2) | (rename_i h; exact absurd h (by decide)) | (decide) | omega
                        refine ⟨(j + 1, true), ⟨hlj, by rw [f5]; rfl⟩, by dsimp only; omega, to_with [] ?_⟩
                        simp only [↓eB, seval, ↓reduceIte, reduceCtorEq, Nat.reduceEqDiff, Nat.reduceLeDiff, go_sem, rowsG.fn, zPl, ↓oD_stor, ↓oD_names, ↓oD_noVw, ↓oD_flat, ↓oD_mv, ↓oD_ldc]
                      | false =>
                        simp only [↓eB, seval, ↓reduceIte, reduceCtorEq, Nat.reduceEqDiff, Nat.reduceLeDiff, go_sem, yp_known, yp_Preds, yp_Reach, yp_Heads, yp_Ints, cGr_e, cGr_d, rPl_e, rPl_z, zPl_ln, decL_pl, rBl_e, rBl_z, zBl_ln, decL_bl, rPp_e, rPp_z, zPp_ln, decL_pr, rIn_e, rIn_z, zID_ln, decL_in, cSl, zND_ln, zNd_ln, ↓oD_stor, ↓oD_names, ↓oD_noVw, ↓oD_flat, ↓oD_mv, ↓oD_ldc, b1, b2, pI, ex, f1, f2, f3, f4, rX, jz, w2, f3']
                        try simp only [impB, impN]
                        repeat' (first | exact chk_ok (by kernel_rfl) | with_reducible apply And.intro | intro _)
                        all_goals try first | exact hlj | exact hil | exact g2 | exact g5 | exact g6 | (rename_i h; exact (Option.some.inj h).symm) | (rename_i r h1 c h2; exact storL1 (by simp only [go_sem]) r h1 c h2) | (rename_i h; exact absurd h (by decide)) | (decide) | omega
                        refine ⟨(j + 1, R.getD x.toNat false), ⟨hlj, by rw [f5]; rfl⟩, by dsimp only; omega, to_with [] ?_⟩
                        simp only [↓eB, seval, ↓reduceIte, reduceCtorEq, Nat.reduceEqDiff, Nat.reduceLeDiff, go_sem, rowsG.fn, zPl, ↓oD_stor, ↓oD_names, ↓oD_noVw, ↓oD_flat, ↓oD_mv, ↓oD_ldc]
                  | none =>
                    have hi2 : q.length ≤ j := List.getElem?_eq_none_iff.1 hy
                    have f1 := natI_ge hi2
                    rw [List.take_of_length_le hi2] at m2
                    rw [← m2] at hdn
                    cases hRi : R.getD i false with
                    | false =>
                      rw [hRi] at rI
                      simp only [↓eB, seval, ↓reduceIte, reduceCtorEq, Nat.reduceEqDiff, Nat.reduceLeDiff, go_sem, yp_known, yp_Preds, yp_Reach, yp_Heads, yp_Ints, cGr_e, cGr_d, rPl_e, rPl_z, zPl_ln, decL_pl, rBl_e, rBl_z, zBl_ln, decL_bl, rPp_e, rPp_z, zPp_ln, decL_pr, rIn_e, rIn_z, zID_ln, decL_in, cSl, zND_ln, zNd_ln, ↓oD_stor, ↓oD_names, ↓oD_noVw, ↓oD_flat, ↓oD_mv, ↓oD_ldc, b1, b2, b4, pI, ex, f1, rI]
                      try simp only [impB, impN]
                      repeat' (first | exact chk_ok (by kernel_rfl) | with_reducible apply And.intro | intro _)
                      all_goals try first | exact hil | exact g1 | exact g2 | (rename_i h; exact (Option.some.inj h).symm) | (rename_i r h1 c h2; exact storL1 (by simp only [go_sem]) r h1 c h2) | (rename_i h; exact absurd h (by decide)) | (decide) | omega
                      refine ⟨i + 1, hil, by omega, to_with [] ?_⟩
                      simp only [↓eB, seval, ↓reduceIte, reduceCtorEq, Nat.reduceEqDiff, Nat.reduceLeDiff, go_sem, rowsG.fn, zPl, ↓oD_stor, ↓oD_names, ↓oD_noVw, ↓oD_flat, ↓oD_mv, ↓oD_ldc]
                    | true =>
                      have hre := hdn hRi
                      subst hre
                      rw [hRi] at rI
                      simp only [↓eB, seval, ↓reduceIte, reduceCtorEq, Nat.reduceEqDiff, Nat.reduceLeDiff, go_sem, yp_known, yp_Preds, yp_Reach, yp_Heads, yp_Ints, cGr_e, cGr_d, rPl_e, rPl_z, zPl_ln, decL_pl, rBl_e, rBl_z, zBl_ln, decL_bl, rPp_e, rPp_z, zPp_ln, decL_pr, rIn_e, rIn_z, zID_ln, decL_in, cSl, zND_ln, zNd_ln, ↓oD_stor, ↓oD_names, ↓oD_noVw, ↓oD_flat, ↓oD_mv, ↓oD_ldc, b1, b2, b4, pI, ex, f1, rI]
                      try simp only [impB, impN]
                      repeat' (first | exact chk_ok (by kernel_rfl) | with_reducible apply And.intro | intro _)
                      all_goals try first | exact hil | exact g1 | exact g2 | (rename_i h; exact (Option.some.inj h).symm) | (rename_i r h1 c h2; exact storL1 (by simp only [go_sem]) r h1 c h2) | (rename_i h; exact absurd h (by decide)) | (decide) | omega
                      refine ⟨i + 1, hil, by omega, to_with [] ?_⟩
                      simp only [↓eB, seval, ↓reduceIte, reduceCtorEq, Nat.reduceEqDiff, Nat.reduceLeDiff, go_sem, rowsG.fn, zPl, ↓oD_stor, ↓oD_names, ↓oD_noVw, ↓oD_flat, ↓oD_mv, ↓oD_ldc]
        · have b1 := natI_ge hil
          have hI : (([] : List Int) == []) = true := rfl
          have hhd := hT.hd
          simp only [↓eB, seval, ↓reduceIte, reduceCtorEq, Nat.reduceEqDiff, Nat.reduceLeDiff, go_sem, yp_known, yp_Preds, yp_Reach, yp_Heads, yp_Ints, cGr_e, cGr_d, rPl_e, rPl_z, zPl_ln, decL_pl, rBl_e, rBl_z, zBl_ln, decL_bl, rPp_e, rPp_z, zPp_ln, decL_pr, rIn_e, rIn_z, zID_ln, decL_in, cSl, zND_ln, zNd_ln, ↓oD_stor, ↓oD_names, ↓oD_noVw, ↓oD_flat, ↓oD_mv, ↓oD_ldc, b1, yr_Heads, inB, hhd, yr_Ints, hI]
          try simp only [impB, impN]
          repeat' (first | exact chk_ok (by kernel_rfl) | with_reducible apply And.intro | intro _)
          all_goals first
            | exact k8
            | (exact Nat.zero_le _)
            | (rename_i h; exact (Option.some.inj h).symm)
            | (rename_i r h1 c h2; exact storL1 (by simp only [go_sem]) r h1 c h2)
            | (rename_i h; exact absurd h (by decide))
            | (decide)
            | omega
            | (refine ret_with [] ?_; simp only [↓eB, seval, ↓reduceIte, reduceCtorEq, Nat.reduceEqDiff, Nat.reduceLeDiff, go_sem, bne, yr_FlowThere])
theorem yh_FlowThere : ∀ p : (List (List Int) × Unit), okV ((fun p : (List (List Int) × Unit) => yr_FlowThere p.1) p) = true := by intro p; rfl
noncomputable def yp_FlowThere {X : Ctx} {w0 : World} : Sy.Spec Try.prog X w0 := specR 7 Try.call7 (ahS (cSl rPl) ah0) (fun p : (List (List Int) × Unit) => yc_FlowThere p.1) (fun p : (List (List Int) × Unit) => yr_FlowThere p.1) yh_FlowThere y_FlowThere
end Go.Proofs.Ytiipmaoonnjlpaa
