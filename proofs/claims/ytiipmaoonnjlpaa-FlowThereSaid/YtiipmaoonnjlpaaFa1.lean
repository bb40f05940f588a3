/- Any graph's ways are the reference's. No conditions but those in each statement. -/
import Derived.Test.YtiipmaoonnjlpaaKn1
import Derived.Test.YtiipmaoonnjlpaaFl
set_option linter.unusedVariables false
set_option linter.unusedSimpArgs false
namespace Go.Proofs.Ytiipmaoonnjlpaa
open Go Go.Sy Go.RowKit

theorem zNd_ln : zNd.length = 13 := rfl
def gC (x : Gq) : List C := x.r.map oD
theorem rowsG : RowsD gC Gq.r 13 := by
  refine ⟨fun a c hc => ?_, fun a c hc => ?_, fun a => ?_, fun a => rfl⟩
  · obtain ⟨d, _, rfl⟩ := List.mem_map.1 hc; exact oD_names d
  · obtain ⟨d, _, rfl⟩ := List.mem_map.1 hc; exact oD_stor d
  · have h : ∀ l : List D, toDs (l.map oD) = some l := by
      intro l
      induction l with
      | nil => rfl
      | cons d l ih => simp only [List.map_cons, toDs, oD_toD, ih]
    exact h _
/-- a node with its ways on, and nothing else -/
def gqN (nx : List Int) (h : Bool) : Gq := ⟨dI 0, dI 0, dS [], dS [], dN, dN, dN, dL0, dL0, dL0, dI 0, nx, h⟩
theorem gC_N (nx : List Int) (h : Bool) : gC (gqN nx h) = [.v (.int .i64 0), .v (.int .i64 0), .v (.string (bs [])), .v (.string (bs [])), .v (.pointer none), .v (.pointer none), .v (.pointer none), .v (.slice none 0 0), .v (.slice none 0 0), .v (.slice none 0 0), .v (.int .i64 0), .d (.sl zID (nx.map inD)), .v (.bool h)] := rfl
theorem prI_len (i : Int) : ∀ (l : List Int) (p : List (List Int)), (prI i l p).length = p.length
  | [], p => rfl
  | s :: r, p => by simp only [prI]; rw [prI_len i r, prS_len]
theorem prL_len : ∀ (i : Nat) (g : List Gq) (p : List (List Int)), (prL i g p).length = p.length
  | i, [], p => rfl
  | i, x :: r, p => by simp only [prL]; rw [prL_len (i + 1) r, prI_len]
theorem prI_row (i : Int) : ∀ (l : List Int) (p : List (List Int)) (n : Nat), (∀ q ∈ p, q.length ≤ n) → ∀ q ∈ prI i l p, q.length ≤ n + l.length
  | [], p, n, h => h
  | s :: r, p, n, h => fun q hq => by
    have := prI_row i r (prS i s p) (n + 1) (prS_row h) q hq
    simp only [List.length_cons]; omega
theorem prL_row (c : Nat) : ∀ (i : Nat) (g : List Gq) (p : List (List Int)) (n : Nat), (∀ x ∈ g, x.nx.length ≤ c) → (∀ q ∈ p, q.length ≤ n) → ∀ q ∈ prL i g p, q.length ≤ n + g.length * c
  | i, [], p, n, _, h => fun q hq => by have := h q hq; simp only [List.length_nil]; omega
  | i, x :: r, p, n, hx, h => fun q hq => by
    have h1 := prL_row c (i + 1) r (prI i x.nx p) (n + c) (fun y hy => hx y (List.mem_cons_of_mem _ hy)) (fun q hq => by
      have := prI_row i x.nx p n h q hq
      have := hx x (List.mem_cons_self ..)
      omega) q hq
    simp only [List.length_cons, Nat.add_mul, Nat.one_mul]; omega
theorem prF_len (g : List Gq) : (prF g).length = g.length := by unfold prF; rw [prL_len]; simp
theorem prF_row {g : List Gq} {c : Nat} (h : ∀ x ∈ g, x.nx.length ≤ c) : ∀ q ∈ prF g, q.length ≤ g.length * c := fun q hq => by
  have := prL_row c 0 g (List.replicate g.length []) 0 h (fun q hq => by rw [(List.mem_replicate.1 hq).2]; exact Nat.le_refl _) q hq
  omega
theorem rcF_len (g : List Gq) : (rcF g).length = g.length := by simp [rcF]
theorem zw_get {A B E : Type} (f : A → B → E) {l : List A} {m : List B} {i : Nat} {x : A} {y : B} (h : l[i]? = some x) (h' : m[i]? = some y) : (List.zipWith f l m)[i]? = some (f x y) := by simp [List.getElem?_zipWith, h, h']
theorem take_snoc {A : Type} {l : List A} {i : Nat} {x : A} (h : l[i]? = some x) : l.take (i + 1) = l.take i ++ [x] := by rw [List.take_add_one, h]; rfl
abbrev yc_FlowAsks (l : List (List Int)) (hs : List Bool) : Prop := (l.length ≤ maxLen ∧ ∀ x ∈ l, x.length ≤ maxLen) ∧ hs.length ≤ maxLen
abbrev yr_FlowAsks (l : List (List Int)) (hs : List Bool) : Value := Value.bool true
set_option maxRecDepth 20000 in set_option maxHeartbeats 8000000 in
theorem y_FlowAsks : CallsR Try.prog 6 (ahS (cSl rPl) (ahS (cSl rBl) ah0)) (fun p : (List (List Int) × (List Bool × Unit)) => yc_FlowAsks p.1 p.2.1) (fun p : (List (List Int) × (List Bool × Unit)) => ofV (yr_FlowAsks p.1 p.2.1)) := by
  rintro ⟨l, hs, _u⟩ w fz xs hc hfz hl hx
  refine calls_toRL Try.func6 rfl w fz [yp_known, yp_Preds, yp_rPreds, yp_predsB, yp_Reach, yp_rReach, yp_truths, yp_Heads, yp_rHeads, yp_Ints] [(12, [.fz 1000])] (ahS (cSl rPl) (ahS (cSl rBl) ah0)) (fun p : (List (List Int) × (List Bool × Unit)) => ofV (yr_FlowAsks p.1 p.2.1)) _ xs hfz hl hx (Nat.le_of_ble_eq_true rfl) ?_
  clear hx hl hfz xs
  simp only [Try.f6]
  cases c1 : decide ((30 : Int) < (l.length : Int)) with
  | true =>
    simp only [↓eB, seval, ↓reduceIte, reduceCtorEq, Nat.reduceEqDiff, Nat.reduceLeDiff, go_sem, yp_known, yp_Preds, yp_rPreds, yp_predsB, yp_Reach, yp_rReach, yp_truths, yp_Heads, yp_rHeads, yp_Ints, cGr_e, cGr_d, rPl_e, rPl_z, zPl_ln, decL_pl, rBl_e, rBl_z, zBl_ln, decL_bl, rPp_e, rPp_z, zPp_ln, decL_pr, rIn_e, rIn_z, zID_ln, decL_in, cSl, zND_ln, zNd_ln, beq_self_eq_true, ↓oD_stor, ↓oD_names, ↓oD_noVw, ↓oD_flat, ↓oD_mv, ↓oD_ldc, c1]
    try simp only [impB, impN]
    repeat' (first | exact chk_ok (by kernel_rfl) | with_reducible apply And.intro | intro _)
    all_goals first
      | exact trivial
      | (rename_i h; exact (Option.some.inj h).symm)
      | (rename_i r h1 c h2; exact storL1 (by simp only [go_sem]) r h1 c h2)
      | (rename_i h; exact absurd h (by decide))
      | (decide)
      | omega
      | (refine ret_with [] ?_; simp only [↓eB, seval, ↓reduceIte, reduceCtorEq, Nat.reduceEqDiff, Nat.reduceLeDiff, go_sem, bne, yr_FlowAsks])
  | false =>
  cases c2 : decide ((hs.length : Int) < (l.length : Int)) with
  | true =>
    simp only [↓eB, seval, ↓reduceIte, reduceCtorEq, Nat.reduceEqDiff, Nat.reduceLeDiff, go_sem, yp_known, yp_Preds, yp_rPreds, yp_predsB, yp_Reach, yp_rReach, yp_truths, yp_Heads, yp_rHeads, yp_Ints, cGr_e, cGr_d, rPl_e, rPl_z, zPl_ln, decL_pl, rBl_e, rBl_z, zBl_ln, decL_bl, rPp_e, rPp_z, zPp_ln, decL_pr, rIn_e, rIn_z, zID_ln, decL_in, cSl, zND_ln, zNd_ln, beq_self_eq_true, ↓oD_stor, ↓oD_names, ↓oD_noVw, ↓oD_flat, ↓oD_mv, ↓oD_ldc, c1, c2]
    try simp only [impB, impN]
    repeat' (first | exact chk_ok (by kernel_rfl) | with_reducible apply And.intro | intro _)
    all_goals first
      | exact trivial
      | (rename_i h; exact (Option.some.inj h).symm)
      | (rename_i r h1 c h2; exact storL1 (by simp only [go_sem]) r h1 c h2)
      | (rename_i h; exact absurd h (by decide))
      | (decide)
      | omega
      | (refine ret_with [] ?_; simp only [↓eB, seval, ↓reduceIte, reduceCtorEq, Nat.reduceEqDiff, Nat.reduceLeDiff, go_sem, bne, yr_FlowAsks])
  | false =>
  have hl := of_decide_eq_false c1
  have hh := of_decide_eq_false c2
  simp only [↓eB, seval, ↓reduceIte, reduceCtorEq, Nat.reduceEqDiff, Nat.reduceLeDiff, go_sem, yp_known, yp_Preds, yp_rPreds, yp_predsB, yp_Reach, yp_rReach, yp_truths, yp_Heads, yp_rHeads, yp_Ints, cGr_e, cGr_d, rPl_e, rPl_z, zPl_ln, decL_pl, rBl_e, rBl_z, zBl_ln, decL_bl, rPp_e, rPp_z, zPp_ln, decL_pr, rIn_e, rIn_z, zID_ln, decL_in, cSl, zND_ln, zNd_ln, beq_self_eq_true, ↓oD_stor, ↓oD_names, ↓oD_noVw, ↓oD_flat, ↓oD_mv, ↓oD_ldc, c1, c2]
  refine loop_ok (Y := Nat × List Gq) (fun y => y.1 ≤ l.length ∧ y.2 = (List.zipWith gqN l hs).take y.1 ∧ y.2.length = y.1 ∧ ∀ x ∈ y.2, x.nx.length ≤ 10)
    (fun y => ⟨[(0, true, .one (.d (.sl zPl (l.map plD)))), (1, true, .one (.d (.sl zBl (hs.map blD)))), (5, true, .one (.p 5 0 0)), (6, true, .one (.v (.int .i64 (y.1 : Int))))], [(5, .vec 0 [.v (.bool false)] [[.s 1000]]), (1000, .vec 0 zNd (y.2.map gC))]⟩)
    (fun y => l.length - y.1) (0, []) ⟨Nat.zero_le _, rfl, rfl, fun x hx => by cases hx⟩ ?_ ?_
  · refine to_with [.nilr 5 0 0 1000 zNd] ?_; simp only [↓eB, seval, ↓reduceIte, reduceCtorEq, Nat.reduceEqDiff, Nat.reduceLeDiff, go_sem, zPl, zBl]
  · rintro ⟨i, G⟩ ⟨j1, j2, j3, j4⟩
    refine vc_ok [yp_known, yp_Preds, yp_rPreds, yp_predsB, yp_Reach, yp_rReach, yp_truths, yp_Heads, yp_rHeads, yp_Ints] [] _ _ _ ?_
    dsimp only at j1 j2 j3 j4
    cases hx : l[i]? with
    | none =>
      have hi2 : l.length ≤ i := List.getElem?_eq_none_iff.1 hx
      have h1 := natI_ge hi2
      have hG : G.length ≤ 30 := by omega
      have k1 : G.length ≤ 1000000 := by omega
      have k2 : ∀ x ∈ G, x.nx.length ≤ 1000000 := fun x hx => by have := j4 x hx; omega
      have k7 : okG G := ⟨k1, k2⟩
      have k3 : (prF G).length ≤ 4294967296 := by rw [prF_len]; omega
      have k4 : ∀ q, (q ∈ prF G ∨ q ∈ prF G) → q.length ≤ 4294967296 := fun q hq => by
        have h := prF_row j4 q (by rcases hq with h | h <;> exact h)
        have : G.length * 10 ≤ 300 := by omega
        omega
      have k5 : (rcF G).length ≤ 4294967296 := by rw [rcF_len]; omega
      have k6 : (hdF 0 G).length ≤ 4294967296 := by have := hdF_len 0 G; omega
      have z1 : toDs zNd = some zND := rfl
      simp only [↓eB, seval, ↓reduceIte, reduceCtorEq, Nat.reduceEqDiff, Nat.reduceLeDiff, go_sem, yp_known, yp_Preds, yp_rPreds, yp_predsB, yp_Reach, yp_rReach, yp_truths, yp_Heads, yp_rHeads, yp_Ints, cGr_e, cGr_d, rPl_e, rPl_z, zPl_ln, decL_pl, rBl_e, rBl_z, zBl_ln, decL_bl, rPp_e, rPp_z, zPp_ln, decL_pr, rIn_e, rIn_z, zID_ln, decL_in, cSl, zND_ln, zNd_ln, beq_self_eq_true, ↓oD_stor, ↓oD_names, ↓oD_noVw, ↓oD_flat, ↓oD_mv, ↓oD_ldc, h1, z1, rowsG.ds, rowsG.fz, rowsG.fn, yr_Preds, yr_rPreds, yr_predsB, yr_Reach, yr_rReach, yr_truths, yr_Heads, yr_rHeads, yr_Ints, prB, trB, inB]
      try simp only [impB, impN]
      repeat' (first | exact chk_ok (by kernel_rfl) | with_reducible apply And.intro | intro _)
      all_goals first
        | exact k1
        | exact k7
        | exact k3
        | exact k5
        | exact k6
        | (rename_i hq; exact k4 _ hq)
        | (rename_i h; exact (Option.some.inj h).symm)
        | (rename_i r h1 c h2; exact storL1 (by simp only [go_sem]) r h1 c h2)
        | (rename_i h; exact absurd h (by decide))
        | (decide)
        | omega
        | (refine ret_with [] ?_; simp only [↓eB, seval, ↓reduceIte, reduceCtorEq, Nat.reduceEqDiff, Nat.reduceLeDiff, go_sem, bne, yr_FlowAsks])
    | some x =>
      have hlt : i < l.length := (List.getElem?_eq_some_iff.1 hx).1
      have hlh : i < hs.length := by omega
      obtain ⟨b, hb⟩ : ∃ b, hs[i]? = some b := ⟨_, List.getElem?_eq_getElem hlh⟩
      have h1 := natI_lt hlt
      have h2 := natI_ltp hlt
      have h2' := natI_ltp hlh
      have h3 := pl_at hx
      have h3' := bl_at hb
      have h4 := natI_succ (n := l.length) j1 (by omega)
      cases hc : decide ((10 : Int) < (x.length : Int)) with
      | true =>
        simp only [↓eB, seval, ↓reduceIte, reduceCtorEq, Nat.reduceEqDiff, Nat.reduceLeDiff, go_sem, yp_known, yp_Preds, yp_rPreds, yp_predsB, yp_Reach, yp_rReach, yp_truths, yp_Heads, yp_rHeads, yp_Ints, cGr_e, cGr_d, rPl_e, rPl_z, zPl_ln, decL_pl, rBl_e, rBl_z, zBl_ln, decL_bl, rPp_e, rPp_z, zPp_ln, decL_pr, rIn_e, rIn_z, zID_ln, decL_in, cSl, zND_ln, zNd_ln, beq_self_eq_true, ↓oD_stor, ↓oD_names, ↓oD_noVw, ↓oD_flat, ↓oD_mv, ↓oD_ldc, h1, h2, h2', h3, h3', hc]
        try simp only [impB, impN]
        repeat' (first | exact chk_ok (by kernel_rfl) | with_reducible apply And.intro | intro _)
        all_goals first
          | exact hlt
          | exact hlh
          | (rename_i h; exact (Option.some.inj h).symm)
          | (rename_i r h1 c h2; exact storL1 (by simp only [go_sem]) r h1 c h2)
          | (rename_i h; exact absurd h (by decide))
          | (decide)
          | omega
          | (refine ret_with [] ?_; simp only [↓eB, seval, ↓reduceIte, reduceCtorEq, Nat.reduceEqDiff, Nat.reduceLeDiff, go_sem, bne, yr_FlowAsks])
      | false =>
        have hcx := of_decide_eq_false hc
        have hsn : G ++ [gqN x b] = (List.zipWith gqN l hs).take (i + 1) := by rw [take_snoc (zw_get gqN hx hb), j2]
        have hro : (G.map gC ++ [gC (gqN x b)]).length ≤ 1000 := by simp; omega
        simp only [↓eB, seval, ↓reduceIte, reduceCtorEq, Nat.reduceEqDiff, Nat.reduceLeDiff, go_sem, yp_known, yp_Preds, yp_rPreds, yp_predsB, yp_Reach, yp_rReach, yp_truths, yp_Heads, yp_rHeads, yp_Ints, cGr_e, cGr_d, rPl_e, rPl_z, zPl_ln, decL_pl, rBl_e, rBl_z, zBl_ln, decL_bl, rPp_e, rPp_z, zPp_ln, decL_pr, rIn_e, rIn_z, zID_ln, decL_in, cSl, zND_ln, zNd_ln, beq_self_eq_true, ↓oD_stor, ↓oD_names, ↓oD_noVw, ↓oD_flat, ↓oD_mv, ↓oD_ldc, h1, h2, h2', h3, h3', h4, hc]
        try simp only [impB, impN]
        repeat' (first | exact chk_ok (by kernel_rfl) | with_reducible apply And.intro | intro _)
        all_goals try first | exact hlt | exact hlh | (rename_i h; exact (Option.some.inj h).symm) | (rename_i r h1 c h2; exact storL1 (by simp only [go_sem]) r h1 c h2) | (rename_i h; exact absurd h (by decide)) | (decide) | omega
        refine ⟨(i + 1, G ++ [gqN x b]), ⟨hlt, hsn, by simp [j3], fun y hy => ?_⟩, by dsimp only; omega,
          to_trans (t := ⟨[(0, true, .one (.d (.sl zPl (l.map plD)))), (1, true, .one (.d (.sl zBl (hs.map blD)))), (5, true, .one (.p 5 0 0)), (6, true, .one (.v (.int .i64 ((i + 1 : Nat) : Int))))], [(5, .vec 0 [.v (.bool false)] [[.s 43]]), (43, .vec 0 zNd ((G ++ [gqN x b]).map gC))]⟩) (to_with [] ?_) (to_with [.mv 43 1000] ?_)⟩
        · rcases List.mem_append.1 hy with h | h
          · exact j4 y h
          · rw [List.mem_singleton.1 h]; show x.length ≤ 10; omega
        · simp only [↓eB, seval, ↓reduceIte, reduceCtorEq, Nat.reduceEqDiff, Nat.reduceLeDiff, go_sem, rowsG.fn, ↓oD_stor, ↓oD_names, ↓oD_noVw, ↓oD_flat, ↓oD_mv, ↓oD_ldc, zPl, zBl, gC_N, List.map_append, List.flatMap_append]
        · simp only [↓eB, seval, ↓reduceIte, reduceCtorEq, Nat.reduceEqDiff, Nat.reduceLeDiff, go_sem, rowsG.fn, ↓oD_stor, ↓oD_names, ↓oD_noVw, ↓oD_flat, ↓oD_mv, ↓oD_ldc, zPl, zBl, rowsG.mv]
theorem yh_FlowAsks : ∀ p : (List (List Int) × (List Bool × Unit)), okV ((fun p : (List (List Int) × (List Bool × Unit)) => yr_FlowAsks p.1 p.2.1) p) = true := by intro p; rfl
noncomputable def yp_FlowAsks {X : Ctx} {w0 : World} : Sy.Spec Try.prog X w0 := specR 6 Try.call6 (ahS (cSl rPl) (ahS (cSl rBl) ah0)) (fun p : (List (List Int) × (List Bool × Unit)) => yc_FlowAsks p.1 p.2.1) (fun p : (List (List Int) × (List Bool × Unit)) => yr_FlowAsks p.1 p.2.1) yh_FlowAsks y_FlowAsks
end Go.Proofs.Ytiipmaoonnjlpaa
