/- The graphs of shapes, walked. No conditions but those in each statement. -/
import Derived.Test.YtiipmaoonnjlpaaSh4
import Derived.Test.YtiipmaoonnjlpaaFe2
import Derived.Test.YtiipmaoonnjlpaaFl
import Derived.Test.YtiipmaoonnjlpaaGr0
set_option linter.unusedVariables false
set_option linter.unusedSimpArgs false
namespace Go.Proofs.Ytiipmaoonnjlpaa
open Go Go.Sy Go.RowKit

theorem zBy_ln : zBy.length = 1 := rfl
noncomputable def rBy : RowC Int := rowOf zBy byD by_inj fun _ => rfl
theorem rBy_e : rBy.e = byD := rfl
theorem rBy_z : rBy.z = zBy := rfl
theorem decL_by (l : List Int) : decL rBy.d (l.map byD) = some l := decL_map rBy l
def kO : Nat → List UInt8
  | 0 => [119, 104, 105, 108, 101, 32, 40, 120, 32, 60, 32, 49, 41, 32, 123, 32]
  | 1 => [105, 102, 32, 40, 120, 32, 60, 32, 49, 41, 32, 123, 32]
  | 2 => [120, 32, 61, 32, 49, 59, 32]
  | _ => [114, 101, 116, 117, 114, 110, 32, 120, 59, 32]
def kC : Nat → List UInt8
  | 0 => [125, 32]
  | 1 => [125, 32, 101, 108, 115, 101, 32, 123, 32, 120, 32, 61, 32, 50, 59, 32, 125, 32]
  | _ => []
def opX : List Nat → List UInt8
  | [] => []
  | a :: t => kO a ++ opX t
def clT : List Nat → List UInt8
  | [] => []
  | a :: t => clT t ++ kC a
theorem opX_s (a : Nat) : ∀ l, opX (l ++ [a]) = opX l ++ kO a
  | [] => by simp [opX]
  | b :: t => by simp only [List.cons_append, opX, opX_s a t, List.append_assoc]
theorem clT_s (a : Nat) : ∀ l, clT (l ++ [a]) = kC a ++ clT l
  | [] => by simp [clT]
  | b :: t => by simp only [List.cons_append, clT, clT_s a t, List.append_assoc]
theorem bT_oc : ∀ l, bT l = opX l ++ clT l
  | [] => rfl
  | 0 :: t => by simp only [bT, opX, clT, bT_oc t, List.append_assoc]; rfl
  | 1 :: t => by simp only [bT, opX, clT, bT_oc t, List.append_assoc]; rfl
  | 2 :: t => by simp only [bT, opX, clT, bT_oc t, List.append_assoc, kC, List.append_nil]; rfl
  | (k + 3) :: t => by simp only [bT, opX, clT, bT_oc t, List.append_assoc, kC, List.append_nil]; rfl
theorem kO_len (a : Nat) : (kO a).length ≤ 16 := by
  match a with
  | 0 => decide
  | 1 => decide
  | 2 => decide
  | _ + 3 => exact (by decide : 10 ≤ 16)
theorem kC_len (a : Nat) : (kC a).length ≤ 18 := by
  match a with
  | 0 => decide
  | 1 => decide
  | _ + 2 => exact Nat.zero_le _
theorem opX_len : ∀ l, (opX l).length ≤ 16 * l.length
  | [] => Nat.le_refl _
  | a :: t => by have := opX_len t; have := kO_len a; simp only [opX, List.length_append, List.length_cons]; omega
theorem clT_len : ∀ l, (clT l).length ≤ 18 * l.length
  | [] => Nat.le_refl _
  | a :: t => by have := clT_len t; have := kC_len a; simp only [clT, List.length_append, List.length_cons]; omega
def cA (l : List Nat) : Nat := n0 l + n1 l
def cB (l : List Nat) : Nat := n0 l
def cC (l : List Nat) : Nat := n1 l
def cD (l : List Nat) : Nat := n1 l + n2 l
def shp (x : Int) : Nat := (x.tmod 4).toNat
theorem shp_in {x : Int} (h : 0 ≤ x ∧ x < 256) : (x.tmod 4 = 0 ∧ shp x = 0) ∨ (x.tmod 4 = 1 ∧ shp x = 1) ∨ (x.tmod 4 = 2 ∧ shp x = 2) ∨ (x.tmod 4 = 3 ∧ shp x = 3) := by
  have : x.tmod 4 = x % 4 := Int.tmod_eq_emod_of_nonneg h.1
  unfold shp
  rw [this]; omega
theorem cA_s (l : List Nat) (a : Nat) : cA (l ++ [a]) = cA l + ((if a = 0 then 1 else 0) + if a = 1 then 1 else 0) := by simp only [cA, n0, n1, List.countP_append, List.countP_cons, List.countP_nil, beq_iff_eq]; omega
theorem cB_s (l : List Nat) (a : Nat) : cB (l ++ [a]) = cB l + (if a = 0 then 1 else 0) := by simp only [cB, n0, List.countP_append, List.countP_cons, List.countP_nil, beq_iff_eq]; omega
theorem cC_s (l : List Nat) (a : Nat) : cC (l ++ [a]) = cC l + (if a = 1 then 1 else 0) := by simp only [cC, n1, List.countP_append, List.countP_cons, List.countP_nil, beq_iff_eq]; omega
theorem cD_s (l : List Nat) (a : Nat) : cD (l ++ [a]) = cD l + ((if a = 1 then 1 else 0) + if 2 ≤ a then 1 else 0) := by simp only [cD, n1, n2, List.countP_append, List.countP_cons, List.countP_nil, beq_iff_eq, decide_eq_true_eq]; omega
theorem c_le (l : List Nat) : cA l ≤ l.length + l.length ∧ cB l ≤ l.length ∧ cC l ≤ l.length ∧ cD l ≤ l.length + l.length := by
  have a : n0 l ≤ l.length := List.countP_le_length
  have b : n1 l ≤ l.length := List.countP_le_length
  have c : n2 l ≤ l.length := List.countP_le_length
  simp only [cA, cB, cC, cD]; omega
theorem cnt_s (k : Int) (l : List Tg) (t : Tg) : cnt k (l ++ [t]) = cnt k l + if t.1 = k then 1 else 0 := by simp only [cnt, List.countP_append, List.countP_cons, List.countP_nil, beq_iff_eq]; omega
theorem cnt_le (k : Int) (l : List Tg) : cnt k l ≤ l.length := List.countP_le_length
theorem gq_nd {L : List Nd} {i : Nat} (h : i < L.length) (z : List D) : ((L.map Nd.g).map Gq.r).getD i z = Gq.r (Nd.g (L.getD i nd0)) := by simp [List.getD, h]
theorem okB_D {n : Nat} : ∀ (m : Nat) (l : List Sm), okB n m l → okD m l
  | 0, l, h => h.elim
  | m + 1, l, h => ⟨h.1, fun s hs => ⟨okB_D m _ (h.2 s hs).2.1, okB_D m _ (h.2 s hs).2.2⟩⟩
theorem by_at2 {l : List Int} {i : Nat} {x : Int} (h : l[i]? = some x) (z : List D) : (l.map byD).getD i z = [.v (.int .u8 x)] := by simp [List.getD, h, byD]
theorem tk_sn {A : Type} {l : List A} {i : Nat} {a : A} (h : l[i]? = some a) : l.take (i + 1) = l.take i ++ [a] := by rw [List.take_add_one, h]; rfl
theorem cnt_0 (k : Int) : ((cnt k [] : Nat) : Int) = 0 := rfl
theorem cA_0 : ((cA [] : Nat) : Int) = 0 := rfl
theorem cB_0 : ((cB [] : Nat) : Int) = 0 := rfl
theorem cC_0 : ((cC [] : Nat) : Int) = 0 := rfl
theorem cD_0 : ((cD [] : Nat) : Int) = 0 := rfl
theorem wr1 {n : Nat} (h : n ≤ 1000000) : IntKind.i64.wrap ((n : Int) + 1) = ((n + 1 : Nat) : Int) := by rw [wrap_i64 (by omega) (by omega)]; omega
/-- what the law asks of the text's function -/
structure Shf (K : List Nat) (m : Nat) (L : List Nd) : Prop where
  c0 : cnt 0 (L.map tgOf) = 1
  c3 : cnt 3 (L.map tgOf) = 1
  c2 : cnt 2 (L.map tgOf) = cA K
  c4 : cnt 4 (L.map tgOf) = cC K
  c1 : cnt 1 (L.map tgOf) = cD K
  hd : (hdF 0 (L.map Nd.g)).length = cB K
  nx : ∀ x ∈ L, x.nx.length = need x.k
  k : ∀ x ∈ L, 0 ≤ x.k ∧ x.k < 5
  l : L.length ≤ 100000
  x : ∀ x ∈ L, x.nx.length ≤ 100000
theorem shf_of (K : List Nat) (h : K.length ≤ 12) : ∃ m, (funF (fT K)).2.2 = 0 ∧ okD m (funF (fT K)).1.body ∧ szB m (funF (fT K)).1.body ≤ 4096 ∧ Shf K m (lowF m (funF (fT K)).1.body) := by
  obtain ⟨h1, h2⟩ := fun_s K h
  obtain ⟨_, n, m, h3⟩ := funF_good (fT K)
  have hd := okB_D m _ h3
  obtain ⟨⟨b, b1, b2, b3⟩, _⟩ := funF_al (fT K)
  have hs : szB m (funF (fT K)).1.body ≤ 4096 := by
    rw [szB_al _ _ hd, b1]
    have := rg_len (b := b) b2
    omega
  obtain ⟨c0, c3, c2, c4, c1, ch⟩ := low_cnt h2 hd
  have sm := low_small hd hs
  exact ⟨m, h1, hd, hs, ⟨c0, c3, c2, c4, c1, by rw [hdF_cnt]; exact ch, low_need m _, low_kind, sm.1, sm.2⟩⟩
theorem shfE (l : List Int) : ∃ m, l.length ≤ 12 → (funF (fT (l.map shp))).2.2 = 0 ∧ okD m (funF (fT (l.map shp))).1.body ∧ szB m (funF (fT (l.map shp))).1.body ≤ 4096 ∧ Shf (l.map shp) m (lowF m (funF (fT (l.map shp))).1.body) := by
  by_cases h : l.length ≤ 12
  · obtain ⟨m, hm⟩ := shf_of (l.map shp) (by simpa using h)
    exact ⟨m, fun _ => hm⟩
  · exact ⟨0, fun h2 => absurd h2 h⟩
abbrev yc_FlowShapes (l : List Int) : Prop := l.length ≤ maxLen ∧ ∀ x ∈ l, 0 ≤ x ∧ x < 256
abbrev yr_FlowShapes (l : List Int) : Value := Value.bool true
set_option maxRecDepth 20000 in set_option maxHeartbeats 16000000 in
theorem y_FlowShapes : CallsR Try.prog 3 (ahS (cSl rBy) ah0) (fun p : (List Int × Unit) => yc_FlowShapes p.1) (fun p : (List Int × Unit) => ofV (yr_FlowShapes p.1)) := by
  rintro ⟨l, _u⟩ w fz xs hc hfz hl hx
  refine calls_toRL Try.func3 rfl w fz [yp_known, yp_Func, (yg_lower (Classical.choose (shfE l)) (y_lower (Classical.choose (shfE l)))), yp_Heads] [] (ahS (cSl rBy) ah0) (fun p : (List Int × Unit) => ofV (yr_FlowShapes p.1)) _ xs hfz hl hx (Nat.le_of_ble_eq_true rfl) ?_
  clear hx hl hfz xs
  simp only [Try.f3]
  obtain ⟨_, hby⟩ := hc
  dsimp only at hby
  cases c1 : decide ((12 : Int) < (l.length : Int)) with
  | true =>
    simp only [↓eB, seval, ↓reduceIte, reduceCtorEq, Nat.reduceEqDiff, Nat.reduceLeDiff, go_sem, yp_known, yp_Func, yg_lower, yp_Heads, cGr_e, cGr_d, rBy_e, rBy_z, zBy_ln, decL_by, zID_ln, cSl, zND_ln, zIn_ln, cFn_e, cFn_d, Fn.c, fn_eta, gB, Gq.r, Nd.g, ↓oD_stor, ↓oD_names, ↓oD_noVw, ↓oD_flat, ↓oD_mv, ↓oD_ldc, c1]
    try simp only [impB, impN]
    repeat' (first | exact chk_ok (by kernel_rfl) | with_reducible apply And.intro | intro _)
    all_goals first
      | exact trivial
      | (rename_i h; exact (Option.some.inj h).symm)
      | (rename_i r h1 c h2; exact storL1 (by simp only [go_sem]) r h1 c h2)
      | (rename_i h; exact absurd h (by decide))
      | (decide)
      | omega
      | (refine ret_with [] ?_; simp only [↓eB, seval, ↓reduceIte, reduceCtorEq, Nat.reduceEqDiff, Nat.reduceLeDiff, go_sem, bne, yr_FlowShapes])
  | false =>
  have hll : l.length ≤ 12 := by have := of_decide_eq_false c1; omega
  obtain ⟨s1, s2, s3, s4⟩ := Classical.choose_spec (shfE l) hll
  generalize Classical.choose (shfE l) = m at *
  obtain ⟨K, hK⟩ : ∃ K, l.map shp = K := ⟨_, rfl⟩
  rw [hK] at s1 s2 s3 s4
  have hKl : K.length = l.length := by rw [← hK]; simp
  obtain ⟨F, hF⟩ : ∃ F, (funF (fT K)).1 = F := ⟨_, rfl⟩
  rw [hF] at s2 s3 s4
  obtain ⟨L, hL⟩ : ∃ L, lowF m F.body = L := ⟨_, rfl⟩
  rw [hL] at s4
  have s3' : szB m F.body ≤ 10000000 := by omega
  simp only [↓eB, seval, ↓reduceIte, reduceCtorEq, Nat.reduceEqDiff, Nat.reduceLeDiff, go_sem, yp_known, yp_Func, yg_lower, yp_Heads, cGr_e, cGr_d, rBy_e, rBy_z, zBy_ln, decL_by, zID_ln, cSl, zND_ln, zIn_ln, cFn_e, cFn_d, Fn.c, fn_eta, gB, Gq.r, Nd.g, ↓oD_stor, ↓oD_names, ↓oD_noVw, ↓oD_flat, ↓oD_mv, ↓oD_ldc, c1]
  refine loop_ok (Y := Nat) (fun i => i ≤ K.length)
    (fun i => ⟨[(0, true, .one (.d (.sl zBy (l.map byD)))), (3, true, .one (.v (.string (bs (opX (K.take i)))))), (4, true, .one (.v (.string (bs (clT (K.take i)))))), (5, true, .one (.v (.int .i64 (((cA (K.take i) : Nat) : Int))))), (6, true, .one (.v (.int .i64 (((cB (K.take i) : Nat) : Int))))), (7, true, .one (.v (.int .i64 (((cC (K.take i) : Nat) : Int))))), (8, true, .one (.v (.int .i64 (((cD (K.take i) : Nat) : Int))))), (9, true, .one (.v (.int .i64 ((i : Int)))))], []⟩)
    (fun i => K.length - i) 0 (Nat.zero_le _) ?_ ?_
  · refine to_with [] ?_; simp only [↓eB, seval, ↓reduceIte, reduceCtorEq, Nat.reduceEqDiff, Nat.reduceLeDiff, go_sem, rowsI.fn, ↓oD_stor, ↓oD_names, ↓oD_noVw, ↓oD_flat, ↓oD_mv, ↓oD_ldc, opX, clT, cA_0, cB_0, cC_0, cD_0]
  · intro i hi
    refine vc_ok [] [] _ _ _ ?_
    cases hy : l[i]? with
    | some x =>
      have hil : i < l.length := (List.getElem?_eq_some_iff.1 hy).1
      have b1 := natI_lt hil
      have b2 := natI_ltp hil
      have b3 := by_at2 hy
      have b4 := natI_succ (n := 12) (by omega) (by omega) (i := i)
      have tk : K.take (i + 1) = K.take i ++ [shp x] := by
        refine tk_sn ?_
        rw [← hK, List.getElem?_map, hy]; rfl
      have hli : (K.take i).length ≤ 12 := by rw [List.length_take]; omega
      have hS : (opX (K.take i)).length ≤ 192 := Nat.le_trans (opX_len _) (by omega)
      have hE : (clT (K.take i)).length ≤ 216 := Nat.le_trans (clT_len _) (by omega)
      obtain ⟨l1, l2, l3, l4⟩ := c_le (K.take i)
      have w1 := wr1 (n := cA (K.take i)) (by omega)
      have w2 := wr1 (n := cB (K.take i)) (by omega)
      have w3 := wr1 (n := cC (K.take i)) (by omega)
      have w4 := wr1 (n := cD (K.take i)) (by omega)
      have qs := congrArg opX tk
      have qe := congrArg clT tk
      have qa := congrArg cA tk
      have qb := congrArg cB tk
      have qc := congrArg cC tk
      have qd := congrArg cD tk
      rw [opX_s] at qs
      rw [clT_s] at qe
      rw [cA_s] at qa
      rw [cB_s] at qb
      rw [cC_s] at qc
      rw [cD_s] at qd
      rcases shp_in (hby x (List.mem_of_getElem? hy)) with ⟨h1, h2⟩ | ⟨h1, h2⟩ | ⟨h1, h2⟩ | ⟨h1, h2⟩
      all_goals
        rw [h2] at qs qe qa qb qc qd
        simp (decide := true) only [kO, kC, List.cons_append, List.nil_append, List.append_nil, if_true, if_false, ↓reduceIte, Nat.add_zero, Nat.zero_add, Nat.reduceAdd] at qs qe qa qb qc qd
        simp only [↓eB, seval, ↓reduceIte, reduceCtorEq, Nat.reduceEqDiff, Nat.reduceLeDiff, go_sem, yp_known, yp_Func, yg_lower, yp_Heads, cGr_e, cGr_d, rBy_e, rBy_z, zBy_ln, decL_by, zID_ln, cSl, zND_ln, zIn_ln, cFn_e, cFn_d, Fn.c, fn_eta, gB, Gq.r, Nd.g, ↓oD_stor, ↓oD_names, ↓oD_noVw, ↓oD_flat, ↓oD_mv, ↓oD_ldc, b1, b2, b3, b4, h1, w1, w2, w3, w4]
        try simp only [impB, impN]
        repeat' (first | exact chk_ok (by kernel_rfl) | with_reducible apply And.intro | intro _)
        all_goals try first | exact hil | exact hS | exact hE | (rename_i h; exact (Option.some.inj h).symm) | (rename_i r h1 c h2; exact storL1 (by simp only [go_sem]) r h1 c h2) | (rename_i h; exact absurd h (by decide)) | (decide) | omega
        refine ⟨i + 1, by omega, by omega, to_with [] ?_⟩
        simp only [↓eB, seval, ↓reduceIte, reduceCtorEq, Nat.reduceEqDiff, Nat.reduceLeDiff, go_sem, rowsI.fn, ↓oD_stor, ↓oD_names, ↓oD_noVw, ↓oD_flat, ↓oD_mv, ↓oD_ldc, qs, qe, qa, qb, qc, qd]
    | none =>
      have hil := List.getElem?_eq_none_iff.1 hy
      have b1 := natI_ge hil
      have tk : K.take i = K := List.take_of_length_le (by omega)
      rw [tk]
      have hS : (opX K).length ≤ 192 := Nat.le_trans (opX_len _) (by omega)
      have hE : (clT K).length ≤ 216 := Nat.le_trans (clT_len _) (by omega)
      have hTx : 102 :: 110 :: 32 :: 102 :: 40 :: 120 :: 41 :: 32 :: 123 :: 32 :: (opX K ++ clT K ++ [125]) = fT K := by
        unfold fT; rw [bT_oc]; rfl
      have hTl : (fT K).length ≤ 500 := by rw [← hTx]; simp only [List.length_cons, List.length_append, List.length_nil]; omega
      obtain ⟨T, hT⟩ : ∃ T, L.map tgOf = T := ⟨_, rfl⟩
      obtain ⟨G, hG⟩ : ∃ G, L.map Nd.g = G := ⟨_, rfl⟩
      have hLG : L.map Nd.r = G.map Gq.r := by rw [← hG]; exact nd_g L
      have hGl : G.length = L.length := by rw [← hG]; simp
      have hTn : T.length = L.length := by rw [← hT]; simp
      obtain ⟨z0, z3, z2, z4, z1, zh, znx, zk, zl, zx⟩ := s4
      rw [hT] at z0 z1 z2 z3 z4
      rw [hG] at zh
      obtain ⟨n, hn⟩ : ∃ n, L.length = n := ⟨_, rfl⟩
      rw [hn] at hGl hTn zl
      have kG : G.length ≤ 1000000 := by omega
      simp only [↓eB, seval, ↓reduceIte, reduceCtorEq, Nat.reduceEqDiff, Nat.reduceLeDiff, go_sem, yp_known, yp_Func, yg_lower, yp_Heads, cGr_e, cGr_d, rBy_e, rBy_z, zBy_ln, decL_by, zID_ln, cSl, zND_ln, zIn_ln, cFn_e, cFn_d, Fn.c, fn_eta, gB, Gq.r, Nd.g, ↓oD_stor, ↓oD_names, ↓oD_noVw, ↓oD_flat, ↓oD_mv, ↓oD_ldc, b1, hTx, s1, hF, hL, hLG, yr_lower]
      repeat' (first | exact chk_ok (by kernel_rfl) | with_reducible apply And.intro)
      all_goals try first | exact s2 | exact s3' | exact hTl | exact natI_le _ | rfl | omega | decide | (simp only [List.length_append, List.length_cons, List.length_nil] <;> omega)
      refine loop_ok (Y := Nat) (fun i => i ≤ n)
        (fun i => ⟨[(5, true, .one (.v (.int .i64 (((cA K : Nat) : Int))))), (6, true, .one (.v (.int .i64 (((cB K : Nat) : Int))))), (7, true, .one (.v (.int .i64 (((cC K : Nat) : Int))))), (8, true, .one (.v (.int .i64 (((cD K : Nat) : Int))))), (13, true, .one (.p 13 0 0)), (14, true, .one (.p 14 0 0)), (15, true, .one (.v (.int .i64 ((i : Int)))))], [(13, .vec 0 [.v (.bool false)] [[.d (.sl zND (G.map Gq.r))]]), (14, .vec 0 [.v (.bool false), .v (.bool false), .v (.bool false), .v (.bool false), .v (.bool false)] [[.v (.int .i64 (((cnt 0 (T.take i) : Nat) : Int))), .v (.int .i64 (((cnt 1 (T.take i) : Nat) : Int))), .v (.int .i64 (((cnt 2 (T.take i) : Nat) : Int))), .v (.int .i64 (((cnt 3 (T.take i) : Nat) : Int))), .v (.int .i64 (((cnt 4 (T.take i) : Nat) : Int)))]])]⟩)
        (fun i => n - i) 0 (Nat.zero_le _) ?_ ?_
      · refine to_with [] ?_; simp only [↓eB, seval, ↓reduceIte, reduceCtorEq, Nat.reduceEqDiff, Nat.reduceLeDiff, go_sem, rowsI.fn, ↓oD_stor, ↓oD_names, ↓oD_noVw, ↓oD_flat, ↓oD_mv, ↓oD_ldc, cnt_0, hLG]
      · intro i hi
        refine vc_ok [] [] _ _ _ ?_
        rcases Nat.lt_or_ge i n with hil | hil
        · have b1 := natI_lt hil
          have b2 := natI_ltp hil
          have b4 := natI_succ (n := n) hi (by omega)
          have b3 := gq_nd (L := L) (i := i) (by omega)
          rw [hG] at b3
          have i1 : (i : Int) < (G.length : Int) := by rw [hGl]; omega
          have hm : L.getD i nd0 ∈ L := by simp [List.getD, (by omega : i < L.length)]
          have tk : T.take (i + 1) = T.take i ++ [tgOf (L.getD i nd0)] := by
            refine tk_sn ?_
            rw [← hT]; exact getD_tag (by omega)
          have hnx := znx _ hm
          have hk := zk _ hm
          have hxl := zx _ hm
          generalize L.getD i nd0 = nd at b3 tk hnx hk hxl
          have hle := fun j => Nat.le_trans (cnt_le j (T.take i)) (by rw [List.length_take]; omega : (T.take i).length ≤ 100000)
          have w0 := wr1 (n := cnt 0 (T.take i)) (by have := hle 0; omega)
          have w1 := wr1 (n := cnt 1 (T.take i)) (by have := hle 1; omega)
          have w2 := wr1 (n := cnt 2 (T.take i)) (by have := hle 2; omega)
          have w3 := wr1 (n := cnt 3 (T.take i)) (by have := hle 3; omega)
          have w4 := wr1 (n := cnt 4 (T.take i)) (by have := hle 4; omega)
          have q0 := congrArg (cnt 0) tk
          have q1 := congrArg (cnt 1) tk
          have q2 := congrArg (cnt 2) tk
          have q3 := congrArg (cnt 3) tk
          have q4 := congrArg (cnt 4) tk
          rw [cnt_s] at q0 q1 q2 q3 q4
          have hks : nd.k = 0 ∨ nd.k = 1 ∨ nd.k = 2 ∨ nd.k = 3 ∨ nd.k = 4 := by omega
          rcases hks with hk | hk | hk | hk | hk
          all_goals
            rw [hk] at hnx
            simp (decide := true) only [tgOf, hk, if_true, if_false, ↓reduceIte, Nat.add_zero] at q0 q1 q2 q3 q4
            simp (decide := true) only [need, if_true, if_false, ↓reduceIte] at hnx
            simp only [↓eB, seval, ↓reduceIte, reduceCtorEq, Nat.reduceEqDiff, Nat.reduceLeDiff, go_sem, yp_known, yp_Func, yg_lower, yp_Heads, cGr_e, cGr_d, rBy_e, rBy_z, zBy_ln, decL_by, zID_ln, cSl, zND_ln, zIn_ln, cFn_e, cFn_d, Fn.c, fn_eta, gB, Gq.r, Nd.g, ↓oD_stor, ↓oD_names, ↓oD_noVw, ↓oD_flat, ↓oD_mv, ↓oD_ldc, hGl, b1, b2, b3, b4, hk, hnx, w0, w1, w2, w3, w4, Int.reduceTMod]
            try simp only [impB, impN]
            repeat' (first | exact chk_ok (by kernel_rfl) | with_reducible apply And.intro | intro _)
            all_goals try first | exact hil | exact b2 | (rename_i h; exact (Option.some.inj h).symm) | (rename_i r h1 c h2; exact storL1 (by simp only [go_sem]) r h1 c h2) | (rename_i h; exact absurd h (by decide)) | (decide) | omega
            refine ⟨i + 1, hil, by omega, to_with [] ?_⟩
            simp only [↓eB, seval, ↓reduceIte, reduceCtorEq, Nat.reduceEqDiff, Nat.reduceLeDiff, go_sem, rowsI.fn, ↓oD_stor, ↓oD_names, ↓oD_noVw, ↓oD_flat, ↓oD_mv, ↓oD_ldc, q0, q1, q2, q3, q4]
        · have b1 := natI_ge hil
          have tk : T.take i = T := List.take_of_length_le (by omega)
          rw [tk, z0, z1, z2, z3, z4]
          have r1 : (((cA K : Nat) : Int) == ((cA K : Nat) : Int)) = true := beq_self_eq_true _
          have r2 : (((cB K : Nat) : Int) == ((cB K : Nat) : Int)) = true := beq_self_eq_true _
          have r3 : (((cC K : Nat) : Int) == ((cC K : Nat) : Int)) = true := beq_self_eq_true _
          have r4 : (((cD K : Nat) : Int) == ((cD K : Nat) : Int)) = true := beq_self_eq_true _
          simp only [↓eB, seval, ↓reduceIte, reduceCtorEq, Nat.reduceEqDiff, Nat.reduceLeDiff, go_sem, yp_known, yp_Func, yg_lower, yp_Heads, cGr_e, cGr_d, rBy_e, rBy_z, zBy_ln, decL_by, zID_ln, cSl, zND_ln, zIn_ln, cFn_e, cFn_d, Fn.c, fn_eta, gB, Gq.r, Nd.g, ↓oD_stor, ↓oD_names, ↓oD_noVw, ↓oD_flat, ↓oD_mv, ↓oD_ldc, hGl, b1, yr_Heads, zh, r1, r2, r3, r4]
          try simp only [impB, impN]
          repeat' (first | exact chk_ok (by kernel_rfl) | with_reducible apply And.intro | intro _)
          all_goals first
            | exact zl
            | (rename_i h; exact (Option.some.inj h).symm)
            | (rename_i r h1 c h2; exact storL1 (by simp only [go_sem]) r h1 c h2)
            | (rename_i h; exact absurd h (by decide))
            | (decide)
            | omega
            | (refine ret_with [] ?_; simp only [↓eB, seval, ↓reduceIte, reduceCtorEq, Nat.reduceEqDiff, Nat.reduceLeDiff, go_sem, bne, yr_FlowShapes])
theorem yh_FlowShapes : ∀ p : (List Int × Unit), okV ((fun p : (List Int × Unit) => yr_FlowShapes p.1) p) = true := by intro p; rfl
noncomputable def yp_FlowShapes {X : Ctx} {w0 : World} : Sy.Spec Try.prog X w0 := specR 3 Try.call3 (ahS (cSl rBy) ah0) (fun p : (List Int × Unit) => yc_FlowShapes p.1) (fun p : (List Int × Unit) => yr_FlowShapes p.1) yh_FlowShapes y_FlowShapes
end Go.Proofs.Ytiipmaoonnjlpaa
