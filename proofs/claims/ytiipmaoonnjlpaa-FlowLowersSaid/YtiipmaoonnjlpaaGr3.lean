/- The ways back, walked, and their reference. No conditions but those in each statement. -/
import Derived.Test.YtiipmaoonnjlpaaGr2
set_option linter.unusedVariables false
set_option linter.unusedSimpArgs false
namespace Go.Proofs.Ytiipmaoonnjlpaa
open Go Go.Sy Go.RowKit
def prC : List Int → C
  | [] => .v (.slice none 0 0)
  | x :: l => .ov zIn ((x :: l).map inC)
def prR (l : List Int) : List C := [prC l]
def zPc : List C := [.v (.slice none 0 0)]
theorem yar_sl : tArr Try.prog 40 = none := by kernel_rfl
theorem pr_gcd (p : List (List Int)) (k : Nat) : (p.map prR).getD k zPc = [prC (p.getD k [])] := by
  simp only [List.getD, List.getElem?_map]
  cases p[k]? <;> rfl
theorem prC_or (q : List Int) : prC q = .v (.slice none 0 0) ∨ prC q = .ov zIn (q.map inC) := by cases q <;> simp [prC]
theorem zPc_ln : zPc.length = 1 := rfl
theorem prC_nm (l : List Int) : C.names (prC l) = [] := by cases l <;> rfl
theorem prR_nm (l : List Int) : ∀ c ∈ prR l, C.names c = [] := by
  intro c hc
  simp only [prR, List.mem_singleton] at hc
  subst hc; exact prC_nm l
theorem prR_fn (p : List (List Int)) : List.flatMap (fun r => List.flatMap C.names r) (p.map prR) = [] := flN_of prR prR_nm p
theorem prR_td (l : List Int) : toDs (prR l) = some (prD l) := by
  cases l with
  | nil => rfl
  | cons x l =>
    show toDs [.ov zIn ((x :: l).map inC)] = some [.sl zID ((x :: l).map inD)]
    simp only [toDs, toD, zIn_td, rowsI.ds]
theorem prR_ds (p : List (List Int)) : toDss (p.map prR) = some (p.map prD) := toDss_of prR prR_td p
theorem prR_fz (k : Nat) (z : List D) (es : List (List D)) (p : List (List Int)) : (p.map prR).map (fun r => r.map (fzC k z es)) = p.map prR := map_of prR (fun l => by cases l <;> rfl) p
theorem prR_rep (n : Nat) : List.replicate n [C.v (.slice none 0 0)] = (List.replicate n ([] : List Int)).map prR := by rw [List.map_replicate]; rfl
theorem zPc_td : toDs zPc = some zPp := rfl
theorem pr_gc {p : List (List Int)} {k : Nat} {q : List Int} (h : p[k]? = some q) (z : List C) : (p.map prR).getD k z = [prC q] := by simp [List.getD, h, prR]
theorem pr_sq {p : List (List Int)} {k : Nat} {q : List Int} (h : p[k]? = some q) (r : List C) : ((p.map prR).set k r)[k]? = some r := by
  have hi : k < p.length := (List.getElem?_eq_some_iff.1 h).1
  simp [hi]
theorem pr_sg {p : List (List Int)} {k : Nat} {q : List Int} (h : p[k]? = some q) (r z : List C) : ((p.map prR).set k r).getD k z = r := by
  have hi : k < p.length := (List.getElem?_eq_some_iff.1 h).1
  simp [List.getD, hi]
theorem prC_ne {q : List Int} (h : q ≠ []) : prC q = .ov zIn (q.map inC) := by cases q with
  | nil => exact absurd rfl h
  | cons x l => rfl
theorem pr_set1 (p : List (List Int)) (k : Nat) (i : Int) : (p.map prR).set k [.ov [.v (.int .i64 0)] [[.v (.int .i64 i)]]] = (p.set k [i]).map prR := by rw [List.map_set]; rfl
theorem pr_set2 (p : List (List Int)) (k : Nat) (q : List Int) (i : Int) : (p.map prR).set k [.ov zIn (q.map inC ++ [[.v (.int .i64 i)]])] = (p.set k (q ++ [i])).map prR := by
  rw [List.map_set, show prR (q ++ [i]) = [.ov zIn ((q ++ [i]).map inC)] from by unfold prR; rw [prC_ne (by simp)], List.map_append]; rfl
def prN (i : Int) (q : List Int) : Bool := q.isEmpty || (q.getD (q.length - 1) 0 != i)
def prS (i s : Int) (p : List (List Int)) : List (List Int) :=
  if decide (s < 0) = true then p else if decide ((p.length : Int) ≤ s) = true then p
  else if prN i (p.getD s.toNat []) = true then p.set s.toNat (p.getD s.toNat [] ++ [i]) else p
def prI (i : Int) : List Int → List (List Int) → List (List Int)
  | [], p => p
  | s :: r, p => prI i r (prS i s p)
def prL : Nat → List Gq → List (List Int) → List (List Int)
  | _, [], p => p
  | i, x :: r, p => prL (i + 1) r (prI i x.nx p)
/-- the ways back -/
def prF (g : List Gq) : List (List Int) := prL 0 g (List.replicate g.length [])
theorem prS_len (i s : Int) (p : List (List Int)) : (prS i s p).length = p.length := by
  unfold prS
  split
  · rfl
  split
  · rfl
  split
  · simp
  · rfl
theorem prS_row {i s : Int} {p : List (List Int)} {n : Nat} (h : ∀ q ∈ p, q.length ≤ n) : ∀ q ∈ prS i s p, q.length ≤ n + 1 := by
  intro q hq
  unfold prS at hq
  split at hq
  · exact Nat.le_succ_of_le (h q hq)
  split at hq
  · exact Nat.le_succ_of_le (h q hq)
  split at hq
  · rename_i h1 h2 h3
    rcases List.mem_or_eq_of_mem_set hq with h4 | rfl
    · exact Nat.le_succ_of_le (h q h4)
    · have hi : s.toNat < p.length := by simp only [decide_eq_true_eq] at h1 h2; omega
      have := h (p.getD s.toNat []) (by simp [List.getD, hi])
      simp only [List.length_append, List.length_cons, List.length_nil]; omega
  · exact Nat.le_succ_of_le (h q hq)
abbrev prB (l : List (List Int)) : SV := .one (.d (.sl zPp (l.map prD)))
abbrev yc_Preds (g : List Gq) : Prop := okG g
abbrev yr_Preds (g : List Gq) : SV := prB (prF g)
noncomputable abbrev ya_Preds : ArgC ((List Gq) × Unit) := (acS (cGr) ac0)
abbrev yq_Preds : Prop := CallsY Try.prog 21 ya_Preds (fun p : (List Gq) × Unit => yc_Preds p.1) (fun p : (List Gq) × Unit => yr_Preds p.1)
theorem yn_Preds : ∀ p : (List Gq) × Unit, ((fun p : (List Gq) × Unit => yr_Preds p.1) p).names = [] := by intro p; first | rfl | exact ex_names _ | exact cd_names _
set_option maxRecDepth 20000 in set_option maxHeartbeats 8000000 in
theorem y_Preds : yq_Preds := by
  rintro ⟨g, _u⟩ w fz xs hc hfz hl hx
  refine calls_toL Try.func21 rfl w fz [] [] ya_Preds (fun p : (List Gq) × Unit => yr_Preds p.1) _ xs hfz hl hx (Nat.le_of_ble_eq_true rfl) ?_
  clear hx hl hfz xs
  simp only [Try.f21]
  obtain ⟨hc1, hc2⟩ := hc
  dsimp only at hc1 hc2
  simp only [↓eB, seval, go_sem, cGr_e, cGr_d, Gq.r, zID_ln, zND_ln, zIn_ln, zPc_ln, yar_sl, ↓oD_stor, ↓oD_names, ↓oD_noVw, ↓oD_flat, ↓oD_mv, ↓oD_ldc]
  refine ⟨⟨by omega, by omega⟩, ?_⟩
  refine loop_ok (Y := Nat × List (List Int)) (fun y => y.1 ≤ g.length ∧ y.2.length = g.length ∧ (∀ q ∈ y.2, q.length ≤ y.1 * 1000000) ∧ prL y.1 (g.drop y.1) y.2 = prF g)
    (fun y => ⟨[(14, true, .one (.d (.sl zND (g.map Gq.r)))), (15, true, .one (.v (.int .i64 (g.length : Int)))), (16, true, .one (.v (.int .i64 (y.1 : Int)))), (3, true, .one (.s 12))], [(12, .vec 0 zPc (y.2.map prR))]⟩)
    (fun y => g.length - y.1) (0, List.replicate g.length []) ⟨Nat.zero_le _, by simp, by intro q hq; rw [(List.mem_replicate.1 hq).2]; exact Nat.zero_le _, rfl⟩ ?_ ?_
  · refine to_with [] ?_; simp only [↓eB, seval, go_sem, zND, zPc, prR_rep, prR_fn]
  · rintro ⟨i, p⟩ ⟨j1, j2, j3, j4⟩
    refine vc_ok [] [] _ _ _ ?_
    dsimp only at j1 j2 j3 j4
    cases hx : g[i]? with
    | none =>
      have hi2 : g.length ≤ i := List.getElem?_eq_none_iff.1 hx
      have h1 := natI_ge hi2
      rw [List.drop_eq_nil_of_le hi2] at j4
      simp only [prL] at j4
      simp only [↓eB, seval, go_sem, cGr_e, cGr_d, Gq.r, zID_ln, zND_ln, zIn_ln, zPc_ln, yar_sl, ↓oD_stor, ↓oD_names, ↓oD_noVw, ↓oD_flat, ↓oD_mv, ↓oD_ldc, h1]
      refine ret_with [.fz 12] ?_; simp only [↓eB, seval, go_sem, bne, yr_Preds, prB, ← j4, zPc_td, prR_ds, prR_fz, prR_fn]
    | some x =>
      have hlt : i < g.length := (List.getElem?_eq_some_iff.1 hx).1
      have hnx := hc2 x (List.mem_of_getElem? hx)
      have h1 := natI_lt hlt
      have h2 := natI_ltp hlt
      have h3 := gq_at hx
      have h4 := natI_succ j1 (by omega)
      rw [drop_get hx] at j4
      obtain ⟨c0, c1, c2, c3, c4, c5, c6, c7, c8, c9, ca, nx, hh⟩ := x
      simp only [prL] at j4
      dsimp only at hnx
      simp only [↓eB, seval, go_sem, cGr_e, cGr_d, Gq.r, zID_ln, zND_ln, zIn_ln, zPc_ln, yar_sl, ↓oD_stor, ↓oD_names, ↓oD_noVw, ↓oD_flat, ↓oD_mv, ↓oD_ldc, h1, h2, h3]
      repeat' (first | exact ck | with_reducible apply And.intro)
      all_goals try first | exact hlt | exact natI_le _
      refine loop_ok (Y := Nat × List (List Int)) (fun y => y.1 ≤ nx.length ∧ y.2.length = g.length ∧ (∀ q ∈ y.2, q.length ≤ i * 1000000 + y.1) ∧ prL (i + 1) (g.drop (i + 1)) (prI i (nx.drop y.1) y.2) = prF g)
        (fun y => ⟨[(14, true, .one (.d (.sl zND (g.map Gq.r)))), (15, true, .one (.v (.int .i64 (g.length : Int)))), (16, true, .one (.v (.int .i64 (i : Int)))), (3, true, .one (.s 12)), (4, true, .one (.v (.int .i64 (i : Int)))), (22, true, .one (.d (.sl zID (nx.map inD)))), (23, true, .one (.v (.int .i64 (nx.length : Int)))), (24, true, .one (.v (.int .i64 (y.1 : Int))))], [(12, .vec 0 zPc (y.2.map prR))]⟩)
        (fun y => nx.length - y.1) (0, p) ⟨Nat.zero_le _, j2, fun q hq => Nat.le_trans (j3 q hq) (Nat.le_add_right _ _), j4⟩ ?_ ?_
      · refine to_with [] ?_; simp only [↓eB, seval, go_sem, zND, zID, zPc, prR_fn, ↓oD_stor, ↓oD_names, ↓oD_noVw, ↓oD_flat, ↓oD_mv, ↓oD_ldc]
      · rintro ⟨j, p⟩ ⟨k1, k2, k3, k4⟩
        refine vc_ok [] [] _ _ _ ?_
        dsimp only at k1 k2 k3 k4
        cases hy : nx[j]? with
        | none =>
          have hi2 : nx.length ≤ j := List.getElem?_eq_none_iff.1 hy
          have h5 := natI_ge hi2
          rw [List.drop_eq_nil_of_le hi2] at k4
          simp only [prI] at k4
          simp only [↓eB, seval, go_sem, cGr_e, cGr_d, Gq.r, zID_ln, zND_ln, zIn_ln, zPc_ln, yar_sl, ↓oD_stor, ↓oD_names, ↓oD_noVw, ↓oD_flat, ↓oD_mv, ↓oD_ldc, h1, h2, h3, h4, h5]
          try simp only [impB, impN]
          repeat' first | exact ck | with_reducible apply And.intro | intro _
          all_goals try first | exact hlt | (rename_i h; first | exact oI h | exact nah h) | (rename_i _ h _ g; exact sL h g) | decide | omega
          refine ⟨(i + 1, p), ⟨hlt, k2, fun q hq => by have := k3 q hq; dsimp only; omega, k4⟩, by dsimp only; omega, to_with [] ?_⟩
          simp only [↓eB, seval, go_sem, prR_fn, ↓oD_stor, ↓oD_names, ↓oD_noVw, ↓oD_flat, ↓oD_mv, ↓oD_ldc, zND, zPc]
        | some s =>
          have hlj : j < nx.length := (List.getElem?_eq_some_iff.1 hy).1
          have h5 := natI_lt hlj
          have h6 := natI_ltp hlj
          have h7 := in_at hy
          have h8 := natI_succ k1 (by omega)
          rw [drop_get hy] at k4
          simp only [prI] at k4
          cases s0 : decide (s < 0) with
          | true =>
            have hs0 := of_decide_eq_true s0
            have s0' : decide (0 ≤ s) = false := by simp; omega
            have hr : prS i s p = p := by simp only [prS]; rw [if_pos s0]
            rw [hr] at k4
            have l0 := pr_gcd p s.toNat
            rcases prC_or (p.getD s.toNat []) with hq | hq
            all_goals
              rw [hq] at l0
              simp only [↓eB, seval, go_sem, cGr_e, cGr_d, Gq.r, zID_ln, zND_ln, zIn_ln, zPc_ln, yar_sl, ↓oD_stor, ↓oD_names, ↓oD_noVw, ↓oD_flat, ↓oD_mv, ↓oD_ldc, h1, h2, h3, h4, h5, h6, h7, h8, k2, s0, s0', l0, in_gc]
              try simp only [impB, impN]
              repeat' first | exact ck | with_reducible apply And.intro | intro _
              all_goals try first | exact hlt | exact hlj | (rename_i h; first | exact oI h | exact nah h) | (rename_i _ h _ g; exact sL h g) | decide | omega
              refine ⟨(j + 1, p), ⟨hlj, by exact k2, by intro q hq; have := k3 q hq; dsimp only; omega, k4⟩, by dsimp only; omega, to_with [] ?_⟩
              simp only [↓eB, seval, go_sem, prR_fn, ↓oD_stor, ↓oD_names, ↓oD_noVw, ↓oD_flat, ↓oD_mv, ↓oD_ldc, zND, zID, zPc]
          | false =>
          have hs0 := of_decide_eq_false s0
          have s0' : decide (0 ≤ s) = true := by simp; omega
          cases s1 : decide ((p.length : Int) ≤ s) with
          | true =>
            have hs1 := of_decide_eq_true s1
            have s1' : decide (s < (g.length : Int)) = false := by simp; omega
            have s2' : decide ((g.length : Int) ≤ s) = true := by simp; omega
            have hr : prS i s p = p := by simp only [prS]; rw [if_neg (by rw [s0]; decide), if_pos s1]
            rw [hr] at k4
            have l0 := pr_gcd p s.toNat
            rcases prC_or (p.getD s.toNat []) with hq | hq
            all_goals
              rw [hq] at l0
              simp only [↓eB, seval, go_sem, cGr_e, cGr_d, Gq.r, zID_ln, zND_ln, zIn_ln, zPc_ln, yar_sl, ↓oD_stor, ↓oD_names, ↓oD_noVw, ↓oD_flat, ↓oD_mv, ↓oD_ldc, h1, h2, h3, h4, h5, h6, h7, h8, k2, s0, s0', s1, s1', s2', l0, in_gc]
              try simp only [impB, impN]
              repeat' first | exact ck | with_reducible apply And.intro | intro _
              all_goals try first | exact hlt | exact hlj | (rename_i h; first | exact oI h | exact nah h) | (rename_i _ h _ g; exact sL h g) | decide | omega
              refine ⟨(j + 1, p), ⟨hlj, by exact k2, by intro q hq; have := k3 q hq; dsimp only; omega, k4⟩, by dsimp only; omega, to_with [] ?_⟩
              simp only [↓eB, seval, go_sem, prR_fn, ↓oD_stor, ↓oD_names, ↓oD_noVw, ↓oD_flat, ↓oD_mv, ↓oD_ldc, zND, zID, zPc]
          | false =>
          have hs1 := of_decide_eq_false s1
          have s1' : decide (s < (g.length : Int)) = true := by simp; omega
          have s2' : decide ((g.length : Int) ≤ s) = false := by simp; omega
          have hk : s.toNat < p.length := by omega
          obtain ⟨q, hq⟩ : ∃ q, p[s.toNat]? = some q := ⟨_, List.getElem?_eq_getElem hk⟩
          have hqd : p.getD s.toNat [] = q := by simp [List.getD, hq]
          have hql := k3 q (List.mem_of_getElem? hq)
          have l1 := pr_gc hq
          have l2 := pr_sq hq
          have l3 := pr_sg hq
          have hS : prS i s p = if prN i q = true then p.set s.toNat (q ++ [(i : Int)]) else p := by simp only [prS]; rw [if_neg (by rw [s0]; decide), if_neg (by rw [s1]; decide), hqd]
          have g1 : 0 ≤ s := by omega
          have g2 : s < (p.length : Int) := by omega
          have g3 : s < (g.length : Int) := by omega
          rw [hS] at k4
          have hrow : ∀ q' ∈ p.set s.toNat (q ++ [(i : Int)]), q'.length ≤ i * 1000000 + (j + 1) := by
            intro q' hq'
            rcases List.mem_or_eq_of_mem_set hq' with h | rfl
            · have := k3 q' h; omega
            · simp only [List.length_append, List.length_cons, List.length_nil]; omega
          by_cases hq0 : q = []
          · subst hq0
            have hr : prN (i : Int) [] = true := rfl
            rw [if_pos hr] at k4
            have l1' : ∀ z, (p.map prR).getD s.toNat z = [.v (.slice none 0 0)] := l1
            simp only [↓eB, seval, go_sem, cGr_e, cGr_d, Gq.r, zID_ln, zND_ln, zIn_ln, zPc_ln, yar_sl, ↓oD_stor, ↓oD_names, ↓oD_noVw, ↓oD_flat, ↓oD_mv, ↓oD_ldc, h1, h2, h3, h4, h5, h6, h7, h8, k2, s0, s0', s1, s1', s2', l1']
            try simp only [impB, impN]
            repeat' first | exact ck | with_reducible apply And.intro | intro _
            all_goals try first | exact hlt | exact hlj | exact g1 | exact g2 | exact g3 | (rename_i h; first | exact oI h | exact nah h) | (rename_i _ h _ g; exact sL h g) | decide | omega
            refine ⟨(j + 1, p.set s.toNat [(i : Int)]), ⟨hlj, by simp [k2], by exact hrow, k4⟩, by dsimp only; omega, to_with [.fold 12 s.toNat 0] ?_⟩
            simp only [↓eB, seval, go_sem, prR_fn, ↓oD_stor, ↓oD_names, ↓oD_noVw, ↓oD_flat, ↓oD_mv, ↓oD_ldc, zND, zID, zPc, l2, l3, pr_set1, List.set_set, List.isEmpty_nil]
          · have hqc := prC_ne hq0
            have hlen : 0 < q.length := by cases q with
              | nil => exact absurd rfl hq0
              | cons a l => simp
            have m1 := wr_sub (n := q.length) (by omega) hlen
            have m2 : ((q.length : Int) == 0) = false := by rw [beq_eq_false_iff_ne]; omega
            have m3 : ((q.length - 1 : Nat) : Int) < (q.length : Int) := by omega
            have m4 : q.isEmpty = false := by cases q with
              | nil => exact absurd rfl hq0
              | cons a l => rfl
            rw [hqc] at l1
            cases hn : (q.getD (q.length - 1) 0 != (i : Int)) with
            | true =>
              have hr : prN (i : Int) q = true := by simp only [prN, m4, hn, Bool.false_or]
              rw [if_pos hr] at k4
              simp only [↓eB, seval, go_sem, cGr_e, cGr_d, Gq.r, zID_ln, zND_ln, zIn_ln, zPc_ln, yar_sl, ↓oD_stor, ↓oD_names, ↓oD_noVw, ↓oD_flat, ↓oD_mv, ↓oD_ldc, h1, h2, h3, h4, h5, h6, h7, h8, k2, s0, s0', s1, s1', s2', l1, m1, m2, in_gc, hn]
              try simp only [impB, impN]
              repeat' first | exact ck | with_reducible apply And.intro | intro _
              all_goals try first | exact hlt | exact hlj | exact g1 | exact g2 | exact g3 | exact m3 | (rename_i h; first | exact oI h | exact nah h) | (rename_i _ h _ g; exact sL h g) | decide | omega
              refine ⟨(j + 1, p.set s.toNat (q ++ [(i : Int)])), ⟨hlj, by simp [k2], by exact hrow, k4⟩, by dsimp only; omega, to_with [.fold 12 s.toNat 0] ?_⟩
              simp only [↓eB, seval, go_sem, prR_fn, ↓oD_stor, ↓oD_names, ↓oD_noVw, ↓oD_flat, ↓oD_mv, ↓oD_ldc, zND, zID, zPc, l2, l3, pr_set2, List.set_set, List.all_append, in_all, List.isEmpty_nil]
            | false =>
              have hr : prN (i : Int) q = false := by simp only [prN, m4, hn, Bool.false_or]
              rw [if_neg (by rw [hr]; decide)] at k4
              simp only [↓eB, seval, go_sem, cGr_e, cGr_d, Gq.r, zID_ln, zND_ln, zIn_ln, zPc_ln, yar_sl, ↓oD_stor, ↓oD_names, ↓oD_noVw, ↓oD_flat, ↓oD_mv, ↓oD_ldc, h1, h2, h3, h4, h5, h6, h7, h8, k2, s0, s0', s1, s1', s2', l1, m1, m2, in_gc, hn]
              try simp only [impB, impN]
              repeat' first | exact ck | with_reducible apply And.intro | intro _
              all_goals try first | exact hlt | exact hlj | exact g1 | exact g2 | exact g3 | exact m3 | (rename_i h; first | exact oI h | exact nah h) | (rename_i _ h _ g; exact sL h g) | decide | omega
              refine ⟨(j + 1, p), ⟨hlj, by exact k2, by intro q hq; have := k3 q hq; dsimp only; omega, k4⟩, by dsimp only; omega, to_with [] ?_⟩
              simp only [↓eB, seval, go_sem, prR_fn, ↓oD_stor, ↓oD_names, ↓oD_noVw, ↓oD_flat, ↓oD_mv, ↓oD_ldc, zND, zID, zPc]
noncomputable def yp_Preds {X : Ctx} {w0 : World} : Sy.Spec Try.prog X w0 := specD 21 Try.call21 ya_Preds (fun p : (List Gq) × Unit => yc_Preds p.1) (fun p : (List Gq) × Unit => yr_Preds p.1) yn_Preds y_Preds
abbrev yc_rPreds (g : List Gq) : Prop := okG g
abbrev yr_rPreds (g : List Gq) : SV := prB (prF g)
noncomputable abbrev ya_rPreds : ArgC ((List Gq) × Unit) := (acS (cGr) ac0)
abbrev yq_rPreds : Prop := CallsY Try.prog 22 ya_rPreds (fun p : (List Gq) × Unit => yc_rPreds p.1) (fun p : (List Gq) × Unit => yr_rPreds p.1)
theorem yn_rPreds : ∀ p : (List Gq) × Unit, ((fun p : (List Gq) × Unit => yr_rPreds p.1) p).names = [] := by intro p; first | rfl | exact ex_names _ | exact cd_names _
set_option maxRecDepth 20000 in set_option maxHeartbeats 8000000 in
theorem y_rPreds : yq_rPreds := by
  rintro ⟨g, _u⟩ w fz xs hc hfz hl hx
  refine calls_toL Try.func22 rfl w fz [] [] ya_rPreds (fun p : (List Gq) × Unit => yr_rPreds p.1) _ xs hfz hl hx (Nat.le_of_ble_eq_true rfl) ?_
  clear hx hl hfz xs
  simp only [Try.f22]
  obtain ⟨hc1, hc2⟩ := hc
  dsimp only at hc1 hc2
  simp only [↓eB, seval, go_sem, cGr_e, cGr_d, Gq.r, zID_ln, zND_ln, zIn_ln, zPc_ln, yar_sl, ↓oD_stor, ↓oD_names, ↓oD_noVw, ↓oD_flat, ↓oD_mv, ↓oD_ldc]
  refine ⟨⟨by omega, by omega⟩, ?_⟩
  refine loop_ok (Y := Nat × List (List Int)) (fun y => y.1 ≤ g.length ∧ y.2.length = g.length ∧ (∀ q ∈ y.2, q.length ≤ y.1 * 1000000) ∧ prL y.1 (g.drop y.1) y.2 = prF g)
    (fun y => ⟨[(1, true, .one (.p 1 0 0)), (4, true, .one (.v (.int .i64 (y.1 : Int)))), (3, true, .one (.s 10))], [(1, .vec 0 [.v (.bool false)] [[.d (.sl zND (g.map Gq.r))]]), (10, .vec 0 zPc (y.2.map prR))]⟩)
    (fun y => g.length - y.1) (0, List.replicate g.length []) ⟨Nat.zero_le _, by simp, by intro q hq; rw [(List.mem_replicate.1 hq).2]; exact Nat.zero_le _, rfl⟩ ?_ ?_
  · refine to_with [] ?_; simp only [↓eB, seval, go_sem, zND, zPc, prR_rep, prR_fn]
  · rintro ⟨i, p⟩ ⟨j1, j2, j3, j4⟩
    refine vc_ok [] [] _ _ _ ?_
    dsimp only at j1 j2 j3 j4
    cases hx : g[i]? with
    | none =>
      have hi2 : g.length ≤ i := List.getElem?_eq_none_iff.1 hx
      have h1 := natI_ge hi2
      rw [List.drop_eq_nil_of_le hi2] at j4
      simp only [prL] at j4
      simp only [↓eB, seval, go_sem, cGr_e, cGr_d, Gq.r, zID_ln, zND_ln, zIn_ln, zPc_ln, yar_sl, ↓oD_stor, ↓oD_names, ↓oD_noVw, ↓oD_flat, ↓oD_mv, ↓oD_ldc, h1]
      refine ret_with [.fz 10] ?_; simp only [↓eB, seval, go_sem, bne, yr_rPreds, prB, ← j4, zPc_td, prR_ds, prR_fz, prR_fn]
    | some x =>
      have hlt : i < g.length := (List.getElem?_eq_some_iff.1 hx).1
      have hnx := hc2 x (List.mem_of_getElem? hx)
      have h1 := natI_lt hlt
      have h2 := natI_ltp hlt
      have h3 := gq_at hx
      have h4 := natI_succ j1 (by omega)
      rw [drop_get hx] at j4
      obtain ⟨c0, c1, c2, c3, c4, c5, c6, c7, c8, c9, ca, nx, hh⟩ := x
      simp only [prL] at j4
      dsimp only at hnx
      simp only [↓eB, seval, go_sem, cGr_e, cGr_d, Gq.r, zID_ln, zND_ln, zIn_ln, zPc_ln, yar_sl, ↓oD_stor, ↓oD_names, ↓oD_noVw, ↓oD_flat, ↓oD_mv, ↓oD_ldc, h1, h2, h3]
      repeat' (first | exact ck | with_reducible apply And.intro)
      all_goals try first | exact hlt | exact natI_le _
      refine loop_ok (Y := Nat × List (List Int)) (fun y => y.1 ≤ nx.length ∧ y.2.length = g.length ∧ (∀ q ∈ y.2, q.length ≤ i * 1000000 + y.1) ∧ prL (i + 1) (g.drop (i + 1)) (prI i (nx.drop y.1) y.2) = prF g)
        (fun y => ⟨[(1, true, .one (.p 1 0 0)), (4, true, .one (.v (.int .i64 (i : Int)))), (3, true, .one (.s 10)), (5, true, .one (.v (.int .i64 (y.1 : Int))))], [(1, .vec 0 [.v (.bool false)] [[.d (.sl zND (g.map Gq.r))]]), (10, .vec 0 zPc (y.2.map prR))]⟩)
        (fun y => nx.length - y.1) (0, p) ⟨Nat.zero_le _, j2, fun q hq => Nat.le_trans (j3 q hq) (Nat.le_add_right _ _), j4⟩ ?_ ?_
      · refine to_with [] ?_; simp only [↓eB, seval, go_sem, zND, zID, zPc, prR_fn, ↓oD_stor, ↓oD_names, ↓oD_noVw, ↓oD_flat, ↓oD_mv, ↓oD_ldc]
      · rintro ⟨j, p⟩ ⟨k1, k2, k3, k4⟩
        refine vc_ok [] [] _ _ _ ?_
        dsimp only at k1 k2 k3 k4
        cases hy : nx[j]? with
        | none =>
          have hi2 : nx.length ≤ j := List.getElem?_eq_none_iff.1 hy
          have h5 := natI_ge hi2
          rw [List.drop_eq_nil_of_le hi2] at k4
          simp only [prI] at k4
          simp only [↓eB, seval, go_sem, cGr_e, cGr_d, Gq.r, zID_ln, zND_ln, zIn_ln, zPc_ln, yar_sl, ↓oD_stor, ↓oD_names, ↓oD_noVw, ↓oD_flat, ↓oD_mv, ↓oD_ldc, h1, h2, h3, h4, h5]
          try simp only [impB, impN]
          repeat' first | exact ck | with_reducible apply And.intro | intro _
          all_goals try first | exact hlt | (rename_i h; first | exact oI h | exact nah h) | (rename_i _ h _ g; exact sL h g) | decide | omega
          refine ⟨(i + 1, p), ⟨hlt, k2, fun q hq => by have := k3 q hq; dsimp only; omega, k4⟩, by dsimp only; omega, to_with [] ?_⟩
          simp only [↓eB, seval, go_sem, prR_fn, ↓oD_stor, ↓oD_names, ↓oD_noVw, ↓oD_flat, ↓oD_mv, ↓oD_ldc, zND, zPc]
        | some s =>
          have hlj : j < nx.length := (List.getElem?_eq_some_iff.1 hy).1
          have h5 := natI_lt hlj
          have h6 := natI_ltp hlj
          have h7 := in_at hy
          have h8 := natI_succ k1 (by omega)
          rw [drop_get hy] at k4
          simp only [prI] at k4
          cases s0 : decide (s < 0) with
          | true =>
            have hs0 := of_decide_eq_true s0
            have s0' : decide (0 ≤ s) = false := by simp; omega
            have hr : prS i s p = p := by simp only [prS]; rw [if_pos s0]
            rw [hr] at k4
            have l0 := pr_gcd p s.toNat
            rcases prC_or (p.getD s.toNat []) with hq | hq
            all_goals
              rw [hq] at l0
              simp only [↓eB, seval, go_sem, cGr_e, cGr_d, Gq.r, zID_ln, zND_ln, zIn_ln, zPc_ln, yar_sl, ↓oD_stor, ↓oD_names, ↓oD_noVw, ↓oD_flat, ↓oD_mv, ↓oD_ldc, h1, h2, h3, h4, h5, h6, h7, h8, k2, s0, s0', l0, in_gc]
              try simp only [impB, impN]
              repeat' first | exact ck | with_reducible apply And.intro | intro _
              all_goals try first | exact hlt | exact hlj | (rename_i h; first | exact oI h | exact nah h) | (rename_i _ h _ g; exact sL h g) | decide | omega
              refine ⟨(j + 1, p), ⟨hlj, by exact k2, by intro q hq; have := k3 q hq; dsimp only; omega, k4⟩, by dsimp only; omega, to_with [] ?_⟩
              simp only [↓eB, seval, go_sem, prR_fn, ↓oD_stor, ↓oD_names, ↓oD_noVw, ↓oD_flat, ↓oD_mv, ↓oD_ldc, zND, zID, zPc]
          | false =>
          have hs0 := of_decide_eq_false s0
          have s0' : decide (0 ≤ s) = true := by simp; omega
          cases s1 : decide ((p.length : Int) ≤ s) with
          | true =>
            have hs1 := of_decide_eq_true s1
            have s1' : decide (s < (g.length : Int)) = false := by simp; omega
            have s2' : decide ((g.length : Int) ≤ s) = true := by simp; omega
            have hr : prS i s p = p := by simp only [prS]; rw [if_neg (by rw [s0]; decide), if_pos s1]
            rw [hr] at k4
            have l0 := pr_gcd p s.toNat
            rcases prC_or (p.getD s.toNat []) with hq | hq
            all_goals
              rw [hq] at l0
              simp only [↓eB, seval, go_sem, cGr_e, cGr_d, Gq.r, zID_ln, zND_ln, zIn_ln, zPc_ln, yar_sl, ↓oD_stor, ↓oD_names, ↓oD_noVw, ↓oD_flat, ↓oD_mv, ↓oD_ldc, h1, h2, h3, h4, h5, h6, h7, h8, k2, s0, s0', s1, s1', s2', l0, in_gc]
              try simp only [impB, impN]
              repeat' first | exact ck | with_reducible apply And.intro | intro _
              all_goals try first | exact hlt | exact hlj | (rename_i h; first | exact oI h | exact nah h) | (rename_i _ h _ g; exact sL h g) | decide | omega
              refine ⟨(j + 1, p), ⟨hlj, by exact k2, by intro q hq; have := k3 q hq; dsimp only; omega, k4⟩, by dsimp only; omega, to_with [] ?_⟩
              simp only [↓eB, seval, go_sem, prR_fn, ↓oD_stor, ↓oD_names, ↓oD_noVw, ↓oD_flat, ↓oD_mv, ↓oD_ldc, zND, zID, zPc]
          | false =>
          have hs1 := of_decide_eq_false s1
          have s1' : decide (s < (g.length : Int)) = true := by simp; omega
          have s2' : decide ((g.length : Int) ≤ s) = false := by simp; omega
          have hk : s.toNat < p.length := by omega
          obtain ⟨q, hq⟩ : ∃ q, p[s.toNat]? = some q := ⟨_, List.getElem?_eq_getElem hk⟩
          have hqd : p.getD s.toNat [] = q := by simp [List.getD, hq]
          have hql := k3 q (List.mem_of_getElem? hq)
          have l1 := pr_gc hq
          have l2 := pr_sq hq
          have l3 := pr_sg hq
          have hS : prS i s p = if prN i q = true then p.set s.toNat (q ++ [(i : Int)]) else p := by simp only [prS]; rw [if_neg (by rw [s0]; decide), if_neg (by rw [s1]; decide), hqd]
          have g1 : 0 ≤ s := by omega
          have g2 : s < (p.length : Int) := by omega
          have g3 : s < (g.length : Int) := by omega
          rw [hS] at k4
          have hrow : ∀ q' ∈ p.set s.toNat (q ++ [(i : Int)]), q'.length ≤ i * 1000000 + (j + 1) := by
            intro q' hq'
            rcases List.mem_or_eq_of_mem_set hq' with h | rfl
            · have := k3 q' h; omega
            · simp only [List.length_append, List.length_cons, List.length_nil]; omega
          by_cases hq0 : q = []
          · subst hq0
            have hr : prN (i : Int) [] = true := rfl
            rw [if_pos hr] at k4
            have l1' : ∀ z, (p.map prR).getD s.toNat z = [.v (.slice none 0 0)] := l1
            simp only [↓eB, seval, go_sem, cGr_e, cGr_d, Gq.r, zID_ln, zND_ln, zIn_ln, zPc_ln, yar_sl, ↓oD_stor, ↓oD_names, ↓oD_noVw, ↓oD_flat, ↓oD_mv, ↓oD_ldc, h1, h2, h3, h4, h5, h6, h7, h8, k2, s0, s0', s1, s1', s2', l1']
            try simp only [impB, impN]
            repeat' first | exact ck | with_reducible apply And.intro | intro _
            all_goals try first | exact hlt | exact hlj | exact g1 | exact g2 | exact g3 | (rename_i h; first | exact oI h | exact nah h) | (rename_i _ h _ g; exact sL h g) | decide | omega
            refine ⟨(j + 1, p.set s.toNat [(i : Int)]), ⟨hlj, by simp [k2], by exact hrow, k4⟩, by dsimp only; omega, to_with [.fold 10 s.toNat 0] ?_⟩
            simp only [↓eB, seval, go_sem, prR_fn, ↓oD_stor, ↓oD_names, ↓oD_noVw, ↓oD_flat, ↓oD_mv, ↓oD_ldc, zND, zID, zPc, l2, l3, pr_set1, List.set_set, List.isEmpty_nil]
          · have hqc := prC_ne hq0
            have hlen : 0 < q.length := by cases q with
              | nil => exact absurd rfl hq0
              | cons a l => simp
            have m1 := wr_sub (n := q.length) (by omega) hlen
            have m2 : ((q.length : Int) == 0) = false := by rw [beq_eq_false_iff_ne]; omega
            have m3 : ((q.length - 1 : Nat) : Int) < (q.length : Int) := by omega
            have m4 : q.isEmpty = false := by cases q with
              | nil => exact absurd rfl hq0
              | cons a l => rfl
            rw [hqc] at l1
            cases hn : (q.getD (q.length - 1) 0 != (i : Int)) with
            | true =>
              have hr : prN (i : Int) q = true := by simp only [prN, m4, hn, Bool.false_or]
              rw [if_pos hr] at k4
              simp only [↓eB, seval, go_sem, cGr_e, cGr_d, Gq.r, zID_ln, zND_ln, zIn_ln, zPc_ln, yar_sl, ↓oD_stor, ↓oD_names, ↓oD_noVw, ↓oD_flat, ↓oD_mv, ↓oD_ldc, h1, h2, h3, h4, h5, h6, h7, h8, k2, s0, s0', s1, s1', s2', l1, m1, m2, in_gc, hn]
              try simp only [impB, impN]
              repeat' first | exact ck | with_reducible apply And.intro | intro _
              all_goals try first | exact hlt | exact hlj | exact g1 | exact g2 | exact g3 | exact m3 | (rename_i h; first | exact oI h | exact nah h) | (rename_i _ h _ g; exact sL h g) | decide | omega
              refine ⟨(j + 1, p.set s.toNat (q ++ [(i : Int)])), ⟨hlj, by simp [k2], by exact hrow, k4⟩, by dsimp only; omega, to_with [.fold 10 s.toNat 0] ?_⟩
              simp only [↓eB, seval, go_sem, prR_fn, ↓oD_stor, ↓oD_names, ↓oD_noVw, ↓oD_flat, ↓oD_mv, ↓oD_ldc, zND, zID, zPc, l2, l3, pr_set2, List.set_set, List.all_append, in_all, List.isEmpty_nil]
            | false =>
              have hr : prN (i : Int) q = false := by simp only [prN, m4, hn, Bool.false_or]
              rw [if_neg (by rw [hr]; decide)] at k4
              simp only [↓eB, seval, go_sem, cGr_e, cGr_d, Gq.r, zID_ln, zND_ln, zIn_ln, zPc_ln, yar_sl, ↓oD_stor, ↓oD_names, ↓oD_noVw, ↓oD_flat, ↓oD_mv, ↓oD_ldc, h1, h2, h3, h4, h5, h6, h7, h8, k2, s0, s0', s1, s1', s2', l1, m1, m2, in_gc, hn]
              try simp only [impB, impN]
              repeat' first | exact ck | with_reducible apply And.intro | intro _
              all_goals try first | exact hlt | exact hlj | exact g1 | exact g2 | exact g3 | exact m3 | (rename_i h; first | exact oI h | exact nah h) | (rename_i _ h _ g; exact sL h g) | decide | omega
              refine ⟨(j + 1, p), ⟨hlj, by exact k2, by intro q hq; have := k3 q hq; dsimp only; omega, k4⟩, by dsimp only; omega, to_with [] ?_⟩
              simp only [↓eB, seval, go_sem, prR_fn, ↓oD_stor, ↓oD_names, ↓oD_noVw, ↓oD_flat, ↓oD_mv, ↓oD_ldc, zND, zID, zPc]
noncomputable def yp_rPreds {X : Ctx} {w0 : World} : Sy.Spec Try.prog X w0 := specD 22 Try.call22 ya_rPreds (fun p : (List Gq) × Unit => yc_rPreds p.1) (fun p : (List Gq) × Unit => yr_rPreds p.1) yn_rPreds y_rPreds
end Go.Proofs.Ytiipmaoonnjlpaa
