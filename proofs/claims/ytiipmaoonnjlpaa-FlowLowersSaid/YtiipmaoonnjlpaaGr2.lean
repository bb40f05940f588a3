/- The heads of loops, walked, and their reference. No conditions but those in each statement. -/
import Derived.Test.YtiipmaoonnjlpaaGr1
set_option linter.unusedVariables false
set_option linter.unusedSimpArgs false
namespace Go.Proofs.Ytiipmaoonnjlpaa
open Go Go.Sy Go.RowKit
def hdF : Nat → List Gq → List Int
  | _, [] => []
  | i, x :: r => if x.h = true then (i : Int) :: hdF (i + 1) r else hdF (i + 1) r
theorem hdF_len : ∀ (i : Nat) (l : List Gq), (hdF i l).length ≤ l.length
  | _, [] => Nat.le_refl _
  | i, x :: r => by
    have := hdF_len (i + 1) r
    simp only [hdF]
    split <;> simp only [List.length_cons] <;> omega
abbrev inB (l : List Int) : SV := .one (.d (.sl zID (l.map inD)))
abbrev yc_Heads (g : List Gq) : Prop := g.length ≤ 1000000
abbrev yr_Heads (g : List Gq) : SV := inB (hdF 0 g)
noncomputable abbrev ya_Heads : ArgC ((List Gq) × Unit) := (acS (cGr) ac0)
abbrev yq_Heads : Prop := CallsY Try.prog 11 ya_Heads (fun p : (List Gq) × Unit => yc_Heads p.1) (fun p : (List Gq) × Unit => yr_Heads p.1)
theorem yn_Heads : ∀ p : (List Gq) × Unit, ((fun p : (List Gq) × Unit => yr_Heads p.1) p).names = [] := by intro p; first | rfl | exact ex_names _ | exact cd_names _
set_option maxRecDepth 20000 in set_option maxHeartbeats 4000000 in
theorem y_Heads : yq_Heads := by
  rintro ⟨g, _u⟩ w fz xs hc hfz hl hx
  refine calls_toL Try.func11 rfl w fz [] [] ya_Heads (fun p : (List Gq) × Unit => yr_Heads p.1) _ xs hfz hl hx (Nat.le_of_ble_eq_true rfl) ?_
  clear hx hl hfz xs
  simp only [Try.f11]
  have hc1 : g.length ≤ 1000000 := hc
  simp only [↓eB, seval, go_sem, cGr_e, cGr_d, Gq.r, zID_ln, zND_ln, ↓oD_stor, ↓oD_names, ↓oD_noVw, ↓oD_flat, ↓oD_mv, ↓oD_ldc]
  refine loop_ok (Y := Nat × List Int) (fun y => y.1 ≤ g.length ∧ y.2.length ≤ y.1 ∧ y.2 ++ hdF y.1 (g.drop y.1) = hdF 0 g)
    (fun y => ⟨[(7, true, .one (.d (.sl zND (g.map Gq.r)))), (8, true, .one (.v (.int .i64 (g.length : Int)))), (9, true, .one (.v (.int .i64 (y.1 : Int)))), (3, true, .one (.s 1000))], [(1000, .vec 0 zIn (y.2.map inC))]⟩)
    (fun y => g.length - y.1) (0, []) ⟨Nat.zero_le _, Nat.le_refl _, rfl⟩ ?_ ?_
  · refine to_with [.nil 3 1000 zIn] ?_; simp only [↓eB, seval, go_sem, zND]
  · rintro ⟨i, p⟩ ⟨j1, j2, j3⟩
    refine vc_ok [] [] _ _ _ ?_
    dsimp only at j1 j2 j3
    cases hx : g[i]? with
    | none =>
      have hi2 : g.length ≤ i := List.getElem?_eq_none_iff.1 hx
      have h1 := natI_ge hi2
      rw [List.drop_eq_nil_of_le hi2] at j3
      simp only [hdF, List.append_nil] at j3
      simp only [↓eB, seval, go_sem, cGr_e, cGr_d, Gq.r, zID_ln, zND_ln, ↓oD_stor, ↓oD_names, ↓oD_noVw, ↓oD_flat, ↓oD_mv, ↓oD_ldc, h1]
      refine ret_with [.fz 1000] ?_; simp only [↓eB, seval, go_sem, bne, yr_Heads, inB, ← j3, zIn, zID, rowsI.ds, rowsI.fz]
    | some x =>
      have hlt : i < g.length := (List.getElem?_eq_some_iff.1 hx).1
      have h1 := natI_lt hlt
      have h2 := natI_ltp hlt
      have h3 := gq_at hx
      have h4 := natI_succ j1 (by omega)
      rw [drop_get hx] at j3
      obtain ⟨c0, c1, c2, c3, c4, c5, c6, c7, c8, c9, ca, nx, hh⟩ := x
      simp only [hdF] at j3
      cases hh with
      | false =>
        simp only [Bool.false_eq_true, if_false] at j3
        simp only [↓eB, seval, go_sem, cGr_e, cGr_d, Gq.r, zID_ln, zND_ln, ↓oD_stor, ↓oD_names, ↓oD_noVw, ↓oD_flat, ↓oD_mv, ↓oD_ldc, h1, h2, h3, h4]
        try simp only [impB, impN]
        repeat' first | exact ck | with_reducible apply And.intro | intro _
        all_goals try first | exact hlt | (rename_i h; first | exact oI h | exact nah h) | (rename_i _ h _ g; exact sL h g) | decide | omega
        refine ⟨(i + 1, p), ⟨hlt, by dsimp only; omega, j3⟩, by dsimp only; omega, to_with [] ?_⟩
        simp only [↓eB, seval, go_sem, ↓oD_stor, ↓oD_names, ↓oD_noVw, ↓oD_flat, ↓oD_mv, ↓oD_ldc, rowsI.fn, zND]
      | true =>
        simp only [if_true] at j3
        simp only [↓eB, seval, go_sem, cGr_e, cGr_d, Gq.r, zID_ln, zND_ln, ↓oD_stor, ↓oD_names, ↓oD_noVw, ↓oD_flat, ↓oD_mv, ↓oD_ldc, h1, h2, h3, h4]
        try simp only [impB, impN]
        repeat' first | exact ck | with_reducible apply And.intro | intro _
        all_goals try first | exact hlt | (rename_i h; first | exact oI h | exact nah h) | (rename_i _ h _ g; exact sL h g) | decide | omega
        refine ⟨(i + 1, p ++ [(i : Int)]), ⟨hlt, by simp only [List.length_append, List.length_cons, List.length_nil]; omega, by rw [List.append_assoc]; exact j3⟩, by dsimp only; omega,
          to_trans (t := ⟨[(7, true, .one (.d (.sl zND (g.map Gq.r)))), (8, true, .one (.v (.int .i64 (g.length : Int)))), (9, true, .one (.v (.int .i64 ((i + 1 : Nat) : Int)))), (3, true, .one (.s 19))], [(19, .vec 0 zIn ((p ++ [(i : Int)]).map inC))]⟩) (to_with [] ?_) (to_with [.mv 19 1000] ?_)⟩
        · simp only [↓eB, seval, go_sem, ↓oD_stor, ↓oD_names, ↓oD_noVw, ↓oD_flat, ↓oD_mv, ↓oD_ldc, rowsI.fn, zND, zIn, List.flatMap_append, List.map_append, inC]
        · simp only [↓eB, seval, go_sem, ↓oD_stor, ↓oD_names, ↓oD_noVw, ↓oD_flat, ↓oD_mv, ↓oD_ldc, rowsI.fn, zND, zIn, rowsI.mv]
noncomputable def yp_Heads {X : Ctx} {w0 : World} : Sy.Spec Try.prog X w0 := specD 11 Try.call11 ya_Heads (fun p : (List Gq) × Unit => yc_Heads p.1) (fun p : (List Gq) × Unit => yr_Heads p.1) yn_Heads y_Heads
abbrev yc_rHeads (g : List Gq) : Prop := g.length ≤ 1000000
abbrev yr_rHeads (g : List Gq) : SV := inB (hdF 0 g)
noncomputable abbrev ya_rHeads : ArgC ((List Gq) × Unit) := (acS (cGr) ac0)
abbrev yq_rHeads : Prop := CallsY Try.prog 19 ya_rHeads (fun p : (List Gq) × Unit => yc_rHeads p.1) (fun p : (List Gq) × Unit => yr_rHeads p.1)
theorem yn_rHeads : ∀ p : (List Gq) × Unit, ((fun p : (List Gq) × Unit => yr_rHeads p.1) p).names = [] := by intro p; first | rfl | exact ex_names _ | exact cd_names _
set_option maxRecDepth 20000 in set_option maxHeartbeats 4000000 in
theorem y_rHeads : yq_rHeads := by
  rintro ⟨g, _u⟩ w fz xs hc hfz hl hx
  refine calls_toL Try.func19 rfl w fz [] [] ya_rHeads (fun p : (List Gq) × Unit => yr_rHeads p.1) _ xs hfz hl hx (Nat.le_of_ble_eq_true rfl) ?_
  clear hx hl hfz xs
  simp only [Try.f19]
  have hc1 : g.length ≤ 1000000 := hc
  simp only [↓eB, seval, go_sem, cGr_e, cGr_d, Gq.r, zID_ln, zND_ln, ↓oD_stor, ↓oD_names, ↓oD_noVw, ↓oD_flat, ↓oD_mv, ↓oD_ldc]
  refine loop_ok (Y := Nat × List Int) (fun y => y.1 ≤ g.length ∧ y.2.length ≤ y.1 ∧ y.2 ++ hdF y.1 (g.drop y.1) = hdF 0 g)
    (fun y => ⟨[(1, true, .one (.p 1 0 0)), (4, true, .one (.v (.int .i64 (y.1 : Int)))), (3, true, .one (.s 1000))], [(1, .vec 0 [.v (.bool false)] [[.d (.sl zND (g.map Gq.r))]]), (1000, .vec 0 zIn (y.2.map inC))]⟩)
    (fun y => g.length - y.1) (0, []) ⟨Nat.zero_le _, Nat.le_refl _, rfl⟩ ?_ ?_
  · refine to_with [.nil 3 1000 zIn] ?_; simp only [↓eB, seval, go_sem, zND]
  · rintro ⟨i, p⟩ ⟨j1, j2, j3⟩
    refine vc_ok [] [] _ _ _ ?_
    dsimp only at j1 j2 j3
    cases hx : g[i]? with
    | none =>
      have hi2 : g.length ≤ i := List.getElem?_eq_none_iff.1 hx
      have h1 := natI_ge hi2
      rw [List.drop_eq_nil_of_le hi2] at j3
      simp only [hdF, List.append_nil] at j3
      simp only [↓eB, seval, go_sem, cGr_e, cGr_d, Gq.r, zID_ln, zND_ln, ↓oD_stor, ↓oD_names, ↓oD_noVw, ↓oD_flat, ↓oD_mv, ↓oD_ldc, h1]
      refine ret_with [.fz 1000] ?_; simp only [↓eB, seval, go_sem, bne, yr_rHeads, inB, ← j3, zIn, zID, rowsI.ds, rowsI.fz]
    | some x =>
      have hlt : i < g.length := (List.getElem?_eq_some_iff.1 hx).1
      have h1 := natI_lt hlt
      have h2 := natI_ltp hlt
      have h3 := gq_at hx
      have h4 := natI_succ j1 (by omega)
      rw [drop_get hx] at j3
      obtain ⟨c0, c1, c2, c3, c4, c5, c6, c7, c8, c9, ca, nx, hh⟩ := x
      simp only [hdF] at j3
      cases hh with
      | false =>
        simp only [Bool.false_eq_true, if_false] at j3
        simp only [↓eB, seval, go_sem, cGr_e, cGr_d, Gq.r, zID_ln, zND_ln, ↓oD_stor, ↓oD_names, ↓oD_noVw, ↓oD_flat, ↓oD_mv, ↓oD_ldc, h1, h2, h3, h4]
        try simp only [impB, impN]
        repeat' first | exact ck | with_reducible apply And.intro | intro _
        all_goals try first | exact hlt | (rename_i h; first | exact oI h | exact nah h) | (rename_i _ h _ g; exact sL h g) | decide | omega
        refine ⟨(i + 1, p), ⟨hlt, by dsimp only; omega, j3⟩, by dsimp only; omega, to_with [] ?_⟩
        simp only [↓eB, seval, go_sem, ↓oD_stor, ↓oD_names, ↓oD_noVw, ↓oD_flat, ↓oD_mv, ↓oD_ldc, rowsI.fn, zND]
      | true =>
        simp only [if_true] at j3
        simp only [↓eB, seval, go_sem, cGr_e, cGr_d, Gq.r, zID_ln, zND_ln, ↓oD_stor, ↓oD_names, ↓oD_noVw, ↓oD_flat, ↓oD_mv, ↓oD_ldc, h1, h2, h3, h4]
        try simp only [impB, impN]
        repeat' first | exact ck | with_reducible apply And.intro | intro _
        all_goals try first | exact hlt | (rename_i h; first | exact oI h | exact nah h) | (rename_i _ h _ g; exact sL h g) | decide | omega
        refine ⟨(i + 1, p ++ [(i : Int)]), ⟨hlt, by simp only [List.length_append, List.length_cons, List.length_nil]; omega, by rw [List.append_assoc]; exact j3⟩, by dsimp only; omega,
          to_trans (t := ⟨[(1, true, .one (.p 1 0 0)), (4, true, .one (.v (.int .i64 ((i + 1 : Nat) : Int)))), (3, true, .one (.s 21))], [(1, .vec 0 [.v (.bool false)] [[.d (.sl zND (g.map Gq.r))]]), (21, .vec 0 zIn ((p ++ [(i : Int)]).map inC))]⟩) (to_with [] ?_) (to_with [.mv 21 1000] ?_)⟩
        · simp only [↓eB, seval, go_sem, ↓oD_stor, ↓oD_names, ↓oD_noVw, ↓oD_flat, ↓oD_mv, ↓oD_ldc, rowsI.fn, zND, zIn, List.flatMap_append, List.map_append, inC]
        · simp only [↓eB, seval, go_sem, ↓oD_stor, ↓oD_names, ↓oD_noVw, ↓oD_flat, ↓oD_mv, ↓oD_ldc, rowsI.fn, zND, zIn, rowsI.mv]
noncomputable def yp_rHeads {X : Ctx} {w0 : World} : Sy.Spec Try.prog X w0 := specD 19 Try.call19 ya_rHeads (fun p : (List Gq) × Unit => yc_rHeads p.1) (fun p : (List Gq) × Unit => yr_rHeads p.1) yn_rHeads y_rHeads
end Go.Proofs.Ytiipmaoonnjlpaa
set_option linter.unusedVariables false
set_option linter.unusedSimpArgs false
namespace Go.Proofs.Ytiipmaoonnjlpaa
open Go Go.Sy Go.RowKit
theorem zIn_ln : zIn.length = 1 := rfl
theorem in_gc (q : List Int) (k : Nat) : (q.map inC).getD k zIn = [.v (.int .i64 (q.getD k 0))] := by
  simp only [List.getD, List.getElem?_map]
  cases q[k]? <;> rfl
theorem wr_sub {n : Nat} (h : n ≤ 2000000000000) (h0 : 0 < n) : IntKind.i64.wrap ((n : Int) - 1) = ((n - 1 : Nat) : Int) := by rw [wrap_i64 (by omega) (by omega)]; omega
def okG (g : List Gq) : Prop := g.length ≤ 1000000 ∧ ∀ x ∈ g, x.nx.length ≤ 1000000
end Go.Proofs.Ytiipmaoonnjlpaa
