/- Statements of a function: names by kind. No conditions but those in each statement. -/
import Derived.Test.YtiipmaoonnjlpaaRs2
set_option linter.unusedVariables false
set_option linter.unusedSimpArgs false
namespace Go.Proofs.Ytiipmaoonnjlpaa
open Go Go.Sy Go.RowKit
noncomputable def cSs : Cod (List Sm) := codOf (fun l => .one (.d (.sl zSm (l.map Sm.r)))) (fun v a b h h' => by
  cases v with
  | one c => exact map_inj sm_inj (leC_d h h')
  | agg l => exact h.elim
  | tup l => exact h.elim) (fun l => rfl)
theorem cSs_e (l : List Sm) : cSs.e l = .one (.d (.sl zSm (l.map Sm.r))) := rfl
theorem cSs_d (l : List Sm) : cSs.d (.one (.d (.sl zSm (l.map Sm.r)))) = some l := codOf_le (e := fun l : List Sm => .one (.d (.sl zSm (l.map Sm.r)))) (leV_refl _)
def Sm.wi : Sm → List Sm → List Sm → Sm
  | .mk k x y e g cd ar _ _ no, th, el => .mk k x y e g cd ar th el no
def rsW (h : List Sm → List Sm × Int) (f : Fn) : List Sm → List Sm → List Sm × Int
  | out, [] => (out, -1)
  | out, s :: r =>
    if (rsS f s).2 = true then
      if 0 ≤ (h (rsS f s).1.th).2 then ([], (h (rsS f s).1.th).2)
      else if 0 ≤ (h (rsS f s).1.el).2 then ([], (h (rsS f s).1.el).2)
      else rsW h f (out ++ [(rsS f s).1.wi (h (rsS f s).1.th).1 (h (rsS f s).1.el).1]) r
    else ([], s.no)
def rsN (f : Fn) : Nat → List Sm → List Sm × Int
  | 0 => fun _ => ([], -1)
  | m + 1 => rsW (rsN f m) f []
def okB (n : Nat) : Nat → List Sm → Prop
  | 0, _ => False
  | m + 1, l => l.length ≤ 5000 ∧ ∀ s ∈ l, OkS n s ∧ okB n m s.th ∧ okB n m s.el
theorem okB_nil {n m : Nat} {l : List Sm} (h : okB n m l) : okB n m [] := by
  cases m with
  | zero => exact h.elim
  | succ m => exact ⟨Nat.zero_le _, fun s hs => by cases hs⟩
theorem rsS_th (f : Fn) (s : Sm) : ((rsS f s).1.th = s.th ∨ (rsS f s).1.th = []) ∧ ((rsS f s).1.el = s.el ∨ (rsS f s).1.el = []) := by
  obtain ⟨k, x, y, e, g, cd, ar, th, el, no⟩ := s
  simp only [rsS]
  repeat' split
  all_goals simp [Sm.th, Sm.el]
theorem smr_at {l : List Sm} {i : Nat} {x : Sm} (h : l[i]? = some x) (z : List D) : (l.map Sm.r).getD i z = x.r := by simp [List.getD, h]
abbrev yc_rstmts (n : Nat) (m : Nat) (f : Fn) (l : List Sm) : Prop := okF f ∧ okB n m l
abbrev yr_rstmts (n : Nat) (m : Nat) (f : Fn) (l : List Sm) : SV := .tup [.inl (.d (.sl zSm ((rsN f m l).1.map Sm.r))), .inl (.v (.int .i64 (rsN f m l).2))]
noncomputable abbrev ya_rstmts : ArgC ((Fn) × (List Sm) × Unit) := (acS (cFn) (acS (cSs) ac0))
abbrev yq_rstmts (n : Nat) (m : Nat) : Prop := CallsY Try.prog 69 ya_rstmts (fun p : (Fn) × (List Sm) × Unit => yc_rstmts n m p.1 p.2.1) (fun p : (Fn) × (List Sm) × Unit => yr_rstmts n m p.1 p.2.1)
theorem yn_rstmts (n : Nat) (m : Nat) : ∀ p : (Fn) × (List Sm) × Unit, ((fun p : (Fn) × (List Sm) × Unit => yr_rstmts n m p.1 p.2.1) p).names = [] := by intro p; rfl
noncomputable def yg_rstmts {X : Ctx} {w0 : World} (n : Nat) (m : Nat) (h : yq_rstmts n m) : Sy.Spec Try.prog X w0 := specD 69 Try.call69 ya_rstmts (fun p : (Fn) × (List Sm) × Unit => yc_rstmts n m p.1 p.2.1) (fun p : (Fn) × (List Sm) × Unit => yr_rstmts n m p.1 p.2.1) (yn_rstmts n m) h
set_option maxRecDepth 20000 in set_option maxHeartbeats 8000000 in
theorem y_rstmtsS (n : Nat) (m : Nat) (hu : yq_rstmts n m) : yq_rstmts n (m + 1) := by
  rintro ⟨f, l, _u⟩ w fz xs hc hfz hl hx
  refine calls_toL Try.func69 rfl w fz [(yg_rstmt n (y_rstmt n)), (yg_rstmts n m hu)] [] ya_rstmts (fun p : (Fn) × (List Sm) × Unit => yr_rstmts n (m + 1) p.1 p.2.1) _ xs hfz hl hx (Nat.le_of_ble_eq_true rfl) ?_
  clear hx hl hfz xs
  simp only [Try.f69]
  obtain ⟨hc1, hc2⟩ := hc
  dsimp only at hc1 hc2
  obtain ⟨hc2, hc3⟩ := hc2
  simp only [↓eB, seval, go_sem, yg_rstmt, yg_rstmts, cFn_e, cFn_d, cSm_e, cSm_d, cSs_e, cSs_d, Fn.c, Sm.c, Sm.k, Sm.x, Sm.y, Sm.e, Sm.f, Sm.cd, Sm.ar, Sm.th, Sm.el, Sm.no, sm_r, fn_eta, pairO_n, pairN_o, spFn_n, ar_map]
  have sp : ∀ s ∈ l, okB n m (rsS f s).1.th ∧ okB n m (rsS f s).1.el := fun s hs => by
    obtain ⟨_, h1, h2⟩ := hc3 s hs
    have h3 := rsS_th f s
    refine ⟨?_, ?_⟩
    · rcases h3.1 with h | h <;> rw [h]
      · exact h1
      · exact okB_nil h1
    · rcases h3.2 with h | h <;> rw [h]
      · exact h2
      · exact okB_nil h2
  refine loop_ok (Y := Nat × List Sm) (fun z => z.1 ≤ l.length ∧ z.2.length = z.1 ∧ rsW (rsN f m) f z.2 (l.drop z.1) = rsN f (m + 1) l)
    (fun z => ⟨[(1, true, .one (.d (.sl zSm (l.map Sm.r)))), (2, true, .one (.p 2 0 0)), (6, true, .one (.s 1000)), (7, true, .one (.v (.int .i64 (z.1 : Int))))], [(2, .vec 0 fl4 [f.c]), (1000, .vec 0 zSc (z.2.map Sm.c))]⟩)
    (fun z => l.length - z.1) (0, []) ⟨Nat.zero_le _, rfl, rfl⟩ ?_ ?_
  · refine to_with [.nil 6 1000 zSc] ?_; simp only [↓eB, seval, go_sem, zSc, Fn.c, fl4]
  · rintro ⟨i, out⟩ ⟨g1, g2, g3⟩
    refine vc_ok [yg_rstmt n (y_rstmt n), yg_rstmts n m hu] [] _ _ _ ?_
    dsimp only at g1 g2 g3
    cases hx : l[i]? with
    | none =>
      have hi2 : l.length ≤ i := List.getElem?_eq_none_iff.1 hx
      have h1 := natI_ge hi2
      rw [List.drop_eq_nil_of_le hi2] at g3
      have hr : rsN f (m + 1) l = (out, -1) := g3.symm
      simp only [↓eB, seval, go_sem, yg_rstmt, yg_rstmts, cFn_e, cFn_d, cSm_e, cSm_d, cSs_e, cSs_d, Fn.c, Sm.c, Sm.k, Sm.x, Sm.y, Sm.e, Sm.f, Sm.cd, Sm.ar, Sm.th, Sm.el, Sm.no, sm_r, fn_eta, pairO_n, pairN_o, spFn_n, ar_map, h1, fl4, zSc]
      refine ret_with [.fz 1000] ?_; simp only [↓eB, seval, go_sem, bne, yr_rstmts, hr, zSm, zSc, rowsS.ds, rowsS.fz]
    | some x =>
      obtain ⟨ka, xa, ya, ea, fa, ca, aa, ta, la, na⟩ := x
      have hlt : i < l.length := (List.getElem?_eq_some_iff.1 hx).1
      have hxm : Sm.mk ka xa ya ea fa ca aa ta la na ∈ l := List.mem_of_getElem? hx
      have h1 := natI_lt hlt
      have h2 := natI_ltp hlt
      have h3 := smr_at hx
      have h4 := natI_succ g1 (by omega)
      obtain ⟨q1, q2, q3⟩ := hc3 _ hxm
      obtain ⟨q4, q5⟩ := sp _ hxm
      rw [drop_get hx] at g3
      simp only [rsW] at g3
      obtain ⟨⟨⟨k, x1, y1, e1, e2, cd, ar, th, el, no⟩, b⟩, hs⟩ : ∃ a, rsS f (.mk ka xa ya ea fa ca aa ta la na) = a := ⟨_, rfl⟩
      rw [hs] at g3 q4 q5
      dsimp only [Sm.th, Sm.el, Sm.wi, Sm.no] at g3 q4 q5
      cases b with
      | false =>
        rw [if_neg (by decide)] at g3
        simp only [↓eB, seval, go_sem, yg_rstmt, yg_rstmts, cFn_e, cFn_d, cSm_e, cSm_d, cSs_e, cSs_d, Fn.c, Sm.c, Sm.k, Sm.x, Sm.y, Sm.e, Sm.f, Sm.cd, Sm.ar, Sm.th, Sm.el, Sm.no, sm_r, fn_eta, pairO_n, pairN_o, spFn_n, ar_map, h1, h2, h3, hs, fl4, zSc]
        try simp only [impB, impN]
        repeat' first | exact ck | with_reducible apply And.intro | intro _
        all_goals first | exact hc1 | exact hlt | exact q1 | (rename_i h; first | exact oI h | exact nah h) | (rename_i _ h _ g; exact sL h g) | decide | omega | (refine ret_with [] ?_; simp only [↓eB, seval, go_sem, bne, yr_rstmts, ← g3])
      | true =>
        rw [if_pos rfl] at g3
        cases t1 : decide (0 ≤ (rsN f m th).2) with
        | true =>
          simp only [of_decide_eq_true t1, if_true] at g3
          simp only [↓eB, seval, go_sem, yg_rstmt, yg_rstmts, cFn_e, cFn_d, cSm_e, cSm_d, cSs_e, cSs_d, Fn.c, Sm.c, Sm.k, Sm.x, Sm.y, Sm.e, Sm.f, Sm.cd, Sm.ar, Sm.th, Sm.el, Sm.no, sm_r, fn_eta, pairO_n, pairN_o, spFn_n, ar_map, h1, h2, h3, hs, t1, fl4, zSc]
          try simp only [impB, impN]
          repeat' first | exact ck | with_reducible apply And.intro | intro _
          all_goals first | exact hc1 | exact hlt | exact q1 | exact q4 | (rename_i h; first | exact oI h | exact nah h) | (rename_i _ h _ g; exact sL h g) | decide | omega | (refine ret_with [] ?_; simp only [↓eB, seval, go_sem, bne, yr_rstmts, ← g3])
        | false =>
          simp only [of_decide_eq_false t1, if_false] at g3
          cases t2 : decide (0 ≤ (rsN f m el).2) with
          | true =>
            simp only [of_decide_eq_true t2, if_true] at g3
            simp only [↓eB, seval, go_sem, yg_rstmt, yg_rstmts, cFn_e, cFn_d, cSm_e, cSm_d, cSs_e, cSs_d, Fn.c, Sm.c, Sm.k, Sm.x, Sm.y, Sm.e, Sm.f, Sm.cd, Sm.ar, Sm.th, Sm.el, Sm.no, sm_r, fn_eta, pairO_n, pairN_o, spFn_n, ar_map, h1, h2, h3, hs, t1, t2, fl4, zSc]
            try simp only [impB, impN]
            repeat' first | exact ck | with_reducible apply And.intro | intro _
            all_goals first | exact hc1 | exact hlt | exact q1 | exact q4 | exact q5 | (rename_i h; first | exact oI h | exact nah h) | (rename_i _ h _ g; exact sL h g) | decide | omega | (refine ret_with [] ?_; simp only [↓eB, seval, go_sem, bne, yr_rstmts, ← g3])
          | false =>
            simp only [of_decide_eq_false t2, if_false] at g3
            simp only [↓eB, seval, go_sem, yg_rstmt, yg_rstmts, cFn_e, cFn_d, cSm_e, cSm_d, cSs_e, cSs_d, Fn.c, Sm.c, Sm.k, Sm.x, Sm.y, Sm.e, Sm.f, Sm.cd, Sm.ar, Sm.th, Sm.el, Sm.no, sm_r, fn_eta, pairO_n, pairN_o, spFn_n, ar_map, h1, h2, h3, h4, hs, t1, t2, fl4, zSc, rowsS.fn]
            try simp only [impB, impN]
            repeat' first | exact ck | with_reducible apply And.intro | intro _
            all_goals try first | exact hc1 | exact hlt | exact q1 | exact q4 | exact q5 | (rename_i h; first | exact oI h | exact nah h) | (rename_i _ h _ g; exact sL h g) | decide | omega
            refine ⟨(i + 1, out ++ [.mk k x1 y1 e1 e2 cd ar (rsN f m th).1 (rsN f m el).1 no]), ⟨hlt, by simp [g2], g3⟩, by simp only; omega,
              to_trans (t := ⟨[(1, true, .one (.d (.sl zSm (l.map Sm.r)))), (2, true, .one (.p 2 0 0)), (6, true, .one (.s 62)), (7, true, .one (.v (.int .i64 ((i + 1 : Nat) : Int))))], [(2, .vec 0 fl4 [f.c]), (62, .vec 0 zSc ((out ++ [Sm.mk k x1 y1 e1 e2 cd ar (rsN f m th).1 (rsN f m el).1 no]).map Sm.c))]⟩) (to_with [] ?_) (to_with [.mv 62 1000] ?_)⟩
            · simp only [↓eB, seval, go_sem, zSc, fl4, Fn.c, rowsS.fn, List.flatMap_append, List.map_append, Sm.c, Sm.k, Sm.x, Sm.y, Sm.e, Sm.f, Sm.cd, Sm.ar, Sm.th, Sm.el, Sm.no]
            · simp only [↓eB, seval, go_sem, zSc, fl4, Fn.c, rowsS.fn, rowsS.mv]
end Go.Proofs.Ytiipmaoonnjlpaa
