/- One unit of a program: parsed and resolved. No conditions but those in each statement. -/
import Derived.Test.YtiipmaoonnjlpaaPa9
import Derived.Test.YtiipmaoonnjlpaaRs4
set_option linter.unusedVariables false
set_option linter.unusedSimpArgs false
namespace Go.Proofs.Ytiipmaoonnjlpaa
open Go Go.Sy Go.RowKit
structure Un where
  s : List UInt8
  t : List UInt8
def Un.c (u : Un) : List C := [.v (.string (bs u.s)), .v (.string (bs u.t))]
abbrev zUc : List C := [.v (.string (bs [])), .v (.string (bs []))]
theorem unc_nm (u : Un) : ∀ c ∈ u.c, c.names = [] := by
  intro c hc
  simp only [Un.c, List.mem_cons, List.not_mem_nil, or_false] at hc
  rcases hc with rfl | rfl <;> rfl
noncomputable def mUn : RowM Un := rowMOf zUc Un.c unc_nm
theorem mUn_z : mUn.z = zUc := rfl
theorem mUn_e : mUn.e = Un.c := rfl
theorem unc_inj (a b : Un) (h : a.c = b.c) : a = b := by
  obtain ⟨s, t⟩ := a
  obtain ⟨s', t'⟩ := b
  simp only [Un.c, List.cons.injEq, C.v.injEq, Value.string.injEq, and_true] at h
  rw [bs_inj h.1, bs_inj h.2]
theorem mem_us (l : List Un) : ∀ q, some q ∈ [some ((zUc, l.map Un.c) : MV)] → ∀ r ∈ q.2, ∀ c ∈ r, c.names = [] := by
  intro q hq r hr c hc
  simp only [List.mem_singleton, Option.some.injEq] at hq
  subst hq
  obtain ⟨u, _, rfl⟩ := List.mem_map.1 hr
  exact unc_nm u c hc
def fl3 : List C := [.v (.bool false), .v (.bool false), .v (.bool false)]
def pgC (l : List Fn) : List C := [.v (.slice none 0 0), .v (.slice none 0 0), .d (.sl zFn (l.map Fn.r))]
theorem fn_stor (f : Fn) : rowsStor [f.c] := by
  intro r h c hc
  simp only [List.mem_singleton] at h
  subst h
  simp only [Fn.c, List.mem_cons, List.not_mem_nil, or_false] at hc
  rcases hc with rfl | rfl | rfl | rfl <;> rfl
/-- the functions of a program of one unit -/
def pgF (u : Un) (m : Nat) : List Fn :=
  if ((funF u.t).2.2 != 0) = true then []
  else if ((resF (funF u.t).1 u.s m).2.2 != 0) = true then []
  else [(resF (funF u.t).1 u.s m).1]
abbrev yc_Program (n : Nat) (m : Nat) (l : List Un) : Prop := ∃ u : Un, l = [u] ∧ (u.s == gloB) = false ∧ smallB u.t ∧ okF (funF u.t).1 ∧ okB n m (funF u.t).1.body
abbrev yr_Program (n : Nat) (m : Nat) (l : List Un) : SV := .agg (pgC (pgF (l.headD ⟨[], []⟩) m))
abbrev ym_Program (n : Nat) (m : Nat) (l : List Un) : List (Option MV) := [some (zUc, l.map Un.c)]
noncomputable abbrev ya_Program : ArgM ((List Un) × Unit) := (amS (mUn) am0)
abbrev yq_Program (n : Nat) (m : Nat) : Prop := CallsM Try.prog 37 ((ya_Program).args 0) (ya_Program).mem (fun p : (List Un) × Unit => yc_Program n m p.1) (fun p : (List Un) × Unit => yr_Program n m p.1) (fun p : (List Un) × Unit => ym_Program n m p.1)
theorem yl_Program (n : Nat) (m : Nat) : ∀ p, (fun p : (List Un) × Unit => yc_Program n m p.1) p → lenM ((ya_Program).mem p).length ((fun p : (List Un) × Unit => ym_Program n m p.1) p) = true := by intro p _; rfl
theorem yo_Program (n : Nat) (m : Nat) : ∀ p, (fun p : (List Un) × Unit => yc_Program n m p.1) p → outV ((fun p : (List Un) × Unit => ym_Program n m p.1) p).length ((fun p : (List Un) × Unit => yr_Program n m p.1) p) = true := by intro p _; first | rfl | exact ex_out _ _ | exact cd_out _ _ | (simp [outV, outC, ex_out, cd_out]; done)
theorem yn_Program (n : Nat) (m : Nat) : ∀ p, (fun p : (List Un) × Unit => yc_Program n m p.1) p → ∀ q, some q ∈ (fun p : (List Un) × Unit => ym_Program n m p.1) p → ∀ r ∈ q.2, ∀ c ∈ r, c.names = [] := by intro p _; exact mem_us _
noncomputable def yg_Program {X : Ctx} {w0 : World} (n : Nat) (m : Nat) (h : yq_Program n m) : Sy.Spec Try.prog X w0 := specM 37 Try.call37 (ya_Program) (fun p : (List Un) × Unit => yc_Program n m p.1) (fun p : (List Un) × Unit => yr_Program n m p.1) (fun p : (List Un) × Unit => ym_Program n m p.1) (yl_Program n m) (yo_Program n m) (yn_Program n m) h
set_option maxRecDepth 20000 in set_option maxHeartbeats 8000000 in
theorem y_Program (n : Nat) (m : Nat) : yq_Program n m := by
  rintro ⟨l, _u⟩ w M I lab fz xs hc hA hl hx
  refine calls_toML Try.func37 rfl ((ya_Program).mem ⟨l, _u⟩) w M I lab fz [yp_Func, (yg_resolve n m (y_resolve n m))] [] ((ya_Program).args 0 ⟨l, _u⟩) ((fun p : (List Un) × Unit => ym_Program n m p.1) ⟨l, _u⟩) ((fun p : (List Un) × Unit => yr_Program n m p.1) ⟨l, _u⟩) xs hA hl hx (fun v hv k hk => by have := (ya_Program).an 0 ⟨l, _u⟩ v hv k hk; omega) (Nat.le_of_ble_eq_true rfl) (Nat.le_of_ble_eq_true rfl) ?_
  clear hx hl hA xs
  simp only [Try.f37]
  obtain ⟨u, rfl, hg, hs, h1, h2⟩ := hc
  simp only [gloB] at hg
  have h0 : ([u] : List Un).headD ⟨[], []⟩ = u := rfl
  simp only [↓eB, seval, go_sem, yp_Func, yg_resolve, cFn_e, cFn_d, Fn.c, fn_eta, pairO_n, pairN_o, spFn_n, mUn_e, mUn_z, Un.c]
  refine loop_ok (Y := Nat × List Fn) (fun z => (z.1 = 0 ∧ z.2 = []) ∨ (z.1 = 1 ∧ z.2 = pgF u m))
    (fun z => ⟨[(0, true, .one (.s 0)), (2, true, .one (.p 2 0 0)), (3, true, .one (.p 3 0 0)), (4, true, .one (.v (.int .i64 (z.1 : Int))))],
      [(0, .vec 0 zUc [u.c]), (2, .vec 0 fl3 [[.v (.slice none 0 0), .v (.slice none 0 0), .v (.slice none 0 0)]]), (3, .vec 0 fl3 [pgC z.2])]⟩)
    (fun z => 1 - z.1) (0, []) (.inl ⟨rfl, rfl⟩) ?_ ?_
  · refine to_with [.nilr 3 0 2 1000 zFc, .fz 1000] ?_; simp only [↓eB, seval, go_sem, fl3, pgC, zFc, zFn, Un.c]
  · rintro ⟨i, fs⟩ hJ
    refine vc_ok [yp_Func, yg_resolve n m (y_resolve n m)] [] _ _ _ ?_
    dsimp only at hJ
    rcases hJ with ⟨rfl, rfl⟩ | ⟨rfl, rfl⟩
    · obtain ⟨⟨F, a1, r1⟩, hF⟩ : ∃ x, funF u.t = x := ⟨_, rfl⟩
      obtain ⟨⟨G, a2, r2⟩, hR⟩ : ∃ x, resF F u.s m = x := ⟨_, rfl⟩
      rw [hF] at h1 h2
      dsimp only at h1 h2
      cases e1 : (r1 == 0) with
      | false =>
        have e1' : (r1 != 0) = true := by simp [bne, e1]
        have hp : pgF u m = [] := by unfold pgF; rw [hF]; exact if_pos e1'
        simp only [↓eB, seval, go_sem, yp_Func, yg_resolve, cFn_e, cFn_d, Fn.c, fn_eta, pairO_n, pairN_o, spFn_n, mUn_e, mUn_z, Un.c, hg, hF, e1, e1', fl3, pgC]
        try simp only [impB, impN]
        repeat' first | exact ck | with_reducible apply And.intro | intro _
        all_goals try first | exact hs | (rename_i h; first | exact oI h | exact nah h) | (rename_i _ h _ g; exact sL h g) | decide | omega
        refine ⟨(1, []), .inr ⟨rfl, hp.symm⟩, by decide, to_with [] ?_⟩
        simp only [↓eB, seval, go_sem, fl3, pgC, Un.c, Fn.c, zFc, zFn]
      | true =>
        have e1' : (r1 != 0) = false := by simp [bne, e1]
        cases e2 : (r2 == 0) with
        | false =>
          have e2' : (r2 != 0) = true := by simp [bne, e2]
          have hp : pgF u m = [] := by unfold pgF; rw [hF]; simp only [e1', hR, e2', Bool.false_eq_true, if_false, if_true]
          simp only [↓eB, seval, go_sem, yp_Func, yg_resolve, cFn_e, cFn_d, Fn.c, fn_eta, pairO_n, pairN_o, spFn_n, mUn_e, mUn_z, Un.c, hg, hF, hR, e1, e1', e2, e2', fl3, pgC]
          try simp only [impB, impN]
          repeat' first | exact ck | with_reducible apply And.intro | intro _
          all_goals try first | exact hs | exact h1 | exact h2 | (rename_i h; first | exact oI h | exact nah h) | (rename_i _ h _ g; exact sL h g) | decide | omega
          refine ⟨(1, []), .inr ⟨rfl, hp.symm⟩, by decide, to_with [] ?_⟩
          simp only [↓eB, seval, go_sem, fl3, pgC, Un.c, Fn.c, zFc, zFn]
        | true =>
          have e2' : (r2 != 0) = false := by simp [bne, e2]
          have hp : pgF u m = [G] := by unfold pgF; rw [hF]; simp only [e1', hR, e2', Bool.false_eq_true, if_false]
          simp only [↓eB, seval, go_sem, yp_Func, yg_resolve, cFn_e, cFn_d, Fn.c, fn_eta, pairO_n, pairN_o, spFn_n, mUn_e, mUn_z, Un.c, hg, hF, hR, e1, e1', e2, e2', fl3, pgC]
          refine ⟨hs, ⟨h1, h2⟩, chk_ok (by kernel_rfl), ?_⟩
          refine loop_ok (Y := Unit) (fun _ => True)
            (fun _ => ⟨[(0, true, .one (.s 0)), (2, true, .one (.p 2 0 0)), (3, true, .one (.p 3 0 0)), (4, true, .one (.v (.int .i64 0))), (8, true, .one (.p 8 0 0)), (11, true, .one (.v (.int .i64 0)))],
              [(0, .vec 0 zUc [u.c]), (2, .vec 0 fl3 [[.v (.slice none 0 0), .v (.slice none 0 0), .v (.slice none 0 0)]]), (3, .vec 0 fl3 [pgC []]), (8, .vec 0 fl4 [G.c])]⟩)
            (fun _ => 0) () trivial ?_ ?_
          · refine to_with [] ?_; simp only [↓eB, seval, go_sem, fl3, fl4, pgC, Un.c, Fn.c, zFc, zFn]
          · rintro ⟨⟩ _
            refine vc_ok [yp_Func, yg_resolve n m (y_resolve n m)] [] _ _ _ ?_
            simp only [↓eB, seval, go_sem, yp_Func, yg_resolve, cFn_e, cFn_d, Fn.c, fn_eta, pairO_n, pairN_o, spFn_n, mUn_e, mUn_z, Un.c, fl3, fl4, pgC, zFn, List.getD_nil]
            refine ⟨chk_ok (by kernel_rfl), ⟨fun q h => (by cases h; rfl), fun r h => (by cases h)⟩, ⟨fun q h => (by cases h; rfl), fn_stor G⟩, chk_ok (by kernel_rfl), (1, [G]), .inr ⟨rfl, hp.symm⟩, Nat.lt_succ_self 0,
              to_trans (t := ⟨[(0, true, .one (.s 0)), (2, true, .one (.p 2 0 0)), (3, true, .one (.p 3 0 0)), (4, true, .one (.v (.int .i64 1)))],
                [(0, .vec 0 zUc [u.c]), (2, .vec 0 fl3 [[.v (.slice none 0 0), .v (.slice none 0 0), .v (.slice none 0 0)]]), (3, .vec 0 fl3 [[.v (.slice none 0 0), .v (.slice none 0 0), .s 99]]), (99, .vec 0 zFc [G.c])]⟩) (to_with [] ?_) (to_with [.fz 99] ?_)⟩
            · simp only [↓eB, seval, go_sem, fl3, fl4, pgC, Un.c, Fn.c, Fn.r, zFc, zFn]
            · simp only [↓eB, seval, go_sem, fl3, fl4, pgC, Un.c, Fn.c, Fn.r, zFc, zFn]
    · simp only [↓eB, seval, go_sem, yp_Func, yg_resolve, cFn_e, cFn_d, Fn.c, fn_eta, pairO_n, pairN_o, spFn_n, mUn_e, mUn_z, Un.c, fl3, pgC]
      refine ret_with [] ?_; simp only [↓eB, seval, go_sem, bne, yr_Program, ym_Program, h0, pgC, Un.c]
end Go.Proofs.Ytiipmaoonnjlpaa
