/- The document's graph of a function, walked. No conditions but those in each statement. -/
import Derived.Test.YtiipmaoonnjlpaaLq4
import Derived.Test.YtiipmaoonnjlpaaLo4
import Derived.Test.YtiipmaoonnjlpaaPp
set_option linter.unusedVariables false
set_option linter.unusedSimpArgs false
namespace Go.Proofs.Ytiipmaoonnjlpaa
open Go Go.Sy Go.RowKit
def qR (n : Nat) (l : List Sm) : QS := qB n l [(0, 0)] [⟨0, sm00, [0], false⟩] []
/-- the document's nodes -/
def qF (n : Nat) (l : List Sm) : List Nd := lnkG ((qR n l).1 ++ (qR n l).2.2) ((qR n l).2.1.length : Int) ((qR n l).2.1 ++ [⟨3, sm00, [], false⟩])
theorem mGg_0 : mGg.d [.ov zNd []] = some [] := mGg_d []
theorem mGg_1 (x : Nd) : mGg.d [.ov zNd [x.c]] = some [x] := mGg_d [x]
theorem mRt_0 : mRt.d [.ov [.v (.int .i64 0), .v (.int .i64 0)] []] = some [] := mRt_d []
theorem zIn_td' : toDs [.v (.int .i64 0)] = some zID := rfl
theorem okX_0 : okX 1 [(0, 0)] [⟨0, sm00, [0], false⟩] [] := ⟨Nat.le_refl _, Nat.zero_le _, Nat.le_refl _, (fun p hp => by rw [List.mem_singleton.1 hp]; exact ⟨by decide, by decide, by decide, by decide⟩), (fun p hp => by cases hp)⟩
abbrev yc_rLower (n : Nat) (f : Fn) : Prop := okD n f.body ∧ szB n f.body ≤ 10000000
abbrev yr_rLower (n : Nat) (f : Fn) : SV := gB (qF n f.body)
noncomputable abbrev ya_rLower : ArgC ((Fn) × Unit) := (acS (cFn) ac0)
abbrev yq_rLower (n : Nat) : Prop := CallsY Try.prog 16 ya_rLower (fun p : (Fn) × Unit => yc_rLower n p.1) (fun p : (Fn) × Unit => yr_rLower n p.1)
theorem yn_rLower (n : Nat) : ∀ p : (Fn) × Unit, ((fun p : (Fn) × Unit => yr_rLower n p.1) p).names = [] := by intro p; rfl
noncomputable def yg_rLower {X : Ctx} {w0 : World} (n : Nat) (h : yq_rLower n) : Sy.Spec Try.prog X w0 := specD 16 Try.call16 ya_rLower (fun p : (Fn) × Unit => yc_rLower n p.1) (fun p : (Fn) × Unit => yr_rLower n p.1) (yn_rLower n) h
set_option maxRecDepth 20000 in set_option maxHeartbeats 8000000 in
theorem y_rLower (n : Nat) : yq_rLower n := by
  rintro ⟨f, _u⟩ w fz xs hc hfz hl hx
  refine calls_triL Try.func16 rfl w fz ya_rLower (fun p : (Fn) × Unit => yr_rLower n p.1) _ xs hfz hl hx (Nat.le_of_ble_eq_true rfl) ?_
  clear hx hl hfz xs
  simp only [Try.f16]
  obtain ⟨hc1, hc2⟩ := hc
  obtain ⟨fn, ps, ls, bd⟩ := f
  dsimp only at hc1 hc2
  have g1 : okS n bd [(0, 0)] [⟨0, sm00, [0], false⟩] [] := ⟨hc1, 1, okX_0, by omega⟩
  have G := qB_gx n bd _ _ _ 1 hc1 okX_0
  have r1 : qB n bd [(0, 0)] [⟨0, sm00, [0], false⟩] [] = qR n bd := rfl
  rw [r1] at G
  have g2 : (qR n bd).2.1.length ≤ 1000000000 := by have := G.ok.gl; omega
  have r2 : lnkG ((qR n bd).1 ++ (qR n bd).2.2) ((qR n bd).2.1.length : Int) ((qR n bd).2.1 ++ [⟨3, sm00, [], false⟩]) = qF n bd := rfl
  have g4 : (qR n bd).1.length + (qR n bd).2.2.length ≤ 90000000 := by have := G.ok.fl; have := G.ok.rl; omega
  have g3 : okW ((qR n bd).2.1 ++ [⟨3, sm00, [], false⟩]) ((qR n bd).1 ++ (qR n bd).2.2) := ⟨by rw [List.length_append, List.length_singleton]; have := G.ok.gl; omega, by rw [List.length_append]; omega, fun p hp => (ext_add _ _).2 p (by
    rcases List.mem_append.1 hp with hp | hp
    · exact G.ok.q p hp
    · exact G.ok.k p hp)⟩
  clear G
  generalize qR n bd = R at *
  obtain ⟨R1, R2, R3⟩ := R
  dsimp only at *
  refine tri_next [] [] ?_
  simp only [↓eB, seval, go_sem, pl98, cFn_e, cFn_d, Fn.c, fn_eta, amG_a, amG_m, mGg_e, mGg_z, mGg_d, mGg_0, mGg_1, mPs_e, mPs_z, mPs_d, mRt_e, mRt_z, mRt_d, mRt_0, amG_d, gD_e, gD_z, mIn_d, decM_p, decM_pp, cK_e, cK_d, cSs_e, cSs_d, ggC, rtQ, zGg, zRt, pC, zPs, inC, zIn]
  refine tri_next [] [] ?_
  simp only [↓eB, seval, go_sem, pl98, cFn_e, cFn_d, Fn.c, fn_eta, amG_a, amG_m, mGg_e, mGg_z, mGg_d, mGg_0, mGg_1, mPs_e, mPs_z, mPs_d, mRt_e, mRt_z, mRt_d, mRt_0, amG_d, gD_e, gD_z, mIn_d, decM_p, decM_pp, cK_e, cK_d, cSs_e, cSs_d, ggC, rtQ, zGg, zRt, pC, zPs, inC, zIn]
  refine tri_next [yp_gnode] [(2, [.nilc 8 0 0 zNd])] ?_
  simp only [↓eB, seval, go_sem, yp_gnode, pl98, cFn_e, cFn_d, Fn.c, fn_eta, amG_a, amG_m, mGg_e, mGg_z, mGg_d, mGg_0, mGg_1, mPs_e, mPs_z, mPs_d, mRt_e, mRt_z, mRt_d, mRt_0, amG_d, gD_e, gD_z, mIn_d, decM_p, decM_pp, cK_e, cK_d, cSs_e, cSs_d, ggC, rtQ, zGg, zRt, pC, zPs, inC, zIn]
  refine ⟨Nat.zero_le _, ?_⟩
  refine tri_next [] [] ?_
  simp only [↓eB, seval, go_sem, pl98, cFn_e, cFn_d, Fn.c, fn_eta, amG_a, amG_m, mGg_e, mGg_z, mGg_d, mGg_0, mGg_1, mPs_e, mPs_z, mPs_d, mRt_e, mRt_z, mRt_d, mRt_0, amG_d, gD_e, gD_z, mIn_d, decM_p, decM_pp, cK_e, cK_d, cSs_e, cSs_d, ggC, rtQ, zGg, zRt, pC, zPs, inC, zIn]
  refine tri_next [yg_gstmts n (y_gstmts n)] [(4, [.nilc 4 0 0 zPs])] ?_
  simp only [↓eB, seval, go_sem, yg_gstmts, pl98, cFn_e, cFn_d, Fn.c, fn_eta, amG_a, amG_m, mGg_e, mGg_z, mGg_d, mGg_0, mGg_1, mPs_e, mPs_z, mPs_d, mRt_e, mRt_z, mRt_d, mRt_0, amG_d, gD_e, gD_z, mIn_d, decM_p, decM_pp, cK_e, cK_d, cSs_e, cSs_d, ggC, rtQ, zGg, zRt, pC, zPs, inC, zIn, r1]
  refine ⟨g1, ?_⟩
  refine tri_next [yp_gnodeX] [] ?_
  simp only [↓eB, seval, go_sem, yp_gnodeX, pl98, cFn_e, cFn_d, Fn.c, fn_eta, amG_a, amG_m, mGg_e, mGg_z, mGg_d, mGg_0, mGg_1, mPs_e, mPs_z, mPs_d, mRt_e, mRt_z, mRt_d, mRt_0, amG_d, gD_e, gD_z, mIn_d, decM_p, decM_pp, cK_e, cK_d, cSs_e, cSs_d, ggC, rtQ, zGg, zRt, pC, zPs, inC, zIn]
  refine ⟨g2, ?_⟩
  refine tri_next [yp_glink] [(6, [.unr 4 0 0 1000])] ?_
  simp only [↓eB, seval, go_sem, yp_glink, pl98, cFn_e, cFn_d, Fn.c, fn_eta, amG_a, amG_m, mGg_e, mGg_z, mGg_d, mGg_0, mGg_1, mPs_e, mPs_z, mPs_d, mRt_e, mRt_z, mRt_d, mRt_0, amG_d, gD_e, gD_z, mIn_d, decM_p, decM_pp, cK_e, cK_d, cSs_e, cSs_d, ggC, rtQ, zGg, zRt, pC, zPs, inC, zIn, zIn_td', zNd_td, rowsI.ds, nd_ds, rowsI.fz, nd_fz, rowsI.fn, nd_fn, pc_fn, r2]
  refine ⟨⟨fun q hq => (Option.some.inj hq).symm, fun r hr c hc => pc_stq hr hc, by decide, by omega, by omega⟩, g3, ?_⟩
  refine vc_ok [] [(7, [.unr 8 0 0 1001, .fz 1001])] _ _ _ ?_
  simp only [↓eB, seval, go_sem, pl98, cFn_e, cFn_d, Fn.c, fn_eta, amG_a, amG_m, mGg_e, mGg_z, mGg_d, mGg_0, mGg_1, mPs_e, mPs_z, mPs_d, mRt_e, mRt_z, mRt_d, mRt_0, amG_d, gD_e, gD_z, mIn_d, decM_p, decM_pp, cK_e, cK_d, cSs_e, cSs_d, ggC, rtQ, zGg, zRt, pC, zPs, inC, zIn, zIn_td', zNd_td, rowsI.ds, nd_ds, rowsI.fz, nd_fz, rowsI.fn, nd_fn, pc_fn]
  try simp only [impB, impN]
  repeat' first | exact ck | with_reducible apply And.intro | intro _
  all_goals first | exact trivial | (rename_i h; first | exact oI h | exact nah h) | (rename_i _ h _ g; exact sL h g) | decide | omega | (refine ret_with [] ?_; simp only [↓eB, seval, go_sem, bne, yr_rLower, qF])
end Go.Proofs.Ytiipmaoonnjlpaa
