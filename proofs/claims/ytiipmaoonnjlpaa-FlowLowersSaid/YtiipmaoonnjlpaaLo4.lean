/- The graph of a function, walked. No conditions but those in each statement. -/
import Derived.Test.YtiipmaoonnjlpaaLo3
set_option linter.unusedVariables false
set_option linter.unusedSimpArgs false
namespace Go.Proofs.Ytiipmaoonnjlpaa
open Go Go.Sy Go.RowKit
def lw0 : Lw := ⟨[], [], false⟩
theorem mLw_d0 : mLw.d [.ov zNd [], .ov zIn []] = some lw0 := mLw_d' lw0
theorem zLw_ln : zLw.length = 2 := rfl
theorem zNd_td : toDs zNd = some zND := rfl
def lnkR (x : Int) : List Int → Lw → Lw
  | [], w => w
  | r :: t, w => lnkR x t (lnkW r x w)
section
variable (n : Nat) (f : List Sm)
def lwA : LR := lwB n f (addW 0 sm00 false lw0)
def lwX : Int := ((lwA n f).2.l.length : Int)
def lw2 : Lw := addW 3 sm00 false (lwA n f).2
def lw3 : Lw := lnkW 0 (orI (lwA n f).1.1 (lwX n f)) (lw2 n f)
def lw4 : Lw := lnkO (lwA n f).1.2 (lwX n f) (lw3 n f)
def lw5 : Lw := lnkR (lwX n f) (lw4 n f).r { lw4 n f with z := true }
/-- the graph's nodes -/
def lowF : List Nd := (lw5 n f).l
end
theorem okL_0 : okL 0 lw0 := ⟨Nat.le_refl _, Nat.le_refl _, (fun x hx => by cases hx), (fun x hx => by cases hx)⟩
theorem okL_z {c : Nat} {w : Lw} (h : okL c w) (b : Bool) : okL c { w with z := b } := ⟨h.l, h.r, h.n, h.i⟩
section
variable {n : Nat} {f : List Sm} (hd : okD n f)
include hd
theorem lwA_gd : Gd (1 + 8 * szB n f) (addW 0 sm00 false lw0) (lwA n f) := lwB_gd n f _ 1 hd (addW_ok okL_0 _ _ _)
theorem lw_len : 0 < (lwA n f).2.l.length ∧ (lw2 n f).l.length = (lwA n f).2.l.length + 1 ∧ (lw3 n f).l.length = (lwA n f).2.l.length + 1 ∧ (lw4 n f).l.length = (lwA n f).2.l.length + 1 := by
  have h := (lwA_gd hd).len
  rw [addW_len] at h
  refine ⟨by omega, addW_len _ _ _ _, ?_, ?_⟩ <;> simp only [lw4, lw3, lw2, lnkO_len, lnkW_len, addW_len]
theorem lw2_ok : okL (2 + 8 * szB n f) (lw2 n f) := (addW_ok (lwA_gd hd).ok _ _ _).mono (by omega)
theorem lw3_ok : okL (3 + 8 * szB n f) (lw3 n f) := by
  obtain ⟨e1, e2, e3, e4⟩ := lw_len hd
  exact (lnkW_ok (lw2_ok hd) _ _ ⟨by omega, by omega⟩).mono (by omega)
theorem lw4_ok : okL (4 + 8 * szB n f) (lw4 n f) := by
  obtain ⟨e1, e2, e3, e4⟩ := lw_len hd
  exact (lnkO_ok (lw3_ok hd) _ _ ((lwA_gd hd).o.mono (by omega))).mono (by omega)
theorem lw4_z : (lw4 n f).z = false := by
  unfold lw4; rw [lnkO_z]
  show (lwA n f).2.z = false
  rw [(lwA_gd hd).z]; rfl
end
theorem lnk_ct (a b : Int) (l : List Nd) (r : List Int) : (lnkW a b ⟨l, r, true⟩).c = [.ov zNd ((l.set a.toNat ((l.getD a.toNat nd0).to b)).map Nd.c), .d (.sl zID (r.map inD))] := rfl
theorem inr_at {l : List Int} {i : Nat} {x : Int} (h : l[i]? = some x) (z : List D) : (l.map inD).getD i z = [.v (.int .i64 x)] := by simp [List.getD, h, inD]
abbrev gB (l : List Nd) : SV := .agg [.d (.sl zND (l.map Nd.r))]
abbrev yc_lower (n : Nat) (f : Fn) : Prop := okD n f.body ∧ szB n f.body ≤ 10000000
abbrev yr_lower (n : Nat) (f : Fn) : SV := gB (lowF n f.body)
noncomputable abbrev ya_lower : ArgC ((Fn) × Unit) := (acS (cFn) ac0)
abbrev yq_lower (n : Nat) : Prop := CallsY Try.prog 10 ya_lower (fun p : (Fn) × Unit => yc_lower n p.1) (fun p : (Fn) × Unit => yr_lower n p.1)
theorem yn_lower (n : Nat) : ∀ p : (Fn) × Unit, ((fun p : (Fn) × Unit => yr_lower n p.1) p).names = [] := by intro p; rfl
noncomputable def yg_lower {X : Ctx} {w0 : World} (n : Nat) (h : yq_lower n) : Sy.Spec Try.prog X w0 := specD 10 Try.call10 ya_lower (fun p : (Fn) × Unit => yc_lower n p.1) (fun p : (Fn) × Unit => yr_lower n p.1) (yn_lower n) h
set_option maxRecDepth 20000 in set_option maxHeartbeats 8000000 in
theorem y_lower (n : Nat) : yq_lower n := by
  rintro ⟨f, _u⟩ w fz xs hc hfz hl hx
  refine calls_toL Try.func10 rfl w fz [yp_add, yp_link, (yg_lblock n (y_lblock n))] [(2, [.nilc 3 0 0 zNd, .nilc 3 0 1 zIn]), (10, [.unr 3 0 1 1000, .fz 1000]), (15, [.unr 3 0 0 1001, .fz 1001])] ya_lower (fun p : (Fn) × Unit => yr_lower n p.1) _ xs hfz hl hx (Nat.le_of_ble_eq_true rfl) ?_
  clear hx hl hfz xs
  simp only [Try.f10]
  obtain ⟨hc1, hc2⟩ := hc
  obtain ⟨fn, ps, ls, bd⟩ := f
  dsimp only at hc1 hc2
  have ga := lwA_gd hc1
  obtain ⟨e1, e2, e3, e4⟩ := lw_len hc1
  have g0 : lw0.l.length ≤ 1000000000 := Nat.zero_le _
  have g1 : okC n bd (addW 0 sm00 false lw0) := ⟨hc1, rfl, 1, addW_ok okL_0 _ _ _, by omega⟩
  have g2 : (lwA n bd).2.l.length ≤ 1000000000 := by have := ga.ok.l; omega
  have g3 : okK (lw2 n bd) 0 := okK_of (lw2_ok hc1) (by omega) ⟨by omega, by omega⟩
  have g4 : ((lwA n bd).1.2 == -1) = false → okK (lw3 n bd) (lwA n bd).1.2 := fun h => okK_rf (lw3_ok hc1) (by omega) (ga.o.mono (by omega)) h
  have k4 := lw4_ok hc1
  have z4 := lw4_z hc1
  have hA : lwB n bd (addW 0 sm00 false lw0) = lwA n bd := rfl
  have h20 : addW 3 sm00 false (lwA n bd).2 = lw2 n bd := rfl
  have h30 : lnkW 0 (orI (lwA n bd).1.1 ((lwA n bd).2.l.length : Int)) (lw2 n bd) = lw3 n bd := rfl
  have h40 : lnkO (lwA n bd).1.2 ((lwA n bd).2.l.length : Int) (lw3 n bd) = lw4 n bd := rfl
  have h50 : lowF n bd = (lnkR ((lwA n bd).2.l.length : Int) (lw4 n bd).r { lw4 n bd with z := true }).l := rfl
  clear ga e1 e2 e3 e4
  have h00 : (lw0.l.length : Int) = 0 := rfl
  generalize lw4 n bd = W4 at *
  generalize lw3 n bd = W3 at *
  generalize lw2 n bd = W2 at *
  generalize lwA n bd = A at *
  obtain ⟨⟨a1, a2⟩, wA⟩ := A
  obtain ⟨L4, R, zz⟩ := W4
  dsimp only at z4
  subst zz
  have c4 : (⟨L4, R, false⟩ : Lw).c = [.ov zNd (L4.map Nd.c), .ov zIn (R.map inC)] := rfl
  have hRl : R.length ≤ 100000000 := by have := k4.r; dsimp only at this; omega
  dsimp only at *
  have z2' : (a2 != -1) = !(a2 == -1) := rfl
  have k5 : okL (4 + 8 * szB n bd) ⟨L4, R, true⟩ := okL_z k4 true
  cases z1 : (a1 == -1) <;> cases z2 : (a2 == -1)
  all_goals
    simp only [orI, lnkO, z1, z2, if_true, if_false, Bool.false_eq_true] at h30 h40
    rw [z2] at z2'
    try have g5 := g4 z2
    simp only [↓eB, seval, go_sem, yp_add, yp_link, yg_lblock, mLw_e, mLw_z, mLw_d', mLw_d0, zLw_ln, cFn_e, cFn_d, Fn.c, cSs_e, cSs_d, lw_fn, cSm_d0, zIn_td, zNd_td, rowsI.ds, nd_ds, rowsI.fz, nd_fz, rowsI.fn, nd_fn, hA, h00, h20, h30, h40, c4, z1, z2, z2']
    repeat' (first | exact ck | with_reducible apply And.intro)
    all_goals try first | exact g0 | exact g1 | exact g2 | exact g3 | exact g5
    refine loop_ok (Y := Nat × List Nd) (fun y => y.1 ≤ R.length ∧ (lnkR (wA.l.length : Int) (R.drop y.1) ⟨y.2, R, true⟩).l = lowF n bd ∧ ∃ c, okL c ⟨y.2, R, true⟩ ∧ c + (R.length - y.1) ≤ 900000000)
      (fun y => ⟨[(2, true, .one (.p 2 0 0)), (3, true, .one (.p 3 0 0)), (7, true, .one (.v (.int .i64 (wA.l.length : Int)))), (36, true, .one (.d (.sl zID (R.map inD)))), (37, true, .one (.v (.int .i64 (R.length : Int)))), (38, true, .one (.v (.int .i64 (y.1 : Int))))],
        [(2, .vec 0 [.v (.bool false)] [[.v (.slice none 0 0)]]), (3, .vec 0 [.v (.bool false), .v (.bool false)] [[.ov zNd (y.2.map Nd.c), .d (.sl zID (R.map inD))]])]⟩)
      (fun y => R.length - y.1) (0, L4) ⟨Nat.zero_le _, h50.symm, _, k5, by omega⟩ ?_ ?_
    · refine to_with [] ?_; simp only [↓eB, seval, go_sem, nd_fn, zLw_ln]
    · rintro ⟨i, l⟩ ⟨j1, j2, c1, j3, j4⟩
      refine vc_ok [yp_add, yp_link, yg_lblock n (y_lblock n)] [] _ _ _ ?_
      dsimp only at j1 j2 j3 j4
      cases hx : R[i]? with
      | none =>
        have hi2 : R.length ≤ i := List.getElem?_eq_none_iff.1 hx
        have h1 := natI_ge hi2
        rw [List.drop_eq_nil_of_le hi2] at j2
        have hr : lowF n bd = l := j2.symm
        simp only [↓eB, seval, go_sem, yp_add, yp_link, yg_lblock, mLw_e, mLw_z, mLw_d', mLw_d0, zLw_ln, cFn_e, cFn_d, Fn.c, cSs_e, cSs_d, lw_fn, cSm_d0, zIn_td, zNd_td, rowsI.ds, nd_ds, rowsI.fz, nd_fz, rowsI.fn, nd_fn, h1]
        refine ret_with [] ?_; simp only [↓eB, seval, go_sem, bne, yr_lower, hr, gB]
      | some x =>
        have hlt : i < R.length := (List.getElem?_eq_some_iff.1 hx).1
        have hxm : x ∈ R := List.mem_of_getElem? hx
        have h1 := natI_lt hlt
        have h2 := natI_ltp hlt
        have h3 := inr_at hx
        have h4 := natI_succ j1 (by omega)
        have hxr := j3.i x hxm
        dsimp only at hxr
        rw [drop_get hx] at j2
        have j2' : (lnkR (wA.l.length : Int) (R.drop (i + 1)) ⟨l.set x.toNat ((l.getD x.toNat nd0).to (wA.l.length : Int)), R, true⟩).l = lowF n bd := j2
        have g6 : okK ⟨l, R, true⟩ x := okK_of j3 (by omega) hxr
        have j5 : okL (c1 + 1) ⟨l.set x.toNat ((l.getD x.toNat nd0).to (wA.l.length : Int)), R, true⟩ := lnkW_ok j3 x (wA.l.length : Int) hxr
        simp only [↓eB, seval, go_sem, yp_add, yp_link, yg_lblock, mLw_e, mLw_z, mLw_d', mLw_d0, zLw_ln, cFn_e, cFn_d, Fn.c, cSs_e, cSs_d, lw_fn, cSm_d0, h1, h2, h3, h4, zID_ln, mLw_dt, lnk_ct]
        try simp only [impB, impN]
        repeat' first | exact ck | with_reducible apply And.intro | intro _
        all_goals try first | exact hlt | exact g6 | (rename_i h; first | exact oI h | exact nah h) | (rename_i _ h _ g; exact sL h g) | decide | omega
        refine ⟨(i + 1, l.set x.toNat ((l.getD x.toNat nd0).to (wA.l.length : Int))), ⟨hlt, j2', c1 + 1, j5, by omega⟩, by dsimp only; omega, to_with [] ?_⟩
        simp only [↓eB, seval, go_sem, nd_fn, lnk_ct, zLw_ln]
end Go.Proofs.Ytiipmaoonnjlpaa
