/- The lowering of statements, walked. No conditions but those in each statement. -/
import Derived.Test.YtiipmaoonnjlpaaLo2
import Derived.Test.YtiipmaoonnjlpaaRs3
set_option linter.unusedVariables false
set_option linter.unusedSimpArgs false
namespace Go.Proofs.Ytiipmaoonnjlpaa
open Go Go.Sy Go.RowKit
theorem yp_i2 : tPlaces Try.prog 98 = none := by kernel_rfl
theorem lw_fn (w : Lw) : List.flatMap C.names w.c = [] := List.flatMap_eq_nil_iff.2 (lwc_nm w)
theorem cSm_d0 : cSm.d (.agg [.v (.int .i64 0), .v (.string (bs [])), .v (.string (bs [])), .v (.pointer none), .v (.pointer none), .v (.pointer none), .v (.slice none 0 0), .v (.slice none 0 0), .v (.slice none 0 0), .v (.int .i64 0)]) = some sm00 := by
  refine codOf_le (e := fun s : Sm => .agg s.c) (a := sm00) ?_
  exact ⟨leC_refl _, leC_refl _, leC_refl _, leC_refl _, leC_refl _, leC_refl _, .inr ⟨rfl, rfl⟩, .inr ⟨rfl, rfl⟩, .inr ⟨rfl, rfl⟩, leC_refl _, trivial⟩
def okC (m : Nat) (l : List Sm) (w : Lw) : Prop := okD m l ∧ w.z = false ∧ ∃ c, okL c w ∧ c + 8 * szB m l ≤ 1000000000
def okT (m : Nat) (s : Sm) (w : Lw) : Prop := okD m s.th ∧ okD m s.el ∧ w.z = false ∧ ∃ c, okL c w ∧ c + 8 * (1 + szB m s.th + szB m s.el) ≤ 1000000000
abbrev yc_lblock (n : Nat) (lw : Lw) (l : List Sm) : Prop := okC n l lw
abbrev yr_lblock (n : Nat) (lw : Lw) (l : List Sm) : SV := .tup [.inl (.v (.int .i64 (lwB n l lw).1.1)), .inl (.v (.int .i64 (lwB n l lw).1.2))]
abbrev ym_lblock (n : Nat) (lw : Lw) (l : List Sm) : List (Option MV) := [some (zLw, [(lwB n l lw).2.c])]
noncomputable abbrev ya_lblock : ArgM ((Lw) × (List Sm) × Unit) := (amP (mLw) (amD (cSs) am0))
abbrev yq_lblock (n : Nat) : Prop := CallsM Try.prog 35 ((ya_lblock).args 0) (ya_lblock).mem (fun p : (Lw) × (List Sm) × Unit => yc_lblock n p.1 p.2.1) (fun p : (Lw) × (List Sm) × Unit => yr_lblock n p.1 p.2.1) (fun p : (Lw) × (List Sm) × Unit => ym_lblock n p.1 p.2.1)
theorem yl_lblock (n : Nat) : ∀ p, (fun p : (Lw) × (List Sm) × Unit => yc_lblock n p.1 p.2.1) p → lenM ((ya_lblock).mem p).length ((fun p : (Lw) × (List Sm) × Unit => ym_lblock n p.1 p.2.1) p) = true := by intro p _; rfl
theorem yo_lblock (n : Nat) : ∀ p, (fun p : (Lw) × (List Sm) × Unit => yc_lblock n p.1 p.2.1) p → outV ((fun p : (Lw) × (List Sm) × Unit => ym_lblock n p.1 p.2.1) p).length ((fun p : (Lw) × (List Sm) × Unit => yr_lblock n p.1 p.2.1) p) = true := by intro p _; rfl
theorem yn_lblock (n : Nat) : ∀ p, (fun p : (Lw) × (List Sm) × Unit => yc_lblock n p.1 p.2.1) p → ∀ q, some q ∈ (fun p : (Lw) × (List Sm) × Unit => ym_lblock n p.1 p.2.1) p → ∀ r ∈ q.2, ∀ c ∈ r, c.names = [] := by intro p _; exact mem_lw _
noncomputable def yg_lblock {X : Ctx} {w0 : World} (n : Nat) (h : yq_lblock n) : Sy.Spec Try.prog X w0 := specM 35 Try.call35 (ya_lblock) (fun p : (Lw) × (List Sm) × Unit => yc_lblock n p.1 p.2.1) (fun p : (Lw) × (List Sm) × Unit => yr_lblock n p.1 p.2.1) (fun p : (Lw) × (List Sm) × Unit => ym_lblock n p.1 p.2.1) (yl_lblock n) (yo_lblock n) (yn_lblock n) h
abbrev yc_lstmt (n : Nat) (lw : Lw) (s : Sm) : Prop := okT n s lw
abbrev yr_lstmt (n : Nat) (lw : Lw) (s : Sm) : SV := .tup [.inl (.v (.int .i64 (lwS (lwB n) s lw).1.1)), .inl (.v (.int .i64 (lwS (lwB n) s lw).1.2))]
abbrev ym_lstmt (n : Nat) (lw : Lw) (s : Sm) : List (Option MV) := [some (zLw, [(lwS (lwB n) s lw).2.c])]
noncomputable abbrev ya_lstmt : ArgM ((Lw) × (Sm) × Unit) := (amP (mLw) (amD (cSm) am0))
abbrev yq_lstmt (n : Nat) : Prop := CallsM Try.prog 49 ((ya_lstmt).args 0) (ya_lstmt).mem (fun p : (Lw) × (Sm) × Unit => yc_lstmt n p.1 p.2.1) (fun p : (Lw) × (Sm) × Unit => yr_lstmt n p.1 p.2.1) (fun p : (Lw) × (Sm) × Unit => ym_lstmt n p.1 p.2.1)
theorem yl_lstmt (n : Nat) : ∀ p, (fun p : (Lw) × (Sm) × Unit => yc_lstmt n p.1 p.2.1) p → lenM ((ya_lstmt).mem p).length ((fun p : (Lw) × (Sm) × Unit => ym_lstmt n p.1 p.2.1) p) = true := by intro p _; rfl
theorem yo_lstmt (n : Nat) : ∀ p, (fun p : (Lw) × (Sm) × Unit => yc_lstmt n p.1 p.2.1) p → outV ((fun p : (Lw) × (Sm) × Unit => ym_lstmt n p.1 p.2.1) p).length ((fun p : (Lw) × (Sm) × Unit => yr_lstmt n p.1 p.2.1) p) = true := by intro p _; rfl
theorem yn_lstmt (n : Nat) : ∀ p, (fun p : (Lw) × (Sm) × Unit => yc_lstmt n p.1 p.2.1) p → ∀ q, some q ∈ (fun p : (Lw) × (Sm) × Unit => ym_lstmt n p.1 p.2.1) p → ∀ r ∈ q.2, ∀ c ∈ r, c.names = [] := by intro p _; exact mem_lw _
noncomputable def yg_lstmt {X : Ctx} {w0 : World} (n : Nat) (h : yq_lstmt n) : Sy.Spec Try.prog X w0 := specM 49 Try.call49 (ya_lstmt) (fun p : (Lw) × (Sm) × Unit => yc_lstmt n p.1 p.2.1) (fun p : (Lw) × (Sm) × Unit => yr_lstmt n p.1 p.2.1) (fun p : (Lw) × (Sm) × Unit => ym_lstmt n p.1 p.2.1) (yl_lstmt n) (yo_lstmt n) (yn_lstmt n) h
abbrev yc_lloop (n : Nat) (lw : Lw) (s : Sm) : Prop := okT n s lw
abbrev yr_lloop (n : Nat) (lw : Lw) (s : Sm) : SV := .tup [.inl (.v (.int .i64 (looL (lwB n) s lw).1.1)), .inl (.v (.int .i64 (looL (lwB n) s lw).1.2))]
abbrev ym_lloop (n : Nat) (lw : Lw) (s : Sm) : List (Option MV) := [some (zLw, [(looL (lwB n) s lw).2.c])]
noncomputable abbrev ya_lloop : ArgM ((Lw) × (Sm) × Unit) := (amP (mLw) (amD (cSm) am0))
abbrev yq_lloop (n : Nat) : Prop := CallsM Try.prog 67 ((ya_lloop).args 0) (ya_lloop).mem (fun p : (Lw) × (Sm) × Unit => yc_lloop n p.1 p.2.1) (fun p : (Lw) × (Sm) × Unit => yr_lloop n p.1 p.2.1) (fun p : (Lw) × (Sm) × Unit => ym_lloop n p.1 p.2.1)
theorem yl_lloop (n : Nat) : ∀ p, (fun p : (Lw) × (Sm) × Unit => yc_lloop n p.1 p.2.1) p → lenM ((ya_lloop).mem p).length ((fun p : (Lw) × (Sm) × Unit => ym_lloop n p.1 p.2.1) p) = true := by intro p _; rfl
theorem yo_lloop (n : Nat) : ∀ p, (fun p : (Lw) × (Sm) × Unit => yc_lloop n p.1 p.2.1) p → outV ((fun p : (Lw) × (Sm) × Unit => ym_lloop n p.1 p.2.1) p).length ((fun p : (Lw) × (Sm) × Unit => yr_lloop n p.1 p.2.1) p) = true := by intro p _; rfl
theorem yn_lloop (n : Nat) : ∀ p, (fun p : (Lw) × (Sm) × Unit => yc_lloop n p.1 p.2.1) p → ∀ q, some q ∈ (fun p : (Lw) × (Sm) × Unit => ym_lloop n p.1 p.2.1) p → ∀ r ∈ q.2, ∀ c ∈ r, c.names = [] := by intro p _; exact mem_lw _
noncomputable def yg_lloop {X : Ctx} {w0 : World} (n : Nat) (h : yq_lloop n) : Sy.Spec Try.prog X w0 := specM 67 Try.call67 (ya_lloop) (fun p : (Lw) × (Sm) × Unit => yc_lloop n p.1 p.2.1) (fun p : (Lw) × (Sm) × Unit => yr_lloop n p.1 p.2.1) (fun p : (Lw) × (Sm) × Unit => ym_lloop n p.1 p.2.1) (yl_lloop n) (yo_lloop n) (yn_lloop n) h
set_option maxRecDepth 20000 in set_option maxHeartbeats 8000000 in
theorem y_lloop (n : Nat) (hu : yq_lblock n) : yq_lloop n := by
  rintro ⟨lw, s, _u⟩ w M I lab fz xs hc hA hl hx
  refine calls_toML Try.func67 rfl ((ya_lloop).mem ⟨lw, s, _u⟩) w M I lab fz [yp_add, yp_link, (yg_lblock n hu)] [] ((ya_lloop).args 0 ⟨lw, s, _u⟩) ((fun p : (Lw) × (Sm) × Unit => ym_lloop n p.1 p.2.1) ⟨lw, s, _u⟩) ((fun p : (Lw) × (Sm) × Unit => yr_lloop n p.1 p.2.1) ⟨lw, s, _u⟩) xs hA hl hx (fun v hv k hk => by have := (ya_lloop).an 0 ⟨lw, s, _u⟩ v hv k hk; omega) (Nat.le_of_ble_eq_true rfl) (Nat.le_of_ble_eq_true rfl) ?_
  clear hx hl hA xs
  simp only [Try.f67]
  obtain ⟨h1, h2, hz, c, h3, h4⟩ := hc
  dsimp only at h1 h2 h3 h4 hz
  have g0 : lw.l.length ≤ 1000000000 := by have := h3.l; omega
  have g1 : okC n s.th (addW 2 s true lw) := ⟨h1, hz, c + 1, addW_ok h3 2 s true, by omega⟩
  have ga := loA_gd (lwB_gd n) h1 h3
  have gl := ga.len
  rw [addW_len] at gl
  have g2 : okK (loA (lwB n) s lw).2 (lw.l.length : Int) := okK_of ga.ok (by omega) ⟨by omega, by omega⟩
  obtain ⟨e1, e2, e3⟩ := lo1_ok (lwB_gd n) h1 h3
  have ho := ga.o.mono (w' := lo1 (lwB n) s lw) (by omega)
  have hk : ∀ w a, w = lo1 (lwB n) s lw → a = (loA (lwB n) s lw).1.2 → (a == -1) = false → okK w a := fun w a h h' h'' => by subst h; subst h'; exact okK_rf e1 (by omega) ho h''
  have hA : lwB n s.th (addW 2 s true lw) = loA (lwB n) s lw := rfl
  have hl1 : lo1 (lwB n) s lw = lnkW (lw.l.length : Int) (orI (loA (lwB n) s lw).1.1 (lw.l.length : Int)) (loA (lwB n) s lw).2 := rfl
  have hl2 : (looL (lwB n) s lw).2 = lnkO (loA (lwB n) s lw).1.2 (lw.l.length : Int) (lo1 (lwB n) s lw) := rfl
  have hr : (looL (lwB n) s lw).1 = ((lw.l.length : Int), (lw.l.length : Int)) := rfl
  obtain ⟨k1, xs, y, e, f, cd, ar, th, el, no⟩ := s
  generalize hG : loA (lwB n) (.mk k1 xs y e f cd ar th el no) lw = A at *
  obtain ⟨⟨a1, a2⟩, w2⟩ := A
  generalize hH : lo1 (lwB n) (.mk k1 xs y e f cd ar th el no) lw = w3 at *
  dsimp only [Sm.th, Sm.el] at g1 g2 hA hl1 hl2 hr
  cases z1 : (a1 == -1) <;> cases z2 : (a2 == -1)
  all_goals
    simp only [orI, lnkO, z1, z2, if_true, if_false, Bool.false_eq_true] at hl1 hl2
    have z2' : (a2 != -1) = !(a2 == -1) := rfl
    rw [z2] at z2'
    try have g3 := hk _ _ rfl rfl z2
  · subst hl1
    simp only [↓eB, seval, go_sem, yp_add, yp_link, yg_lblock, mLw_e, mLw_z, mLw_d', cSm_e, cSm_d, cSs_e, cSs_d, sm_r, lw_fn, cSm_d0, yp_i2, Sm.c, Sm.k, Sm.x, Sm.y, Sm.e, Sm.f, Sm.cd, Sm.ar, Sm.th, Sm.el, Sm.no, hA, z1, z2, z2']
    try simp only [impB, impN]
    repeat' first | exact ck | with_reducible apply And.intro | intro _
    all_goals first | exact g0 | exact g1 | exact g2 | exact g3 | (rename_i h; first | exact oI h | exact nah h) | (rename_i _ h _ g; exact sL h g) | decide | omega | (refine ret_with [] ?_; simp only [↓eB, seval, go_sem, bne, yr_lloop, ym_lloop, hr, hl2, lw_fn])
  · subst hl1
    simp only [↓eB, seval, go_sem, yp_add, yp_link, yg_lblock, mLw_e, mLw_z, mLw_d', cSm_e, cSm_d, cSs_e, cSs_d, sm_r, lw_fn, cSm_d0, yp_i2, Sm.c, Sm.k, Sm.x, Sm.y, Sm.e, Sm.f, Sm.cd, Sm.ar, Sm.th, Sm.el, Sm.no, hA, z1, z2, z2']
    try simp only [impB, impN]
    repeat' first | exact ck | with_reducible apply And.intro | intro _
    all_goals first | exact g0 | exact g1 | exact g2 | exact g3 | (rename_i h; first | exact oI h | exact nah h) | (rename_i _ h _ g; exact sL h g) | decide | omega | (refine ret_with [] ?_; simp only [↓eB, seval, go_sem, bne, yr_lloop, ym_lloop, hr, hl2, lw_fn])
  · subst hl1
    simp only [↓eB, seval, go_sem, yp_add, yp_link, yg_lblock, mLw_e, mLw_z, mLw_d', cSm_e, cSm_d, cSs_e, cSs_d, sm_r, lw_fn, cSm_d0, yp_i2, Sm.c, Sm.k, Sm.x, Sm.y, Sm.e, Sm.f, Sm.cd, Sm.ar, Sm.th, Sm.el, Sm.no, hA, z1, z2, z2']
    try simp only [impB, impN]
    repeat' first | exact ck | with_reducible apply And.intro | intro _
    all_goals first | exact g0 | exact g1 | exact g2 | exact g3 | (rename_i h; first | exact oI h | exact nah h) | (rename_i _ h _ g; exact sL h g) | decide | omega | (refine ret_with [] ?_; simp only [↓eB, seval, go_sem, bne, yr_lloop, ym_lloop, hr, hl2, lw_fn])
  · subst hl1
    simp only [↓eB, seval, go_sem, yp_add, yp_link, yg_lblock, mLw_e, mLw_z, mLw_d', cSm_e, cSm_d, cSs_e, cSs_d, sm_r, lw_fn, cSm_d0, yp_i2, Sm.c, Sm.k, Sm.x, Sm.y, Sm.e, Sm.f, Sm.cd, Sm.ar, Sm.th, Sm.el, Sm.no, hA, z1, z2, z2']
    try simp only [impB, impN]
    repeat' first | exact ck | with_reducible apply And.intro | intro _
    all_goals first | exact g0 | exact g1 | exact g2 | exact g3 | (rename_i h; first | exact oI h | exact nah h) | (rename_i _ h _ g; exact sL h g) | decide | omega | (refine ret_with [] ?_; simp only [↓eB, seval, go_sem, bne, yr_lloop, ym_lloop, hr, hl2, lw_fn])
abbrev yc_lbranch (n : Nat) (lw : Lw) (s : Sm) : Prop := okT n s lw
abbrev yr_lbranch (n : Nat) (lw : Lw) (s : Sm) : SV := .tup [.inl (.v (.int .i64 (braL (lwB n) s lw).1.1)), .inl (.v (.int .i64 (braL (lwB n) s lw).1.2))]
abbrev ym_lbranch (n : Nat) (lw : Lw) (s : Sm) : List (Option MV) := [some (zLw, [(braL (lwB n) s lw).2.c])]
noncomputable abbrev ya_lbranch : ArgM ((Lw) × (Sm) × Unit) := (amP (mLw) (amD (cSm) am0))
abbrev yq_lbranch (n : Nat) : Prop := CallsM Try.prog 66 ((ya_lbranch).args 0) (ya_lbranch).mem (fun p : (Lw) × (Sm) × Unit => yc_lbranch n p.1 p.2.1) (fun p : (Lw) × (Sm) × Unit => yr_lbranch n p.1 p.2.1) (fun p : (Lw) × (Sm) × Unit => ym_lbranch n p.1 p.2.1)
theorem yl_lbranch (n : Nat) : ∀ p, (fun p : (Lw) × (Sm) × Unit => yc_lbranch n p.1 p.2.1) p → lenM ((ya_lbranch).mem p).length ((fun p : (Lw) × (Sm) × Unit => ym_lbranch n p.1 p.2.1) p) = true := by intro p _; rfl
theorem yo_lbranch (n : Nat) : ∀ p, (fun p : (Lw) × (Sm) × Unit => yc_lbranch n p.1 p.2.1) p → outV ((fun p : (Lw) × (Sm) × Unit => ym_lbranch n p.1 p.2.1) p).length ((fun p : (Lw) × (Sm) × Unit => yr_lbranch n p.1 p.2.1) p) = true := by intro p _; rfl
theorem yn_lbranch (n : Nat) : ∀ p, (fun p : (Lw) × (Sm) × Unit => yc_lbranch n p.1 p.2.1) p → ∀ q, some q ∈ (fun p : (Lw) × (Sm) × Unit => ym_lbranch n p.1 p.2.1) p → ∀ r ∈ q.2, ∀ c ∈ r, c.names = [] := by intro p _; exact mem_lw _
noncomputable def yg_lbranch {X : Ctx} {w0 : World} (n : Nat) (h : yq_lbranch n) : Sy.Spec Try.prog X w0 := specM 66 Try.call66 (ya_lbranch) (fun p : (Lw) × (Sm) × Unit => yc_lbranch n p.1 p.2.1) (fun p : (Lw) × (Sm) × Unit => yr_lbranch n p.1 p.2.1) (fun p : (Lw) × (Sm) × Unit => ym_lbranch n p.1 p.2.1) (yl_lbranch n) (yo_lbranch n) (yn_lbranch n) h
set_option maxRecDepth 20000 in set_option maxHeartbeats 8000000 in
theorem y_lbranch (n : Nat) (hu : yq_lblock n) : yq_lbranch n := by
  rintro ⟨lw, s, _u⟩ w M I lab fz xs hc hA hl hx
  refine calls_toML Try.func66 rfl ((ya_lbranch).mem ⟨lw, s, _u⟩) w M I lab fz [yp_add, yp_link, (yg_lblock n hu)] [] ((ya_lbranch).args 0 ⟨lw, s, _u⟩) ((fun p : (Lw) × (Sm) × Unit => ym_lbranch n p.1 p.2.1) ⟨lw, s, _u⟩) ((fun p : (Lw) × (Sm) × Unit => yr_lbranch n p.1 p.2.1) ⟨lw, s, _u⟩) xs hA hl hx (fun v hv k hk => by have := (ya_lbranch).an 0 ⟨lw, s, _u⟩ v hv k hk; omega) (Nat.le_of_ble_eq_true rfl) (Nat.le_of_ble_eq_true rfl) ?_
  clear hx hl hA xs
  simp only [Try.f66]
  obtain ⟨h1, h2, hz, c, h3, h4⟩ := hc
  dsimp only at h1 h2 h3 h4 hz
  have g0 : lw.l.length ≤ 1000000000 := by have := h3.l; omega
  have g1 : okC n s.th (addW 2 s false lw) := ⟨h1, hz, c + 1, addW_ok h3 2 s false, by omega⟩
  have ga := brA_gd (lwB_gd n) h1 h3
  have gb := brB_gd (lwB_gd n) h1 h2 h3
  have g2 : okC n s.el (brA (lwB n) s lw).2 := ⟨h2, ga.z.trans hz, _, ga.ok, by omega⟩
  have g3 : (brB (lwB n) s lw).2.l.length ≤ 1000000000 := by have := gb.ok.l; omega
  obtain ⟨e1, e2, e3, e4, e5, e6, e7⟩ := br_len (lwB_gd n) h1 h2 h3
  have g4 : okK (br2 (lwB n) s lw) (lw.l.length : Int) := okK_of (br2_ok (lwB_gd n) h1 h2 h3) (by omega) ⟨by omega, by omega⟩
  have g5 : okK (br3 (lwB n) s lw) (lw.l.length : Int) := okK_of (br3_ok (lwB_gd n) h1 h2 h3) (by omega) ⟨by omega, by omega⟩
  have g6 : ((brA (lwB n) s lw).1.2 == -1) = false → okK (br4 (lwB n) s lw) (brA (lwB n) s lw).1.2 := fun h => okK_rf (br4_ok (lwB_gd n) h1 h2 h3) (by omega) (ga.o.mono (by omega)) h
  have g7 : ((brB (lwB n) s lw).1.2 == -1) = false → okK (br5 (lwB n) s lw) (brB (lwB n) s lw).1.2 := fun h => okK_rf (br5_ok (lwB_gd n) h1 h2 h3) (by omega) (gb.o.mono (by omega)) h
  have hA : lwB n s.th (addW 2 s false lw) = brA (lwB n) s lw := rfl
  have hB : lwB n s.el (brA (lwB n) s lw).2 = brB (lwB n) s lw := rfl
  have h20 : addW 4 sm00 false (brB (lwB n) s lw).2 = br2 (lwB n) s lw := rfl
  have h30 : lnkW (lw.l.length : Int) (orI (brA (lwB n) s lw).1.1 ((brB (lwB n) s lw).2.l.length : Int)) (br2 (lwB n) s lw) = br3 (lwB n) s lw := rfl
  have h40 : lnkW (lw.l.length : Int) (orI (brB (lwB n) s lw).1.1 ((brB (lwB n) s lw).2.l.length : Int)) (br3 (lwB n) s lw) = br4 (lwB n) s lw := rfl
  have h50 : lnkO (brA (lwB n) s lw).1.2 ((brB (lwB n) s lw).2.l.length : Int) (br4 (lwB n) s lw) = br5 (lwB n) s lw := rfl
  have h60 : lnkO (brB (lwB n) s lw).1.2 ((brB (lwB n) s lw).2.l.length : Int) (br5 (lwB n) s lw) = br6 (lwB n) s lw := rfl
  have hr : braL (lwB n) s lw = (((lw.l.length : Int), ((brB (lwB n) s lw).2.l.length : Int)), br6 (lwB n) s lw) := rfl
  obtain ⟨k1, xs, y, e, f, cd, ar, th, el, no⟩ := s
  clear ga gb e1 e2 e3 e4 e5 e6 e7 h1 h2 h3 h4
  generalize br6 (lwB n) (.mk k1 xs y e f cd ar th el no) lw = W6 at *
  generalize br5 (lwB n) (.mk k1 xs y e f cd ar th el no) lw = W5 at *
  generalize br4 (lwB n) (.mk k1 xs y e f cd ar th el no) lw = W4 at *
  generalize br3 (lwB n) (.mk k1 xs y e f cd ar th el no) lw = W3 at *
  generalize br2 (lwB n) (.mk k1 xs y e f cd ar th el no) lw = W2 at *
  generalize brB (lwB n) (.mk k1 xs y e f cd ar th el no) lw = B at *
  generalize brA (lwB n) (.mk k1 xs y e f cd ar th el no) lw = A at *
  obtain ⟨⟨a1, a2⟩, wA⟩ := A
  obtain ⟨⟨b1, b2⟩, wB⟩ := B
  dsimp only [Sm.th, Sm.el] at *
  simp only [↓eB, seval, go_sem, yp_add, yp_link, yg_lblock, mLw_e, mLw_z, mLw_d', cSm_e, cSm_d, cSs_e, cSs_d, sm_r, lw_fn, cSm_d0, yp_i2, Sm.c, Sm.k, Sm.x, Sm.y, Sm.e, Sm.f, Sm.cd, Sm.ar, Sm.th, Sm.el, Sm.no, hA, hB, h20]
  repeat' (first | exact ck | with_reducible apply And.intro)
  all_goals try first | exact g0 | exact g1 | exact g2 | exact g3 | decide | omega
  refine loop_ok (Y := Nat × Lw) (fun y => y = (0, W2) ∨ y = (1, W3) ∨ y = (2, W4))
    (fun y => ⟨[(0, true, .one (.p 0 0 0)), (6, true, .one (.v (.int .i64 (lw.l.length : Int)))), (8, true, .one (.v (.int .i64 a2))), (10, true, .one (.v (.int .i64 b2))), (11, true, .one (.v (.int .i64 (wB.l.length : Int)))), (42, true, .agg [.v (.int .i64 a1), .v (.int .i64 b1)]), (43, true, .one (.v (.int .i64 (y.1 : Int))))], [(0, .vec 0 zLw [y.2.c])]⟩)
    (fun y => 2 - y.1) (0, W2) (.inl rfl) ?_ ?_
  · refine to_with [] ?_; simp only [↓eB, seval, go_sem, lw_fn]
  · rintro y (rfl | rfl | rfl)
    · refine vc_ok [yp_add, yp_link, yg_lblock n hu] [] _ _ _ ?_
      cases z : (a1 == -1) with
        | false =>
          simp only [orI, z, if_true, if_false, Bool.false_eq_true] at h30
          have z' : (a1 != -1) = !(a1 == -1) := rfl
          rw [z] at z'
          try have q := id z
          simp only [↓eB, seval, go_sem, yp_add, yp_link, yg_lblock, mLw_e, mLw_z, mLw_d', cSm_e, cSm_d, cSs_e, cSs_d, sm_r, lw_fn, cSm_d0, yp_i2, Sm.c, Sm.k, Sm.x, Sm.y, Sm.e, Sm.f, Sm.cd, Sm.ar, Sm.th, Sm.el, Sm.no, z, z', h30]
          try simp only [impB, impN]
          repeat' first | exact ck | with_reducible apply And.intro | intro _
          all_goals try first | exact g4 | (rename_i h; first | exact oI h | exact nah h) | (rename_i _ h _ g; exact sL h g) | decide | omega
          refine ⟨(1, W3), .inr (.inl rfl), by dsimp only; decide, to_with [] ?_⟩
          simp only [↓eB, seval, go_sem, lw_fn]
        | true =>
          simp only [orI, z, if_true, if_false, Bool.false_eq_true] at h30
          have z' : (a1 != -1) = !(a1 == -1) := rfl
          rw [z] at z'
          try have q := id z
          simp only [↓eB, seval, go_sem, yp_add, yp_link, yg_lblock, mLw_e, mLw_z, mLw_d', cSm_e, cSm_d, cSs_e, cSs_d, sm_r, lw_fn, cSm_d0, yp_i2, Sm.c, Sm.k, Sm.x, Sm.y, Sm.e, Sm.f, Sm.cd, Sm.ar, Sm.th, Sm.el, Sm.no, z, z', h30]
          try simp only [impB, impN]
          repeat' first | exact ck | with_reducible apply And.intro | intro _
          all_goals try first | exact g4 | (rename_i h; first | exact oI h | exact nah h) | (rename_i _ h _ g; exact sL h g) | decide | omega
          refine ⟨(1, W3), .inr (.inl rfl), by dsimp only; decide, to_with [] ?_⟩
          simp only [↓eB, seval, go_sem, lw_fn]
    · refine vc_ok [yp_add, yp_link, yg_lblock n hu] [] _ _ _ ?_
      cases z : (b1 == -1) with
        | false =>
          simp only [orI, z, if_true, if_false, Bool.false_eq_true] at h40
          have z' : (b1 != -1) = !(b1 == -1) := rfl
          rw [z] at z'
          try have q := id z
          simp only [↓eB, seval, go_sem, yp_add, yp_link, yg_lblock, mLw_e, mLw_z, mLw_d', cSm_e, cSm_d, cSs_e, cSs_d, sm_r, lw_fn, cSm_d0, yp_i2, Sm.c, Sm.k, Sm.x, Sm.y, Sm.e, Sm.f, Sm.cd, Sm.ar, Sm.th, Sm.el, Sm.no, z, z', h40]
          try simp only [impB, impN]
          repeat' first | exact ck | with_reducible apply And.intro | intro _
          all_goals try first | exact g5 | (rename_i h; first | exact oI h | exact nah h) | (rename_i _ h _ g; exact sL h g) | decide | omega
          refine ⟨(2, W4), .inr (.inr rfl), by dsimp only; decide, to_with [] ?_⟩
          simp only [↓eB, seval, go_sem, lw_fn]
        | true =>
          simp only [orI, z, if_true, if_false, Bool.false_eq_true] at h40
          have z' : (b1 != -1) = !(b1 == -1) := rfl
          rw [z] at z'
          try have q := id z
          simp only [↓eB, seval, go_sem, yp_add, yp_link, yg_lblock, mLw_e, mLw_z, mLw_d', cSm_e, cSm_d, cSs_e, cSs_d, sm_r, lw_fn, cSm_d0, yp_i2, Sm.c, Sm.k, Sm.x, Sm.y, Sm.e, Sm.f, Sm.cd, Sm.ar, Sm.th, Sm.el, Sm.no, z, z', h40]
          try simp only [impB, impN]
          repeat' first | exact ck | with_reducible apply And.intro | intro _
          all_goals try first | exact g5 | (rename_i h; first | exact oI h | exact nah h) | (rename_i _ h _ g; exact sL h g) | decide | omega
          refine ⟨(2, W4), .inr (.inr rfl), by dsimp only; decide, to_with [] ?_⟩
          simp only [↓eB, seval, go_sem, lw_fn]
    · refine vc_ok [yp_add, yp_link, yg_lblock n hu] [] _ _ _ ?_
      simp only [↓eB, seval, go_sem, yp_add, yp_link, yg_lblock, mLw_e, mLw_z, mLw_d', cSm_e, cSm_d, cSs_e, cSs_d, sm_r, lw_fn, cSm_d0, yp_i2, Sm.c, Sm.k, Sm.x, Sm.y, Sm.e, Sm.f, Sm.cd, Sm.ar, Sm.th, Sm.el, Sm.no]
      repeat' (first | exact ck | with_reducible apply And.intro)
      all_goals try first | decide | omega
      refine loop_ok (Y := Nat × Lw) (fun y => y = (0, W4) ∨ y = (1, W5) ∨ y = (2, W6))
        (fun y => ⟨[(0, true, .one (.p 0 0 0)), (6, true, .one (.v (.int .i64 (lw.l.length : Int)))), (11, true, .one (.v (.int .i64 (wB.l.length : Int)))), (58, true, .agg [.v (.int .i64 a2), .v (.int .i64 b2)]), (59, true, .one (.v (.int .i64 (y.1 : Int))))], [(0, .vec 0 zLw [y.2.c])]⟩)
        (fun y => 2 - y.1) (0, W4) (.inl rfl) ?_ ?_
      · refine to_with [] ?_; simp only [↓eB, seval, go_sem, lw_fn]
      · rintro y (rfl | rfl | rfl)
        · refine vc_ok [yp_add, yp_link, yg_lblock n hu] [] _ _ _ ?_
          cases z : (a2 == -1) with
            | false =>
              simp only [lnkO, z, if_true, if_false, Bool.false_eq_true] at h50
              have z' : (a2 != -1) = !(a2 == -1) := rfl
              rw [z] at z'
              try have g6' := g6 z
              simp only [↓eB, seval, go_sem, yp_add, yp_link, yg_lblock, mLw_e, mLw_z, mLw_d', cSm_e, cSm_d, cSs_e, cSs_d, sm_r, lw_fn, cSm_d0, yp_i2, Sm.c, Sm.k, Sm.x, Sm.y, Sm.e, Sm.f, Sm.cd, Sm.ar, Sm.th, Sm.el, Sm.no, z, z', h50]
              try simp only [impB, impN]
              repeat' first | exact ck | with_reducible apply And.intro | intro _
              all_goals try first | exact g6' | (rename_i h; first | exact oI h | exact nah h) | (rename_i _ h _ g; exact sL h g) | decide | omega
              refine ⟨(1, W5), .inr (.inl rfl), by dsimp only; decide, to_with [] ?_⟩
              simp only [↓eB, seval, go_sem, lw_fn]
            | true =>
              simp only [lnkO, z, if_true, if_false, Bool.false_eq_true] at h50
              have z' : (a2 != -1) = !(a2 == -1) := rfl
              rw [z] at z'
              try have g6' := g6 z
              simp only [↓eB, seval, go_sem, yp_add, yp_link, yg_lblock, mLw_e, mLw_z, mLw_d', cSm_e, cSm_d, cSs_e, cSs_d, sm_r, lw_fn, cSm_d0, yp_i2, Sm.c, Sm.k, Sm.x, Sm.y, Sm.e, Sm.f, Sm.cd, Sm.ar, Sm.th, Sm.el, Sm.no, z, z', h50]
              try simp only [impB, impN]
              repeat' first | exact ck | with_reducible apply And.intro | intro _
              all_goals try first | exact g6' | (rename_i h; first | exact oI h | exact nah h) | (rename_i _ h _ g; exact sL h g) | decide | omega
              refine ⟨(1, W5), .inr (.inl rfl), by dsimp only; decide, to_with [] ?_⟩
              simp only [↓eB, seval, go_sem, lw_fn]
        · refine vc_ok [yp_add, yp_link, yg_lblock n hu] [] _ _ _ ?_
          cases z : (b2 == -1) with
            | false =>
              simp only [lnkO, z, if_true, if_false, Bool.false_eq_true] at h60
              have z' : (b2 != -1) = !(b2 == -1) := rfl
              rw [z] at z'
              try have g7' := g7 z
              simp only [↓eB, seval, go_sem, yp_add, yp_link, yg_lblock, mLw_e, mLw_z, mLw_d', cSm_e, cSm_d, cSs_e, cSs_d, sm_r, lw_fn, cSm_d0, yp_i2, Sm.c, Sm.k, Sm.x, Sm.y, Sm.e, Sm.f, Sm.cd, Sm.ar, Sm.th, Sm.el, Sm.no, z, z', h60]
              try simp only [impB, impN]
              repeat' first | exact ck | with_reducible apply And.intro | intro _
              all_goals try first | exact g7' | (rename_i h; first | exact oI h | exact nah h) | (rename_i _ h _ g; exact sL h g) | decide | omega
              refine ⟨(2, W6), .inr (.inr rfl), by dsimp only; decide, to_with [] ?_⟩
              simp only [↓eB, seval, go_sem, lw_fn]
            | true =>
              simp only [lnkO, z, if_true, if_false, Bool.false_eq_true] at h60
              have z' : (b2 != -1) = !(b2 == -1) := rfl
              rw [z] at z'
              try have g7' := g7 z
              simp only [↓eB, seval, go_sem, yp_add, yp_link, yg_lblock, mLw_e, mLw_z, mLw_d', cSm_e, cSm_d, cSs_e, cSs_d, sm_r, lw_fn, cSm_d0, yp_i2, Sm.c, Sm.k, Sm.x, Sm.y, Sm.e, Sm.f, Sm.cd, Sm.ar, Sm.th, Sm.el, Sm.no, z, z', h60]
              try simp only [impB, impN]
              repeat' first | exact ck | with_reducible apply And.intro | intro _
              all_goals try first | exact g7' | (rename_i h; first | exact oI h | exact nah h) | (rename_i _ h _ g; exact sL h g) | decide | omega
              refine ⟨(2, W6), .inr (.inr rfl), by dsimp only; decide, to_with [] ?_⟩
              simp only [↓eB, seval, go_sem, lw_fn]
        · refine vc_ok [yp_add, yp_link, yg_lblock n hu] [] _ _ _ ?_
          simp only [↓eB, seval, go_sem, yp_add, yp_link, yg_lblock, mLw_e, mLw_z, mLw_d', cSm_e, cSm_d, cSs_e, cSs_d, sm_r, lw_fn, cSm_d0, yp_i2, Sm.c, Sm.k, Sm.x, Sm.y, Sm.e, Sm.f, Sm.cd, Sm.ar, Sm.th, Sm.el, Sm.no]
          try simp only [impB, impN]
          repeat' first | exact ck | with_reducible apply And.intro | intro _
          all_goals first | exact g0 | (rename_i h; first | exact oI h | exact nah h) | (rename_i _ h _ g; exact sL h g) | decide | omega | (refine ret_with [] ?_; simp only [↓eB, seval, go_sem, bne, yr_lbranch, ym_lbranch, hr, lw_fn])
theorem okT_len {n : Nat} {s : Sm} {w : Lw} (h : okT n s w) : w.l.length ≤ 1000000000 := by
  obtain ⟨_, _, _, c, h3, h4⟩ := h
  have := h3.l; omega
set_option maxRecDepth 20000 in set_option maxHeartbeats 8000000 in
theorem y_lstmt (n : Nat) (hu : yq_lblock n) : yq_lstmt n := by
  rintro ⟨lw, s, _u⟩ w M I lab fz xs hc hA hl hx
  refine calls_toML Try.func49 rfl ((ya_lstmt).mem ⟨lw, s, _u⟩) w M I lab fz [yp_add, (yg_lbranch n (y_lbranch n hu)), (yg_lloop n (y_lloop n hu))] [] ((ya_lstmt).args 0 ⟨lw, s, _u⟩) ((fun p : (Lw) × (Sm) × Unit => ym_lstmt n p.1 p.2.1) ⟨lw, s, _u⟩) ((fun p : (Lw) × (Sm) × Unit => yr_lstmt n p.1 p.2.1) ⟨lw, s, _u⟩) xs hA hl hx (fun v hv k hk => by have := (ya_lstmt).an 0 ⟨lw, s, _u⟩ v hv k hk; omega) (Nat.le_of_ble_eq_true rfl) (Nat.le_of_ble_eq_true rfl) ?_
  clear hx hl hA xs
  simp only [Try.f49]
  have g0 : lw.l.length ≤ 1000000000 := okT_len hc
  have g1 : okT n s lw := hc
  obtain ⟨h1, h2, hz, c, h3, h4⟩ := hc
  have g2 : lw.r.length ≤ 1000000000 := by have := h3.r; dsimp only at this; omega
  dsimp only at hz
  clear h1 h2 h3 h4
  obtain ⟨k1, xs, y, e, f, cd, ar, th, el, no⟩ := s
  have hS : lwS (lwB n) (.mk k1 xs y e f cd ar th el no) lw = if (k1 == 10) = true then braL (lwB n) (.mk k1 xs y e f cd ar th el no) lw else if (k1 == 11) = true then looL (lwB n) (.mk k1 xs y e f cd ar th el no) lw else plaL (.mk k1 xs y e f cd ar th el no) lw := rfl
  cases z0 : (k1 == 10) with
  | true =>
    rw [if_pos z0] at hS
    simp only [↓eB, seval, go_sem, yp_add, yg_lloop, yg_lbranch, mLw_e, mLw_z, mLw_d', cSm_e, cSm_d, cSs_e, cSs_d, sm_r, lw_fn, cSm_d0, yp_i2, Sm.c, Sm.k, Sm.x, Sm.y, Sm.e, Sm.f, Sm.cd, Sm.ar, Sm.th, Sm.el, Sm.no, z0]
    try simp only [impB, impN]
    repeat' first | exact ck | with_reducible apply And.intro | intro _
    all_goals first | exact g1 | (rename_i h; first | exact oI h | exact nah h) | (rename_i _ h _ g; exact sL h g) | decide | omega | (refine ret_with [] ?_; simp only [↓eB, seval, go_sem, bne, yr_lstmt, ym_lstmt, hS, lw_fn])
  | false =>
  rw [if_neg (by rw [z0]; decide)] at hS
  cases z1 : (k1 == 11) with
  | true =>
    rw [if_pos z1] at hS
    simp only [↓eB, seval, go_sem, yp_add, yg_lloop, yg_lbranch, mLw_e, mLw_z, mLw_d', cSm_e, cSm_d, cSs_e, cSs_d, sm_r, lw_fn, cSm_d0, yp_i2, Sm.c, Sm.k, Sm.x, Sm.y, Sm.e, Sm.f, Sm.cd, Sm.ar, Sm.th, Sm.el, Sm.no, z0, z1]
    try simp only [impB, impN]
    repeat' first | exact ck | with_reducible apply And.intro | intro _
    all_goals first | exact g1 | (rename_i h; first | exact oI h | exact nah h) | (rename_i _ h _ g; exact sL h g) | decide | omega | (refine ret_with [] ?_; simp only [↓eB, seval, go_sem, bne, yr_lstmt, ym_lstmt, hS, lw_fn])
  | false =>
  rw [if_neg (by rw [z1]; decide)] at hS
  obtain ⟨l, r, z⟩ := lw
  dsimp only at hz
  subst hz
  cases z2 : (k1 == 9) with
  | true =>
    have hp : plaL (.mk k1 xs y e f cd ar th el no) ⟨l, r, false⟩ = (((l.length : Int), -1), ⟨l ++ [⟨1, .mk k1 xs y e f cd ar th el no, [], false⟩], r ++ [(l.length : Int)], false⟩) := by simp [plaL, Sm.k, z2, addR, addW]
    have ha : addW 1 (.mk k1 xs y e f cd ar th el no) false ⟨l, r, false⟩ = ⟨l ++ [⟨1, .mk k1 xs y e f cd ar th el no, [], false⟩], r, false⟩ := rfl
    rw [hp] at hS
    dsimp only at g0 g2
    generalize l ++ [(⟨1, .mk k1 xs y e f cd ar th el no, [], false⟩ : Nd)] = L at hS ha
    simp only [↓eB, seval, go_sem, yp_add, yg_lloop, yg_lbranch, mLw_e, mLw_z, mLw_d', cSm_e, cSm_d, cSs_e, cSs_d, sm_r, lw_fn, cSm_d0, yp_i2, Sm.c, Sm.k, Sm.x, Sm.y, Sm.e, Sm.f, Sm.cd, Sm.ar, Sm.th, Sm.el, Sm.no, z0, z1, z2, ha, Lw.c, rtC, mLw_df]
    try simp only [impB, impN]
    repeat' first | exact ck | with_reducible apply And.intro | intro _
    all_goals first | exact g0 | exact g2 | (rename_i h; first | exact oI h | exact nah h) | (rename_i _ h _ g; exact sL h g) | decide | omega | (refine ret_with [.fold 0 0 1] ?_; simp only [↓eB, seval, go_sem, bne, yr_lstmt, ym_lstmt, hS, Lw.c, rtC, List.all_append, in_all, List.isEmpty_nil, zLw, List.map_append, inC, nd_all, nd_fn, rowsI.fn])
  | false =>
    have hp : plaL (.mk k1 xs y e f cd ar th el no) ⟨l, r, false⟩ = (((l.length : Int), (l.length : Int)), addW 1 (.mk k1 xs y e f cd ar th el no) false ⟨l, r, false⟩) := by simp [plaL, Sm.k, z2]
    rw [hp] at hS
    simp only [↓eB, seval, go_sem, yp_add, yg_lloop, yg_lbranch, mLw_e, mLw_z, mLw_d', cSm_e, cSm_d, cSs_e, cSs_d, sm_r, lw_fn, cSm_d0, yp_i2, Sm.c, Sm.k, Sm.x, Sm.y, Sm.e, Sm.f, Sm.cd, Sm.ar, Sm.th, Sm.el, Sm.no, z0, z1, z2]
    try simp only [impB, impN]
    repeat' first | exact ck | with_reducible apply And.intro | intro _
    all_goals first | exact g0 | (rename_i h; first | exact oI h | exact nah h) | (rename_i _ h _ g; exact sL h g) | decide | omega | (refine ret_with [] ?_; simp only [↓eB, seval, go_sem, bne, yr_lstmt, ym_lstmt, hS, lw_fn])
set_option maxRecDepth 20000 in set_option maxHeartbeats 8000000 in
theorem y_lblockS (n : Nat) (hu : yq_lstmt n) : yq_lblock (n + 1) := by
  rintro ⟨lw, l, _u⟩ w M I lab fz xs hc hA hl hx
  refine calls_toML Try.func35 rfl ((ya_lblock).mem ⟨lw, l, _u⟩) w M I lab fz [yp_link, (yg_lstmt n hu)] [] ((ya_lblock).args 0 ⟨lw, l, _u⟩) ((fun p : (Lw) × (List Sm) × Unit => ym_lblock (n + 1) p.1 p.2.1) ⟨lw, l, _u⟩) ((fun p : (Lw) × (List Sm) × Unit => yr_lblock (n + 1) p.1 p.2.1) ⟨lw, l, _u⟩) xs hA hl hx (fun v hv k hk => by have := (ya_lblock).an 0 ⟨lw, l, _u⟩ v hv k hk; omega) (Nat.le_of_ble_eq_true rfl) (Nat.le_of_ble_eq_true rfl) ?_
  clear hx hl hA xs
  simp only [Try.f35]
  obtain ⟨⟨hd1, hd2⟩, hz, c, hc3, hc4⟩ := hc
  dsimp only at hd1 hd2 hz hc3 hc4
  simp only [↓eB, seval, go_sem, yp_link, yg_lstmt, mLw_e, mLw_z, mLw_d', cSm_e, cSm_d, cSs_e, cSs_d, sm_r, lw_fn, cSm_d0, yp_i2, Sm.c, Sm.k, Sm.x, Sm.y, Sm.e, Sm.f, Sm.cd, Sm.ar, Sm.th, Sm.el, Sm.no]
  refine loop_ok (Y := Nat × (Int × Int) × Lw) (fun y => y.1 ≤ l.length ∧ bkL (lwS (lwB n)) (l.drop y.1) ((y.1 : Int) == 0) y.2.1 y.2.2 = lwB (n + 1) l lw ∧ rf y.2.2 y.2.1.2 ∧ y.2.2.z = false ∧ ∃ c, okL c y.2.2 ∧ c + 8 * szB (n + 1) (l.drop y.1) ≤ 1000000000)
    (fun y => ⟨[(0, true, .one (.p 0 0 0)), (4, true, .one (.v (.int .i64 y.2.1.1))), (5, true, .one (.v (.int .i64 y.2.1.2))), (10, true, .one (.d (.sl zSm (l.map Sm.r)))), (11, true, .one (.v (.int .i64 (l.length : Int)))), (12, true, .one (.v (.int .i64 (y.1 : Int))))], [(0, .vec 0 zLw [y.2.2.c])]⟩)
    (fun y => l.length - y.1) (0, (-1, -1), lw) ⟨Nat.zero_le _, rfl, .inl rfl, hz, c, hc3, hc4⟩ ?_ ?_
  · refine to_with [] ?_; simp only [↓eB, seval, go_sem, lw_fn]
  · rintro ⟨i, ⟨f, o⟩, w1⟩ ⟨j1, j2, j3, hz1, c1, j4, j5⟩
    refine vc_ok [yp_link, yg_lstmt n hu] [] _ _ _ ?_
    dsimp only at j1 j2 j3 hz1 j4 j5
    cases hx : l[i]? with
    | none =>
      have hi2 : l.length ≤ i := List.getElem?_eq_none_iff.1 hx
      have h1 := natI_ge hi2
      rw [List.drop_eq_nil_of_le hi2] at j2
      have hr : lwB (n + 1) l lw = ((f, o), w1) := j2.symm
      simp only [↓eB, seval, go_sem, yp_link, yg_lstmt, mLw_e, mLw_z, mLw_d', cSm_e, cSm_d, cSs_e, cSs_d, sm_r, lw_fn, cSm_d0, yp_i2, Sm.c, Sm.k, Sm.x, Sm.y, Sm.e, Sm.f, Sm.cd, Sm.ar, Sm.th, Sm.el, Sm.no, h1]
      refine ret_with [] ?_; simp only [↓eB, seval, go_sem, bne, yr_lblock, ym_lblock, hr, lw_fn]
    | some x =>
      obtain ⟨ka, xa, ya, ea, fa, ca, aa, ta, la, na⟩ := x
      have hlt : i < l.length := (List.getElem?_eq_some_iff.1 hx).1
      have hxm : Sm.mk ka xa ya ea fa ca aa ta la na ∈ l := List.mem_of_getElem? hx
      have h1 := natI_lt hlt
      have h2 := natI_ltp hlt
      have h3 := smr_at hx
      have h4 := natI_succ j1 (by omega)
      obtain ⟨d1, d2⟩ := hd2 _ hxm
      rw [drop_get hx] at j2 j5
      rw [szB_cons] at j5
      simp only [bkL] at j2
      have g1 : okT n (.mk ka xa ya ea fa ca aa ta la na) w1 := ⟨d1, d2, hz1, c1, j4, by omega⟩
      obtain ⟨gg, gf⟩ := lwS_gd (lwB_gd n) d1 d2 j4
      obtain ⟨⟨⟨b, e'⟩, w'⟩, hs⟩ : ∃ a, lwS (lwB n) (.mk ka xa ya ea fa ca aa ta la na) w1 = a := ⟨_, rfl⟩
      rw [hs] at gg gf j2
      have hz2 : w'.z = false := gg.z.trans hz1
      have hi1 : (((i + 1 : Nat) : Int) == 0) = false := by rw [beq_eq_false_iff_ne]; omega
      have gl := gg.len
      have go := gg.o
      dsimp only at j2 gl go
      have zo' : (o != -1) = !(o == -1) := rfl
      cases zo : (o == -1) with
      | true =>
        rw [zo] at zo'
        simp only [lnkO, zo, if_true] at j2
        have g5 : ∃ c, okL c w' ∧ c + 8 * szB (n + 1) (l.drop (i + 1)) ≤ 1000000000 := ⟨_, gg.ok, by omega⟩
        cases z0 : ((i : Int) == 0) with
        | true =>
          rw [z0] at j2
          simp only [if_true] at j2
          simp only [↓eB, seval, go_sem, yp_link, yg_lstmt, mLw_e, mLw_z, mLw_d', cSm_e, cSm_d, cSs_e, cSs_d, sm_r, lw_fn, cSm_d0, yp_i2, Sm.c, Sm.k, Sm.x, Sm.y, Sm.e, Sm.f, Sm.cd, Sm.ar, Sm.th, Sm.el, Sm.no, h1, h2, h3, h4, hs, z0, zo, zo']
          try simp only [impB, impN]
          repeat' first | exact ck | with_reducible apply And.intro | intro _
          all_goals try first | exact g1 | exact hlt | (rename_i h; first | exact oI h | exact nah h) | (rename_i _ h _ g; exact sL h g) | decide | omega
          refine ⟨(i + 1, (b, e'), w'), ⟨hlt, by rw [hi1]; exact j2, go, hz2, g5⟩, by dsimp only; omega, to_with [] ?_⟩
          simp only [↓eB, seval, go_sem, lw_fn]
        | false =>
          rw [z0] at j2
          simp only [Bool.false_eq_true, if_false] at j2
          simp only [↓eB, seval, go_sem, yp_link, yg_lstmt, mLw_e, mLw_z, mLw_d', cSm_e, cSm_d, cSs_e, cSs_d, sm_r, lw_fn, cSm_d0, yp_i2, Sm.c, Sm.k, Sm.x, Sm.y, Sm.e, Sm.f, Sm.cd, Sm.ar, Sm.th, Sm.el, Sm.no, h1, h2, h3, h4, hs, z0, zo, zo']
          try simp only [impB, impN]
          repeat' first | exact ck | with_reducible apply And.intro | intro _
          all_goals try first | exact g1 | exact hlt | (rename_i h; first | exact oI h | exact nah h) | (rename_i _ h _ g; exact sL h g) | decide | omega
          refine ⟨(i + 1, (f, e'), w'), ⟨hlt, by rw [hi1]; exact j2, go, hz2, g5⟩, by dsimp only; omega, to_with [] ?_⟩
          simp only [↓eB, seval, go_sem, lw_fn]
      | false =>
        rw [zo] at zo'
        have g3 : okK w' o := okK_rf gg.ok (by omega) (j3.mono gl) zo
        have g4 : rf (lnkW o b w') e' := go.mono (by rw [lnkW_len]; exact Nat.le_refl _)
        have g5 : ∃ c, okL c (lnkW o b w') ∧ c + 8 * szB (n + 1) (l.drop (i + 1)) ≤ 1000000000 := by
          have h := lnkO_ok gg.ok o b (j3.mono gl)
          simp only [lnkO, zo, Bool.false_eq_true, if_false] at h
          exact ⟨_, h, by omega⟩
        simp only [lnkO, zo, Bool.false_eq_true, if_false] at j2
        cases z0 : ((i : Int) == 0) with
        | true =>
          rw [z0] at j2
          simp only [if_true] at j2
          simp only [↓eB, seval, go_sem, yp_link, yg_lstmt, mLw_e, mLw_z, mLw_d', cSm_e, cSm_d, cSs_e, cSs_d, sm_r, lw_fn, cSm_d0, yp_i2, Sm.c, Sm.k, Sm.x, Sm.y, Sm.e, Sm.f, Sm.cd, Sm.ar, Sm.th, Sm.el, Sm.no, h1, h2, h3, h4, hs, z0, zo, zo']
          try simp only [impB, impN]
          repeat' first | exact ck | with_reducible apply And.intro | intro _
          all_goals try first | exact g1 | exact hlt | exact g3 | (rename_i h; first | exact oI h | exact nah h) | (rename_i _ h _ g; exact sL h g) | decide | omega
          refine ⟨(i + 1, (b, e'), lnkW o b w'), ⟨hlt, by rw [hi1]; exact j2, g4, hz2, g5⟩, by dsimp only; omega, to_with [] ?_⟩
          simp only [↓eB, seval, go_sem, lw_fn]
        | false =>
          rw [z0] at j2
          simp only [Bool.false_eq_true, if_false] at j2
          simp only [↓eB, seval, go_sem, yp_link, yg_lstmt, mLw_e, mLw_z, mLw_d', cSm_e, cSm_d, cSs_e, cSs_d, sm_r, lw_fn, cSm_d0, yp_i2, Sm.c, Sm.k, Sm.x, Sm.y, Sm.e, Sm.f, Sm.cd, Sm.ar, Sm.th, Sm.el, Sm.no, h1, h2, h3, h4, hs, z0, zo, zo']
          try simp only [impB, impN]
          repeat' first | exact ck | with_reducible apply And.intro | intro _
          all_goals try first | exact g1 | exact hlt | exact g3 | (rename_i h; first | exact oI h | exact nah h) | (rename_i _ h _ g; exact sL h g) | decide | omega
          refine ⟨(i + 1, (f, e'), lnkW o b w'), ⟨hlt, by rw [hi1]; exact j2, g4, hz2, g5⟩, by dsimp only; omega, to_with [] ?_⟩
          simp only [↓eB, seval, go_sem, lw_fn]
theorem y_lblock : ∀ n : Nat, yq_lblock n
  | 0 => by
    rintro ⟨lw, l, _u⟩ w M I lab fz xs hc hA hl hx
    exact hc.1.elim
  | n + 1 => y_lblockS n (y_lstmt n (y_lblock n))
end Go.Proofs.Ytiipmaoonnjlpaa
