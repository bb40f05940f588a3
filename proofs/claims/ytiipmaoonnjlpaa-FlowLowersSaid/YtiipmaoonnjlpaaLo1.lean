/- The graph's nodes: added and linked. No conditions but those in each statement. -/
import Derived.Test.YtiipmaoonnjlpaaRs2
set_option linter.unusedVariables false
set_option linter.unusedSimpArgs false
namespace Go.Proofs.Ytiipmaoonnjlpaa
open Go Go.Sy Go.RowKit
/- a node of a graph -/
structure Nd where
  k : Int
  s : Sm
  nx : List Int
  h : Bool
def inC (n : Int) : List C := [.v (.int .i64 n)]
def inD (n : Int) : List D := [.v (.int .i64 n)]
def zIn : List C := [.v (.int .i64 0)]
def zID : List D := [.v (.int .i64 0)]
def Nd.c (x : Nd) : List C := [.v (.int .i64 x.k), .v (.int .i64 x.s.k), .v (.string (bs x.s.x)), .v (.string (bs x.s.y)), exC x.s.e, exC x.s.f, cdC x.s.cd, .d (.sl zAr (x.s.ar.map Ar.r)), .d (.sl zSm (x.s.th.map Sm.r)), .d (.sl zSm (x.s.el.map Sm.r)), .v (.int .i64 x.s.no), .ov zIn (x.nx.map inC), .v (.bool x.h)]
def zNd : List C := [.v (.int .i64 0), .v (.int .i64 0), .v (.string (bs [])), .v (.string (bs [])), .v (.pointer none), .v (.pointer none), .v (.pointer none), .v (.slice none 0 0), .v (.slice none 0 0), .v (.slice none 0 0), .v (.int .i64 0), .v (.slice none 0 0), .v (.bool false)]
def zND : List D := [dI 0, dI 0, dS [], dS [], dN, dN, dN, dL0, dL0, dL0, dI 0, dL0, .v (.bool false)]
def Nd.r (x : Nd) : List D := [dI x.k, dI x.s.k, dS x.s.x, dS x.s.y, x.s.e.d, x.s.f.d, x.s.cd.d, .sl zAr (x.s.ar.map Ar.r), .sl zSm (x.s.th.map Sm.r), .sl zSm (x.s.el.map Sm.r), dI x.s.no, .sl zID (x.nx.map inD), .v (.bool x.h)]
theorem rowsI : RowsD inC inD 1 := by
  refine ⟨fun a c hc => ?_, fun a c hc => ?_, fun a => rfl, fun a => rfl⟩
  · simp only [inC, List.mem_singleton] at hc; subst hc; rfl
  · simp only [inC, List.mem_singleton] at hc; subst hc; rfl
theorem zIn_td : toDs zIn = some zID := rfl
theorem zID_ln : zID.length = 1 := rfl
theorem nd_nm (x : Nd) : ∀ c ∈ x.c, C.names c = [] := by
  intro c hc
  simp only [Nd.c, List.mem_cons, List.not_mem_nil, or_false] at hc
  rcases hc with rfl | rfl | rfl | rfl | rfl | rfl | rfl | rfl | rfl | rfl | rfl | rfl | rfl <;> first | rfl | exact ex_names _ | exact cd_names _
theorem nd_td (x : Nd) : toDs x.c = some x.r := by
  simp only [Nd.c, toDs, toD, ex_toD, cd_toD, zIn_td, rowsI.ds, Nd.r]
theorem nd_fzr (k : Nat) (z : List D) (es : List (List D)) (x : Nd) : x.c.map (fzC k z es) = x.c := by simp only [Nd.c, List.map_cons, List.map_nil, fz_v, fz_d, fz_ov, ex_fz, cd_fz]
theorem nd_fn (l : List Nd) : List.flatMap (fun r => List.flatMap C.names r) (l.map Nd.c) = [] := flN_of Nd.c nd_nm l
theorem nd_ds (l : List Nd) : toDss (l.map Nd.c) = some (l.map Nd.r) := toDss_of Nd.c nd_td l
theorem nd_fz (k : Nat) (z : List D) (es : List (List D)) (l : List Nd) : (l.map Nd.c).map (fun r => r.map (fzC k z es)) = l.map Nd.c := map_of Nd.c (nd_fzr k z es) l
theorem nd_cl (l : List Nd) : closB (l.map Nd.c) = true := closB_of Nd.c nd_nm l
theorem nd_cls (l : List Nd) (i : Nat) (r : List C) (h : (r.all fun c => c.names.isEmpty) = true) : closB ((l.map Nd.c).set i r) = true := by
  have := nd_cl l
  simp only [closB, List.all_eq_true] at this ⊢
  intro x hx
  rcases List.mem_or_eq_of_mem_set hx with h1 | h1
  · exact this x h1
  · subst h1; exact List.all_eq_true.1 h
theorem nd_la (l : List Nd) (r : List C) : (l.map Nd.c ++ [r])[l.length]? = some r := by
  rw [List.getElem?_append_right (by simp)]; simp
theorem nd_ls (l : List Nd) (r r' : List C) : (l.map Nd.c ++ [r]).set l.length r' = l.map Nd.c ++ [r'] := by
  rw [List.set_append_right _ _ (by simp)]; simp
theorem nd_at {l : List Nd} {i : Nat} {x : Nd} (h : l[i]? = some x) : (l.map Nd.c)[i]? = some x.c := by simp [h]
theorem nd_sg {l : List Nd} {i : Nat} {x : Nd} (h : l[i]? = some x) (r z : List C) : ((l.map Nd.c).set i r).getD i z = r := by
  have hi : i < l.length := (List.getElem?_eq_some_iff.1 h).1
  simp [List.getD, hi]
theorem nd_sq {l : List Nd} {i : Nat} {x : Nd} (h : l[i]? = some x) (r : List C) : ((l.map Nd.c).set i r)[i]? = some r := by
  have hi : i < l.length := (List.getElem?_eq_some_iff.1 h).1
  simp [hi]
/- the work's state: nodes, and those of the return statements (z: nobody writes these any more) -/
structure Lw where
  l : List Nd
  r : List Int
  z : Bool
def rtC : List Int → Bool → C
  | r, true => .d (.sl zID (r.map inD))
  | r, false => .ov zIn (r.map inC)
def Lw.c (w : Lw) : List C := [.ov zNd (w.l.map Nd.c), rtC w.r w.z]
def zLw : List C := [.v (.slice none 0 0), .v (.slice none 0 0)]
theorem inC_inj (a b : Int) (h : inC a = inC b) : a = b := by simpa [inC] using h
theorem inD_inj (a b : Int) (h : inD a = inD b) : a = b := by simpa [inD] using h
theorem ndc_inj (a b : Nd) (h : a.c = b.c) : a = b := by
  obtain ⟨k, ⟨k1, x, y, e, f, cd, ar, th, el, no⟩, nx, hh⟩ := a
  obtain ⟨k', ⟨k1', x', y', e', f', cd', ar', th', el', no'⟩, nx', hh'⟩ := b
  simp only [Nd.c, Sm.k, Sm.x, Sm.y, Sm.e, Sm.f, Sm.cd, Sm.ar, Sm.th, Sm.el, Sm.no, List.cons.injEq, C.v.injEq, C.d.injEq, C.ov.injEq, D.sl.injEq, Value.int.injEq, Value.string.injEq, Value.bool.injEq, true_and, and_true] at h
  obtain ⟨rfl, rfl, h1, h2, h3, h4, h5, h6, h7, h8, rfl, h9, rfl⟩ := h
  rw [bs_inj h1, bs_inj h2, exC_inj h3, exC_inj h4, cdC_inj h5, map_inj ar_inj h6, map_inj sm_inj h7, map_inj sm_inj h8, map_inj inC_inj h9]
theorem lwc_inj (a b : Lw) (h : a.c = b.c) : a = b := by
  obtain ⟨l, r, z⟩ := a
  obtain ⟨l', r', z'⟩ := b
  simp only [Lw.c, List.cons.injEq, C.ov.injEq, true_and, and_true] at h
  obtain ⟨h1, h2⟩ := h
  obtain rfl := map_inj ndc_inj h1
  cases z <;> cases z' <;> simp only [rtC, C.ov.injEq, C.d.injEq, D.sl.injEq, true_and, reduceCtorEq] at h2
  · rw [map_inj inC_inj h2]
  · rw [map_inj inD_inj h2]
theorem rt_nm (r : List Int) (z : Bool) : C.names (rtC r z) = [] := by cases z <;> rfl
theorem lwc_nm (w : Lw) : ∀ c ∈ w.c, c.names = [] := by
  intro c hc
  simp only [Lw.c, List.mem_cons, List.not_mem_nil, or_false] at hc
  rcases hc with rfl | rfl
  · rfl
  · exact rt_nm _ _
noncomputable def mLw : RowM Lw := rowMOf zLw Lw.c lwc_nm
theorem mLw_z : mLw.z = zLw := rfl
theorem mLw_e : mLw.e = Lw.c := rfl
theorem mLw_d' (w : Lw) : mLw.d w.c = some w := rowMOf_d lwc_inj w
theorem mLw_df (l : List Nd) (r : List Int) : mLw.d [.ov zNd (l.map Nd.c), .ov zIn (r.map inC)] = some ⟨l, r, false⟩ := mLw_d' ⟨l, r, false⟩
theorem mLw_dt (l : List Nd) (r : List Int) : mLw.d [.ov zNd (l.map Nd.c), .d (.sl zID (r.map inD))] = some ⟨l, r, true⟩ := mLw_d' ⟨l, r, true⟩
theorem mem_lw (p : Lw) : ∀ q, some q ∈ [some ((zLw, [p.c]) : MV)] → ∀ r ∈ q.2, ∀ c ∈ r, c.names = [] := by
  intro q hq r hr c hc
  simp only [List.mem_singleton, Option.some.injEq] at hq
  subst hq
  simp only [List.mem_singleton] at hr
  subst hr
  exact lwc_nm p c hc
theorem nd_all (l : List Nd) : ((l.map Nd.c).all fun r => r.all fun c => c.names.isEmpty) = true := nd_cl l
theorem nd_alls (l : List Nd) (i : Nat) (r : List C) (h : (r.all fun c => c.names.isEmpty) = true) : (((l.map Nd.c).set i r).all fun r => r.all fun c => c.names.isEmpty) = true := nd_cls l i r h
theorem in_all (l : List Int) : ((l.map inC).all fun r => r.all fun c => c.names.isEmpty) = true := rowsI.cl
theorem nd_ln {l : List Nd} (r : List C) (h : l.length ≤ 1000000000) : IntKind.i64.wrap (((l.map Nd.c ++ [r]).length : Int) - 1) = (l.length : Int) := by
  rw [wrap_i64 (by simp <;> omega) (by simp <;> omega)]; simp <;> omega
def addW (k : Int) (s : Sm) (h : Bool) (w : Lw) : Lw := { w with l := w.l ++ [⟨k, s, [], h⟩] }
abbrev yc_add (lw : Lw) (kd : Int) (s : Sm) (h : Bool) : Prop := lw.l.length ≤ 1000000000
abbrev yr_add (lw : Lw) (kd : Int) (s : Sm) (h : Bool) : SV := .one (.v (.int .i64 (lw.l.length : Int)))
abbrev ym_add (lw : Lw) (kd : Int) (s : Sm) (h : Bool) : List (Option MV) := [some (zLw, [(addW kd s h lw).c])]
noncomputable abbrev ya_add : ArgM ((Lw) × (Int) × (Sm) × (Bool) × Unit) := (amP (mLw) (amD (cInt .i64) (amD (cSm) (amD (cBool) am0))))
abbrev yq_add : Prop := CallsM Try.prog 34 ((ya_add).args 0) (ya_add).mem (fun p : (Lw) × (Int) × (Sm) × (Bool) × Unit => yc_add p.1 p.2.1 p.2.2.1 p.2.2.2.1) (fun p : (Lw) × (Int) × (Sm) × (Bool) × Unit => yr_add p.1 p.2.1 p.2.2.1 p.2.2.2.1) (fun p : (Lw) × (Int) × (Sm) × (Bool) × Unit => ym_add p.1 p.2.1 p.2.2.1 p.2.2.2.1)
theorem yl_add : ∀ p, (fun p : (Lw) × (Int) × (Sm) × (Bool) × Unit => yc_add p.1 p.2.1 p.2.2.1 p.2.2.2.1) p → lenM ((ya_add).mem p).length ((fun p : (Lw) × (Int) × (Sm) × (Bool) × Unit => ym_add p.1 p.2.1 p.2.2.1 p.2.2.2.1) p) = true := by intro p _; rfl
theorem yo_add : ∀ p, (fun p : (Lw) × (Int) × (Sm) × (Bool) × Unit => yc_add p.1 p.2.1 p.2.2.1 p.2.2.2.1) p → outV ((fun p : (Lw) × (Int) × (Sm) × (Bool) × Unit => ym_add p.1 p.2.1 p.2.2.1 p.2.2.2.1) p).length ((fun p : (Lw) × (Int) × (Sm) × (Bool) × Unit => yr_add p.1 p.2.1 p.2.2.1 p.2.2.2.1) p) = true := by intro p _; first | rfl | exact ex_out _ _ | exact cd_out _ _ | (simp [outV, outC, ex_out, cd_out]; done)
theorem yn_add : ∀ p, (fun p : (Lw) × (Int) × (Sm) × (Bool) × Unit => yc_add p.1 p.2.1 p.2.2.1 p.2.2.2.1) p → ∀ q, some q ∈ (fun p : (Lw) × (Int) × (Sm) × (Bool) × Unit => ym_add p.1 p.2.1 p.2.2.1 p.2.2.2.1) p → ∀ r ∈ q.2, ∀ c ∈ r, c.names = [] := by intro p _; exact mem_lw _
theorem y_add : yq_add := by
  rintro ⟨lw, kd, s, h, _u⟩ w M I lab fz xs hc hA hl hx
  refine calls_toML Try.func34 rfl ((ya_add).mem ⟨lw, kd, s, h, _u⟩) w M I lab fz [] [] ((ya_add).args 0 ⟨lw, kd, s, h, _u⟩) ((fun p : (Lw) × (Int) × (Sm) × (Bool) × Unit => ym_add p.1 p.2.1 p.2.2.1 p.2.2.2.1) ⟨lw, kd, s, h, _u⟩) ((fun p : (Lw) × (Int) × (Sm) × (Bool) × Unit => yr_add p.1 p.2.1 p.2.2.1 p.2.2.2.1) ⟨lw, kd, s, h, _u⟩) xs hA hl hx (fun v hv k hk => by have := (ya_add).an 0 ⟨lw, kd, s, h, _u⟩ v hv k hk; omega) (Nat.le_of_ble_eq_true rfl) (Nat.le_of_ble_eq_true rfl) ?_
  clear hx hl hA xs
  simp only [Try.f34]
  obtain ⟨l, r, z⟩ := lw
  obtain ⟨k1, x, y, e, f, cd, ar, th, el, no⟩ := s
  have hl : l.length ≤ 1000000000 := hc
  have hn := fun r => nd_ln (l := l) r hl
  cases z with
  | false =>
    simp only [↓eB, seval, go_sem, mLw_e, mLw_z, mLw_df, mLw_dt, Lw.c, rtC, cSm_e, cSm_d, Sm.c, Sm.k, Sm.x, Sm.y, Sm.e, Sm.f, Sm.cd, Sm.ar, Sm.th, Sm.el, Sm.no]
    try simp only [impB, impN]
    repeat' first | exact ck | with_reducible apply And.intro | intro _
    all_goals first | exact hl | (rename_i h; first | exact oI h | exact nah h) | (rename_i _ h _ g; exact sL h g) | decide | omega | (refine ret_with [.nilc 19 l.length 11 zIn, .fold 0 0 0] ?_; simp only [↓eB, seval, go_sem, bne, yr_add, ym_add, hn, nd_ln, nd_la, nd_ls, List.all_append, nd_all, in_all, nd_alls, List.isEmpty_nil, List.map_append, List.map_set, addW, Nd.c, Lw.c, rtC, zLw, Sm.c, Sm.k, Sm.x, Sm.y, Sm.e, Sm.f, Sm.cd, Sm.ar, Sm.th, Sm.el, Sm.no])
  | true =>
    simp only [↓eB, seval, go_sem, mLw_e, mLw_z, mLw_df, mLw_dt, Lw.c, rtC, cSm_e, cSm_d, Sm.c, Sm.k, Sm.x, Sm.y, Sm.e, Sm.f, Sm.cd, Sm.ar, Sm.th, Sm.el, Sm.no]
    try simp only [impB, impN]
    repeat' first | exact ck | with_reducible apply And.intro | intro _
    all_goals first | exact hl | (rename_i h; first | exact oI h | exact nah h) | (rename_i _ h _ g; exact sL h g) | decide | omega | (refine ret_with [.nilc 19 l.length 11 zIn, .fold 0 0 0] ?_; simp only [↓eB, seval, go_sem, bne, yr_add, ym_add, hn, nd_ln, nd_la, nd_ls, List.all_append, nd_all, in_all, nd_alls, List.isEmpty_nil, List.map_append, List.map_set, addW, Nd.c, Lw.c, rtC, zLw, Sm.c, Sm.k, Sm.x, Sm.y, Sm.e, Sm.f, Sm.cd, Sm.ar, Sm.th, Sm.el, Sm.no])
noncomputable def yp_add {X : Ctx} {w0 : World} : Sy.Spec Try.prog X w0 := specM 34 Try.call34 (ya_add) (fun p : (Lw) × (Int) × (Sm) × (Bool) × Unit => yc_add p.1 p.2.1 p.2.2.1 p.2.2.2.1) (fun p : (Lw) × (Int) × (Sm) × (Bool) × Unit => yr_add p.1 p.2.1 p.2.2.1 p.2.2.2.1) (fun p : (Lw) × (Int) × (Sm) × (Bool) × Unit => ym_add p.1 p.2.1 p.2.2.1 p.2.2.2.1) yl_add yo_add yn_add y_add
def nd0 : Nd := ⟨0, .mk 0 [] [] .nil .nil .nil [] [] [] 0, [], false⟩
def Nd.to (x : Nd) (b : Int) : Nd := { x with nx := x.nx ++ [b] }
def lnkW (a b : Int) (w : Lw) : Lw := { w with l := w.l.set a.toNat ((w.l.getD a.toNat nd0).to b) }
def okK (w : Lw) (a : Int) : Prop := 0 ≤ a ∧ a < (w.l.length : Int) ∧ w.l.length ≤ 1000000000 ∧ (w.l.getD a.toNat nd0).nx.length ≤ 1000000000
abbrev yc_link (lw : Lw) (a : Int) (b : Int) : Prop := okK lw a
abbrev yr_link (lw : Lw) (a : Int) (b : Int) : SV := .tup []
abbrev ym_link (lw : Lw) (a : Int) (b : Int) : List (Option MV) := [some (zLw, [(lnkW a b lw).c])]
noncomputable abbrev ya_link : ArgM ((Lw) × (Int) × (Int) × Unit) := (amP (mLw) (amD (cInt .i64) (amD (cInt .i64) am0)))
abbrev yq_link : Prop := CallsM Try.prog 36 ((ya_link).args 0) (ya_link).mem (fun p : (Lw) × (Int) × (Int) × Unit => yc_link p.1 p.2.1 p.2.2.1) (fun p : (Lw) × (Int) × (Int) × Unit => yr_link p.1 p.2.1 p.2.2.1) (fun p : (Lw) × (Int) × (Int) × Unit => ym_link p.1 p.2.1 p.2.2.1)
theorem yl_link : ∀ p, (fun p : (Lw) × (Int) × (Int) × Unit => yc_link p.1 p.2.1 p.2.2.1) p → lenM ((ya_link).mem p).length ((fun p : (Lw) × (Int) × (Int) × Unit => ym_link p.1 p.2.1 p.2.2.1) p) = true := by intro p _; rfl
theorem yo_link : ∀ p, (fun p : (Lw) × (Int) × (Int) × Unit => yc_link p.1 p.2.1 p.2.2.1) p → outV ((fun p : (Lw) × (Int) × (Int) × Unit => ym_link p.1 p.2.1 p.2.2.1) p).length ((fun p : (Lw) × (Int) × (Int) × Unit => yr_link p.1 p.2.1 p.2.2.1) p) = true := by intro p _; rfl
theorem yn_link : ∀ p, (fun p : (Lw) × (Int) × (Int) × Unit => yc_link p.1 p.2.1 p.2.2.1) p → ∀ q, some q ∈ (fun p : (Lw) × (Int) × (Int) × Unit => ym_link p.1 p.2.1 p.2.2.1) p → ∀ r ∈ q.2, ∀ c ∈ r, c.names = [] := by intro p _; exact mem_lw _
theorem y_link : yq_link := by
  rintro ⟨lw, a, b, _u⟩ w M I lab fz xs hc hA hl hx
  refine calls_toML Try.func36 rfl ((ya_link).mem ⟨lw, a, b, _u⟩) w M I lab fz [] [(0, [.unr 0 0 0 1000, .unr 1000 a.toNat 11 1001])] ((ya_link).args 0 ⟨lw, a, b, _u⟩) ((fun p : (Lw) × (Int) × (Int) × Unit => ym_link p.1 p.2.1 p.2.2.1) ⟨lw, a, b, _u⟩) ((fun p : (Lw) × (Int) × (Int) × Unit => yr_link p.1 p.2.1 p.2.2.1) ⟨lw, a, b, _u⟩) xs hA hl hx (fun v hv k hk => by have := (ya_link).an 0 ⟨lw, a, b, _u⟩ v hv k hk; omega) (Nat.le_of_ble_eq_true rfl) (Nat.le_of_ble_eq_true rfl) ?_
  clear hx hl hA xs
  simp only [Try.f36]
  obtain ⟨h0, h1, h2, h3⟩ := hc
  obtain ⟨l, r, z⟩ := lw
  dsimp only at h0 h1 h2 h3
  have hi : a.toNat < l.length := by omega
  obtain ⟨x, hx⟩ : ∃ x, l[a.toNat]? = some x := ⟨_, List.getElem?_eq_getElem hi⟩
  have hg : l.getD a.toNat nd0 = x := by simp [List.getD, hx]
  rw [hg] at h3
  have q1 := nd_at hx
  have q2 := nd_sg hx
  have q3 := nd_sq hx
  obtain ⟨k, ⟨k1, xs, y, e, f, cd, ar, th, el, no⟩, nx, h⟩ := x
  dsimp only at h3
  simp only [Nd.c, Sm.c, Sm.k, Sm.x, Sm.y, Sm.e, Sm.f, Sm.cd, Sm.ar, Sm.th, Sm.el, Sm.no] at q1
  cases z with
  | false =>
    simp only [↓eB, seval, go_sem, mLw_e, mLw_z, mLw_df, mLw_dt, Lw.c, rtC, cSm_e, cSm_d, Sm.c, Sm.k, Sm.x, Sm.y, Sm.e, Sm.f, Sm.cd, Sm.ar, Sm.th, Sm.el, Sm.no, q1, q2, q3, List.set_set]
    try simp only [impB, impN]
    repeat' first | exact ck | with_reducible apply And.intro | intro _
    all_goals first | exact h0 | exact h1 | (rename_i h; first | exact oI h | exact nah h) | (rename_i _ h _ g; exact sL h g) | decide | omega | (refine ret_with [.fold 1000 a.toNat 11, .fold 0 0 0] ?_; simp only [↓eB, seval, go_sem, bne, yr_link, ym_link, lnkW, hg, Nd.to, inC, q1, q2, q3, List.set_set, List.map_set, nd_ln, nd_la, nd_ls, List.all_append, nd_all, in_all, nd_alls, List.isEmpty_nil, List.map_append, addW, Nd.c, Lw.c, rtC, zLw, Sm.c, Sm.k, Sm.x, Sm.y, Sm.e, Sm.f, Sm.cd, Sm.ar, Sm.th, Sm.el, Sm.no])
  | true =>
    simp only [↓eB, seval, go_sem, mLw_e, mLw_z, mLw_df, mLw_dt, Lw.c, rtC, cSm_e, cSm_d, Sm.c, Sm.k, Sm.x, Sm.y, Sm.e, Sm.f, Sm.cd, Sm.ar, Sm.th, Sm.el, Sm.no, q1, q2, q3, List.set_set]
    try simp only [impB, impN]
    repeat' first | exact ck | with_reducible apply And.intro | intro _
    all_goals first | exact h0 | exact h1 | (rename_i h; first | exact oI h | exact nah h) | (rename_i _ h _ g; exact sL h g) | decide | omega | (refine ret_with [.fold 1000 a.toNat 11, .fold 0 0 0] ?_; simp only [↓eB, seval, go_sem, bne, yr_link, ym_link, lnkW, hg, Nd.to, inC, q1, q2, q3, List.set_set, List.map_set, nd_ln, nd_la, nd_ls, List.all_append, nd_all, in_all, nd_alls, List.isEmpty_nil, List.map_append, addW, Nd.c, Lw.c, rtC, zLw, Sm.c, Sm.k, Sm.x, Sm.y, Sm.e, Sm.f, Sm.cd, Sm.ar, Sm.th, Sm.el, Sm.no])
noncomputable def yp_link {X : Ctx} {w0 : World} : Sy.Spec Try.prog X w0 := specM 36 Try.call36 (ya_link) (fun p : (Lw) × (Int) × (Int) × Unit => yc_link p.1 p.2.1 p.2.2.1) (fun p : (Lw) × (Int) × (Int) × Unit => yr_link p.1 p.2.1 p.2.2.1) (fun p : (Lw) × (Int) × (Int) × Unit => ym_link p.1 p.2.1 p.2.2.1) yl_link yo_link yn_link y_link
end Go.Proofs.Ytiipmaoonnjlpaa
