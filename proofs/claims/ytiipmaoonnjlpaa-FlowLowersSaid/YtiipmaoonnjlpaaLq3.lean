/- The document's graph as plain functions, and what they keep. No conditions but those in each statement. -/
import Derived.Test.YtiipmaoonnjlpaaLq2
import Derived.Test.YtiipmaoonnjlpaaLo3
set_option linter.unusedVariables false
set_option linter.unusedSimpArgs false
namespace Go.Proofs.Ytiipmaoonnjlpaa
open Go Go.Sy Go.RowKit
noncomputable def mIn : RowM Int := rowMOf zIn inC fun n c hc => by simp only [inC, List.mem_singleton] at hc; subst hc; rfl
theorem mIn_d (n : Int) : mIn.d [.v (.int .i64 n)] = some n := rowMOf_d inC_inj n
theorem decM_in (l : List Int) : decM mIn.d (l.map inC) = some l := by
  induction l with
  | nil => rfl
  | cons p l ih => simp only [List.map_cons, decM, ih]; rw [show mIn.d (inC p) = some p from rowMOf_d inC_inj p]
theorem gD_l {H : Hp} {v : SV} {k : Int} {s : Sm} {n : Nat} {h : Bool} (hv : leV v (.agg ((⟨k, s, [], h⟩ : Nd).cs n))) : gD H v = (match H n with
    | some (.vec _ z es) => if z.length = 1 then (decM mIn.d es).map fun nx => ((⟨k, s, nx, h⟩ : Nd), n) else none
    | _ => none) := by
  have hv : ∀ nx, leV v (.agg ((⟨k, s, nx, h⟩ : Nd).cs n)) := fun nx => hv
  cases hg : gD H v with
  | some p =>
    obtain ⟨h1, u, z, h2, h3⟩ := gD_ok hg
    obtain ⟨e1, e2⟩ := nds_uq (hv p.1.nx) h1 (.inl rfl)
    rw [← e2] at h2
    rw [h2]
    dsimp only
    rw [if_pos h3, decM_in, Option.map_some, e1, e2]
  | none =>
    split
    · rename_i u z es hH
      split
      · rename_i hz
        cases hd : decM mIn.d es with
        | none => rfl
        | some nx =>
          exfalso
          have := gD_some (H := H) (v := v) (p := (⟨k, s, nx, h⟩, n)) ⟨hv nx, u, z, by rw [hH, decM_eq mIn hd]; rfl, hz⟩
          rw [hg] at this; cases this
      · rfl
    · rfl
theorem gD_e (H : Hp) (k k1 no : Int) (x y : List UInt8) (e f : Ex) (cd : Cd) (ar : List Ar) (th el : List Sm) (n : Nat) (h : Bool) : gD H (.agg [.v (.int .i64 k), .v (.int .i64 k1), .v (.string (bs x)), .v (.string (bs y)), exC e, exC f, cdC cd, .d (.sl zAr (ar.map Ar.r)), .d (.sl zSm (th.map Sm.r)), .d (.sl zSm (el.map Sm.r)), .v (.int .i64 no), .s n, .v (.bool h)]) = (match H n with
    | some (.vec _ z es) => if z.length = 1 then (decM mIn.d es).map fun nx => ((⟨k, .mk k1 x y e f cd ar th el no, nx, h⟩ : Nd), n) else none
    | _ => none) := gD_l (s := .mk k1 x y e f cd ar th el no) (leV_refl _)
theorem gD_z (H : Hp) (k : Int) (n : Nat) (h : Bool) : gD H (.agg [.v (.int .i64 k), .v (.int .i64 0), .v (.string (bs [])), .v (.string (bs [])), .v (.pointer none), .v (.pointer none), .v (.pointer none), .v (.slice none 0 0), .v (.slice none 0 0), .v (.slice none 0 0), .v (.int .i64 0), .s n, .v (.bool h)]) = (match H n with
    | some (.vec _ z es) => if z.length = 1 then (decM mIn.d es).map fun nx => ((⟨k, sm00, nx, h⟩ : Nd), n) else none
    | _ => none) := gD_l (s := sm00) ⟨leC_refl _, leC_refl _, leC_refl _, leC_refl _, leC_refl _, leC_refl _, leC_refl _, .inr ⟨rfl, rfl⟩, .inr ⟨rfl, rfl⟩, .inr ⟨rfl, rfl⟩, leC_refl _, leC_refl _, leC_refl _, trivial⟩
/- a node of a kind alone -/
def kC (k : Int) : List C := [.v (.int .i64 k), .v (.int .i64 0), .v (.string (bs [])), .v (.string (bs [])), .v (.pointer none), .v (.pointer none), .v (.pointer none), .d (.sl zAr []), .d (.sl zSm []), .d (.sl zSm []), .v (.int .i64 0), .v (.slice none 0 0), .v (.bool false)]
theorem k_uq (v : SV) (a b : Int) (h : leV v (.agg (kC a))) (g : leV v (.agg (kC b))) : a = b := by
  cases v with
  | one c => exact h.elim
  | tup l => exact h.elim
  | agg l =>
    match l, h, g with
    | c0 :: _, ⟨h0, _⟩, ⟨g0, _⟩ =>
      have e0 := leC_v h0 g0
      simpa using e0
noncomputable def cK : Cod Int := codOf (fun k => .agg (kC k)) k_uq (fun _ => rfl)
theorem cK_e (k : Int) : cK.e k = .agg (kC k) := rfl
theorem cK_d (k : Int) : cK.d (.agg [.v (.int .i64 k), .v (.int .i64 0), .v (.string (bs [])), .v (.string (bs [])), .v (.pointer none), .v (.pointer none), .v (.pointer none), .v (.slice none 0 0), .v (.slice none 0 0), .v (.slice none 0 0), .v (.int .i64 0), .v (.slice none 0 0), .v (.bool false)]) = some k := codOf_le (e := fun k : Int => .agg (kC k)) ⟨leC_refl _, leC_refl _, leC_refl _, leC_refl _, leC_refl _, leC_refl _, leC_refl _, .inr ⟨rfl, rfl⟩, .inr ⟨rfl, rfl⟩, .inr ⟨rfl, rfl⟩, leC_refl _, leC_refl _, leC_refl _, trivial⟩
abbrev yc_gnodeX (l : List Nd) (kd : Int) : Prop := l.length ≤ 1000000000
abbrev yr_gnodeX (l : List Nd) (kd : Int) : SV := .one (.v (.int .i64 (l.length : Int)))
abbrev ym_gnodeX (l : List Nd) (kd : Int) : List (Option MV) := [some (zGg, [ggC (l ++ [⟨kd, sm00, [], false⟩])])]
noncomputable abbrev ya_gnodeX : ArgM ((List Nd) × (Int) × Unit) := (amP (mGg) (amD (cK) am0))
abbrev yq_gnodeX : Prop := CallsM Try.prog 40 ((ya_gnodeX).args 0) (ya_gnodeX).mem (fun p : (List Nd) × (Int) × Unit => yc_gnodeX p.1 p.2.1) (fun p : (List Nd) × (Int) × Unit => yr_gnodeX p.1 p.2.1) (fun p : (List Nd) × (Int) × Unit => ym_gnodeX p.1 p.2.1)
theorem yl_gnodeX : ∀ p, (fun p : (List Nd) × (Int) × Unit => yc_gnodeX p.1 p.2.1) p → lenM ((ya_gnodeX).mem p).length ((fun p : (List Nd) × (Int) × Unit => ym_gnodeX p.1 p.2.1) p) = true := by intro p _; rfl
theorem yo_gnodeX : ∀ p, (fun p : (List Nd) × (Int) × Unit => yc_gnodeX p.1 p.2.1) p → outV ((fun p : (List Nd) × (Int) × Unit => ym_gnodeX p.1 p.2.1) p).length ((fun p : (List Nd) × (Int) × Unit => yr_gnodeX p.1 p.2.1) p) = true := by intro p _; first | rfl | exact ex_out _ _ | exact cd_out _ _ | (simp [outV, outC, ex_out, cd_out]; done)
theorem yn_gnodeX : ∀ p, (fun p : (List Nd) × (Int) × Unit => yc_gnodeX p.1 p.2.1) p → ∀ q, some q ∈ (fun p : (List Nd) × (Int) × Unit => ym_gnodeX p.1 p.2.1) p → ∀ r ∈ q.2, ∀ c ∈ r, c.names = [] := by intro p _; exact mem_gg _ _ (by simp)
theorem y_gnodeX : yq_gnodeX := by
  rintro ⟨l, kd, _u⟩ w M I lab fz xs hc hA hl hx
  refine calls_toML Try.func40 rfl ((ya_gnodeX).mem ⟨l, kd, _u⟩) w M I lab fz [] [] ((ya_gnodeX).args 0 ⟨l, kd, _u⟩) ((fun p : (List Nd) × (Int) × Unit => ym_gnodeX p.1 p.2.1) ⟨l, kd, _u⟩) ((fun p : (List Nd) × (Int) × Unit => yr_gnodeX p.1 p.2.1) ⟨l, kd, _u⟩) xs hA hl hx (fun v hv k hk => by have := (ya_gnodeX).an 0 ⟨l, kd, _u⟩ v hv k hk; omega) (Nat.le_of_ble_eq_true rfl) (Nat.le_of_ble_eq_true rfl) ?_
  clear hx hl hA xs
  simp only [Try.f40]
  have hl : l.length ≤ 1000000000 := hc
  have hn := fun r => nd_ln (l := l) r hl
  simp only [↓eB, seval, go_sem, mGg_e, mGg_z, mGg_d, cK_e, kC, ggC, Sm.c, Sm.k, Sm.x, Sm.y, Sm.e, Sm.f, Sm.cd, Sm.ar, Sm.th, Sm.el, Sm.no]
  try simp only [impB, impN]
  repeat' first | exact ck | with_reducible apply And.intro | intro _
  all_goals first | exact hl | (rename_i h; first | exact oI h | exact nah h) | (rename_i _ h _ g; exact sL h g) | decide | omega | (refine ret_with [.nilc 12 l.length 11 zIn, .fold 0 0 0] ?_; simp only [↓eB, seval, go_sem, bne, yr_gnodeX, ym_gnodeX, hn, nd_ln, nd_la, nd_ls, List.all_append, nd_all, in_all, nd_alls, List.isEmpty_nil, List.map_append, List.map_set, Nd.c, ggC, zGg, sm00, ex_nil, cd_nil, Sm.c, Sm.k, Sm.x, Sm.y, Sm.e, Sm.f, Sm.cd, Sm.ar, Sm.th, Sm.el, Sm.no])
noncomputable def yp_gnodeX {X : Ctx} {w0 : World} : Sy.Spec Try.prog X w0 := specM 40 Try.call40 (ya_gnodeX) (fun p : (List Nd) × (Int) × Unit => yc_gnodeX p.1 p.2.1) (fun p : (List Nd) × (Int) × Unit => yr_gnodeX p.1 p.2.1) (fun p : (List Nd) × (Int) × Unit => ym_gnodeX p.1 p.2.1) yl_gnodeX yo_gnodeX yn_gnodeX y_gnodeX
abbrev QS := List Pq × List Nd × List Pq
section
variable (gb : List Sm → List Pq → List Nd → List Pq → QS) (s : Sm) (f : List Pq) (g : List Nd) (r : List Pq)
def gN (k : Int) (nx : List Int) (h : Bool) : List Nd := lnkG f (g.length : Int) (g ++ [⟨k, s, nx, h⟩])
def giA : QS := gb s.th [((g.length : Int), 0)] (gN s f g 2 [0, 0] false) r
def giB : QS := gb s.el [((g.length : Int), 1)] (giA gb s f g r).2.1 (giA gb s f g r).2.2
def giJ : Int := ((giB gb s f g r).2.1.length : Int)
def gif : QS := ([(giJ gb s f g r, 0)], lnkG ((giA gb s f g r).1 ++ (giB gb s f g r).1) (giJ gb s f g r) ((giB gb s f g r).2.1 ++ [⟨4, sm00, [0], false⟩]), (giB gb s f g r).2.2)
def gwA : QS := gb s.th [((g.length : Int), 0)] (gN s f g 2 [0, 0] true) r
def gwh : QS := ([((g.length : Int), 1)], lnkG (gwA gb s f g r).1 (g.length : Int) (gwA gb s f g r).2.1, (gwA gb s f g r).2.2)
def gpl : QS := if (s.k == 9) = true then ([], gN s f g 1 [0] false, r ++ [((g.length : Int), 0)]) else ([((g.length : Int), 0)], gN s f g 1 [0] false, r)
def qS : QS := if (s.k == 10) = true then gif gb s f g r else if (s.k == 11) = true then gwh gb s f g r else gpl s f g r
end
def qL (st : Sm → List Pq → List Nd → List Pq → QS) : List Sm → List Pq → List Nd → List Pq → QS
  | [], f, g, r => (f, g, r)
  | s :: l, f, g, r => qL st l (st s f g r).1 (st s f g r).2.1 (st s f g r).2.2
def qB : Nat → List Sm → List Pq → List Nd → List Pq → QS
  | 0, _, f, g, r => (f, g, r)
  | m + 1, l, f, g, r => qL (qS (qB m)) l f g r
/-- the old nodes stay, with as many ways -/
def Ext (g g' : List Nd) : Prop := g.length ≤ g'.length ∧ ∀ q, okQ g q → okQ g' q
theorem Ext.refl (g : List Nd) : Ext g g := ⟨Nat.le_refl _, fun _ h => h⟩
theorem Ext.trans {a b c : List Nd} (h : Ext a b) (k : Ext b c) : Ext a c := ⟨Nat.le_trans h.1 k.1, fun q hq => k.2 q (h.2 q hq)⟩
theorem ext_add (g : List Nd) (x : Nd) : Ext g (g ++ [x]) := by
  refine ⟨by simp, fun q ⟨h1, h2, h3, h4⟩ => ⟨h1, by simp; omega, h3, ?_⟩⟩
  have hi : q.1.toNat < g.length := by omega
  have : (g ++ [x]).getD q.1.toNat nd0 = g.getD q.1.toNat nd0 := by simp [List.getD, List.getElem?_append_left hi]
  rw [this]; exact h4
theorem ext_lnk (f : List Pq) (t : Int) (g : List Nd) : Ext g (lnkG f t g) := ⟨by rw [lnkG_len]; exact Nat.le_refl _, fun q h => lnkG_ok f t g q h⟩
theorem okQ_new (g : List Nd) (x : Nd) {j : Int} (h0 : 0 ≤ j) (h : j < (x.nx.length : Int)) : okQ (g ++ [x]) ((g.length : Int), j) := by
  refine ⟨by simp, by simp <;> omega, h0, ?_⟩
  have : (g ++ [x]).getD ((g.length : Int)).toNat nd0 = x := by simp [List.getD]
  rw [this]; exact h
structure okX (c : Nat) (f : List Pq) (g : List Nd) (r : List Pq) : Prop where
  gl : g.length ≤ c
  rl : r.length ≤ c
  fl : f.length ≤ 1
  q : ∀ p ∈ f, okQ g p
  k : ∀ p ∈ r, okQ g p
theorem okX.mono {c d : Nat} {f r : List Pq} {g : List Nd} (h : okX c f g r) (hd : c ≤ d) : okX d f g r := ⟨Nat.le_trans h.gl hd, Nat.le_trans h.rl hd, h.fl, h.q, h.k⟩
theorem okX.w {c : Nat} {f r : List Pq} {g : List Nd} (h : okX c f g r) (hc : c ≤ 1000000000) : okW g f := ⟨by have := h.gl; omega, by have := h.fl; omega, h.q⟩
structure Gx (c : Nat) (g : List Nd) (R : QS) : Prop where
  ok : okX c R.1 R.2.1 R.2.2
  e : Ext g R.2.1
theorem Gx.mono {c d : Nat} {g : List Nd} {R : QS} (h : Gx c g R) (hd : c ≤ d) : Gx d g R := ⟨h.ok.mono hd, h.e⟩
def OkGb (m : Nat) (gb : List Sm → List Pq → List Nd → List Pq → QS) : Prop := ∀ l f g r c, okD m l → okX c f g r → Gx (c + 8 * szB m l) g (gb l f g r)
section
variable {gb : List Sm → List Pq → List Nd → List Pq → QS} {m : Nat} (hb : OkGb m gb) {s : Sm} (h1 : okD m s.th) (h2 : okD m s.el) {f : List Pq} {g : List Nd} {r : List Pq} {c : Nat} (h : okX c f g r)
include h
/-- a node is added and linked -/
theorem gN_ok (k : Int) (nx : List Int) (b : Bool) : okX (c + 1) f (g ++ [⟨k, s, nx, b⟩]) r ∧ Ext (g ++ [⟨k, s, nx, b⟩]) (gN s f g k nx b) ∧ (gN s f g k nx b).length = g.length + 1 ∧ Ext g (gN s f g k nx b) ∧ (∀ j : Int, 0 ≤ j → j < (nx.length : Int) → okX (c + 1) [((g.length : Int), j)] (gN s f g k nx b) r) := by
  have e1 := ext_add g ⟨k, s, nx, b⟩
  have e2 : Ext (g ++ [⟨k, s, nx, b⟩]) (gN s f g k nx b) := ext_lnk _ _ _
  have el : (gN s f g k nx b).length = g.length + 1 := by unfold gN; rw [lnkG_len]; simp
  refine ⟨⟨by simp; exact h.gl, by have := h.rl; omega, h.fl, fun p hp => e1.2 p (h.q p hp), fun p hp => e1.2 p (h.k p hp)⟩, e2, el, e1.trans e2, fun j hj hj2 => ⟨by rw [el]; have := h.gl; omega, by have := h.rl; omega, Nat.le_refl _, fun p hp => ?_, fun p hp => (e1.trans e2).2 p (h.k p hp)⟩⟩
  rw [List.mem_singleton.1 hp]
  exact e2.2 _ (okQ_new g _ hj hj2)
include hb h1
theorem giA_gx : Gx (c + 1 + 8 * szB m s.th) (gN s f g 2 [0, 0] false) (giA gb s f g r) := hb _ _ _ _ _ h1 ((gN_ok h 2 [0, 0] false).2.2.2.2 0 (by decide) (by decide))
theorem gwA_gx : Gx (c + 1 + 8 * szB m s.th) (gN s f g 2 [0, 0] true) (gwA gb s f g r) := hb _ _ _ _ _ h1 ((gN_ok h 2 [0, 0] true).2.2.2.2 0 (by decide) (by decide))
theorem gwh_gx : Gx (c + 8 * (1 + szB m s.th + szB m s.el) - 1) g (gwh gb s f g r) := by
  have A := gwA_gx hb h1 h
  obtain ⟨n1, n2, n3, n4, n5⟩ := gN_ok (s := s) h 2 [0, 0] true
  have e1 : Ext (gwA gb s f g r).2.1 (gwh gb s f g r).2.1 := ext_lnk _ _ _
  have e2 := A.e.trans e1
  refine ⟨⟨?_, ?_, Nat.le_refl _, fun p hp => ?_, fun p hp => e1.2 p (A.ok.k p hp)⟩, n4.trans e2⟩
  · show (lnkG _ _ _).length ≤ _; rw [lnkG_len]; have := A.ok.gl; omega
  · have := A.ok.rl; show (gwA gb s f g r).2.2.length ≤ _; omega
  · have hp : p ∈ [((g.length : Int), (1 : Int))] := hp
    rw [List.mem_singleton.1 hp]
    exact e2.2 _ ((n5 1 (by decide) (by decide)).q _ (List.mem_singleton.2 rfl))
theorem giA_x2 : okX (c + 1 + 8 * szB m s.th) [((g.length : Int), 1)] (giA gb s f g r).2.1 (giA gb s f g r).2.2 := by
  have A := giA_gx hb h1 h
  obtain ⟨n1, n2, n3, n4, n5⟩ := gN_ok (s := s) h 2 [0, 0] false
  exact ⟨A.ok.gl, A.ok.rl, Nat.le_refl _, fun p hp => by rw [List.mem_singleton.1 hp]; exact A.e.2 _ ((n5 1 (by decide) (by decide)).q _ (List.mem_singleton.2 rfl)), A.ok.k⟩
include h2
theorem giB_gx : Gx (c + 1 + 8 * szB m s.th + 8 * szB m s.el) (giA gb s f g r).2.1 (giB gb s f g r) := hb _ _ _ _ _ h2 (giA_x2 hb h1 h)
theorem giJ_w : okQ ((giB gb s f g r).2.1 ++ [⟨4, sm00, [0], false⟩]) (giJ gb s f g r, 0) ∧ ((giA gb s f g r).1 ++ (giB gb s f g r).1).length ≤ 2 ∧ ∀ p ∈ (giA gb s f g r).1 ++ (giB gb s f g r).1, okQ ((giB gb s f g r).2.1 ++ [⟨4, sm00, [0], false⟩]) p := by
  have A := giA_gx hb h1 h
  have B := giB_gx hb h1 h2 h
  refine ⟨okQ_new _ _ (by decide) (by decide), by rw [List.length_append]; have := A.ok.fl; have := B.ok.fl; omega, fun p hp => (ext_add _ _).2 p ?_⟩
  rcases List.mem_append.1 hp with hp | hp
  · exact B.e.2 p (A.ok.q p hp)
  · exact B.ok.q p hp
theorem gif_gx : Gx (c + 8 * (1 + szB m s.th + szB m s.el) - 1) g (gif gb s f g r) := by
  have A := giA_gx hb h1 h
  have B := giB_gx hb h1 h2 h
  obtain ⟨j1, j2, j3⟩ := giJ_w hb h1 h2 h
  obtain ⟨n1, n2, n3, n4, n5⟩ := gN_ok (s := s) h 2 [0, 0] false
  have e1 : Ext ((giB gb s f g r).2.1 ++ [⟨4, sm00, [0], false⟩]) (gif gb s f g r).2.1 := ext_lnk _ _ _
  have e2 : Ext (giB gb s f g r).2.1 (gif gb s f g r).2.1 := (ext_add _ _).trans e1
  refine ⟨⟨?_, ?_, Nat.le_refl _, fun p hp => ?_, fun p hp => e2.2 p (B.ok.k p hp)⟩, (n4.trans A.e).trans (B.e.trans e2)⟩
  · show (lnkG _ _ _).length ≤ _; rw [lnkG_len, List.length_append, List.length_singleton]; have := B.ok.gl; omega
  · have := B.ok.rl; show (giB gb s f g r).2.2.length ≤ _; omega
  · have hp : p ∈ [(giJ gb s f g r, (0 : Int))] := hp
    rw [List.mem_singleton.1 hp]
    exact e1.2 _ j1
theorem qS_gx : Gx (c + 8 * (1 + szB m s.th + szB m s.el) - 1) g (qS gb s f g r) := by
  unfold qS
  split
  · exact gif_gx hb h1 h2 h
  split
  · exact gwh_gx hb h1 h
  · unfold gpl
    obtain ⟨n1, n2, n3, n4, n5⟩ := gN_ok (s := s) h 1 [0] false
    have n6 := n5 0 (by decide) (by decide)
    split
    · refine ⟨⟨by rw [n3]; have := h.gl; omega, by rw [List.length_append, List.length_singleton]; have := h.rl; omega, Nat.zero_le _, (fun p hp => by cases hp), fun p hp => ?_⟩, n4⟩
      rcases List.mem_append.1 hp with hp | hp
      · exact n6.k p hp
      · exact n6.q p hp
    · exact ⟨n6.mono (by omega), n4⟩
end
theorem qL_gx {gb : List Sm → List Pq → List Nd → List Pq → QS} {m : Nat} (hb : OkGb m gb) : ∀ (l : List Sm) (f : List Pq) (g : List Nd) (r : List Pq) (c : Nat), (∀ s ∈ l, okD m s.th ∧ okD m s.el) → okX c f g r → Gx (c + 8 * szB (m + 1) l) g (qL (qS gb) l f g r)
  | [], f, g, r, c, hd, h => ⟨h.mono (Nat.le_add_right ..), .refl g⟩
  | s :: l, f, g, r, c, hd, h => by
    obtain ⟨d1, d2⟩ := hd s (List.mem_cons_self ..)
    have S := qS_gx hb d1 d2 h
    have R := qL_gx hb l _ _ _ _ (fun s hs => hd s (List.mem_cons_of_mem _ hs)) S.ok
    rw [szB_cons]
    exact ⟨R.ok.mono (by omega), S.e.trans R.e⟩
theorem qB_gx : ∀ m : Nat, OkGb m (qB m)
  | 0 => fun l f g r c h _ => h.elim
  | m + 1 => fun l f g r c h hx => qL_gx (qB_gx m) l f g r c h.2 hx
end Go.Proofs.Ytiipmaoonnjlpaa
