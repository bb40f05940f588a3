/- The document's graph: nodes added. No conditions but those in each statement. -/
import Derived.Test.YtiipmaoonnjlpaaLo1
set_option linter.unusedVariables false
set_option linter.unusedSimpArgs false
namespace Go.Proofs.Ytiipmaoonnjlpaa
open Go Go.Sy Go.RowKit
/- an argument that holds memory -/
def amY {A B : Type} (dd : Hp → SV → Option (A × Nat)) (e : A → Nat → SV) (m : A → MV) (h1 : ∀ {H : Hp} {v : SV} {b : A} {k : Nat}, dd H v = some (b, k) → leV v (e b k) ∧ ∃ u z, H k = some (.vec u z (m b).2) ∧ z.length = (m b).1.length)
    (h2 : ∀ {b : A} {k k' : Nat} {x : Value} {hh : Heap} {fz : Nat → Prop} {lab lab' : Lab} {I I' : Nm} {H0 H' : Hp}, I' k' = I k → SDen hh fz lab I H0 (e b k) x → SDen hh fz lab' I' H' (e b k') x) (h3 : ∀ b, ∀ r ∈ (m b).2, ∀ c ∈ r, c.names = []) (h4 : ∀ b i, (e b i).names = [i])
    (h5 : ∀ {H H' : Hp} {v : SV} {b : A} {k : Nat}, dd H v = some (b, k) → H' k = H k → dd H' v = some (b, k)) (r : ArgM B) : ArgM (A × B) where
  d | _, [] => none
    | H, v :: l => pairN (dd H v) (r.d H l)
  args i p := e p.1 i :: r.args (i + 1) p.2
  mem p := m p.1 :: r.mem p.2
  h H l a ks h := by
    split at h
    · cases h
    · rename_i v l
      unfold pairN at h
      split at h
      · rename_i x k y g hx hy
        simp only [Option.some.injEq, Prod.mk.injEq] at h
        obtain ⟨rfl, rfl⟩ := h
        obtain ⟨g1, g2, g3⟩ := r.h H l y g hy
        obtain ⟨_, u, z, e1, e2⟩ := h1 hx
        refine ⟨fun i => by simp [g1], by simp [g2], fun i k' hk => ?_⟩
        cases i with
        | zero => simp only [List.getElem?_cons_zero, Option.some.injEq] at hk; subst hk; exact ⟨u, z, _, e1, rfl, e2⟩
        | succ i => exact g3 i k' (by simpa using hk)
      · cases h
  ha H l a ks i0 j v v' x hh fz lab lab' I I' H0 H' h g1 g2 g3 g4 := by
    split at h
    · cases h
    · rename_i u l
      unfold pairN at h
      split at h
      · rename_i x0 k y g hx hy
        simp only [Option.some.injEq, Prod.mk.injEq] at h
        obtain ⟨rfl, rfl⟩ := h
        cases j with
        | zero =>
          simp only [List.getElem?_cons_zero, Option.some.injEq] at g1 g2
          subst g1; subst g2
          exact h2 (by have := g3 0 k rfl; simpa using this) (sd_le (h1 hx).1 g4)
        | succ j =>
          refine r.ha H l y g (i0 + 1) j v v' x hy (by simpa using g1) (by simpa using g2) (fun i k' hk => ?_) g4
          have := g3 (i + 1) k' (by simpa using hk)
          rw [← this]; congr 1; omega
      · cases h
  n a m' hm := by
    rcases List.mem_cons.1 hm with e | e
    · subst e; exact h3 _
    · exact r.n a.2 m' e
  an i a v hv k hk := by
    rcases List.mem_cons.1 hv with e | e
    · subst e; rw [h4] at hk; simp only [List.mem_singleton] at hk; subst hk; simp
    · have := r.an (i + 1) a.2 v e k hk
      simp only [List.length_cons]; omega
  l H H' v a ks h hf := by
    split at h
    · cases h
    · unfold pairN at h
      split at h
      · rename_i x k y g hx hy
        simp only [Option.some.injEq, Prod.mk.injEq] at h
        obtain ⟨rfl, rfl⟩ := h
        simp only [h5 hx (hf k (List.mem_cons_self ..)), r.l _ _ _ _ _ hy (fun q hq => hf q (List.mem_cons_of_mem _ hq)), pairN]
      · cases h
/-- a node whose list of ways is owned -/
def Nd.cs (x : Nd) (n : Nat) : List C := [.v (.int .i64 x.k), .v (.int .i64 x.s.k), .v (.string (bs x.s.x)), .v (.string (bs x.s.y)), exC x.s.e, exC x.s.f, cdC x.s.cd, .d (.sl zAr (x.s.ar.map Ar.r)), .d (.sl zSm (x.s.th.map Sm.r)), .d (.sl zSm (x.s.el.map Sm.r)), .v (.int .i64 x.s.no), .s n, .v (.bool x.h)]
theorem leC_s {c : C} {n : Nat} (h : leC c (.s n)) : c = .s n := by
  rcases h with h | ⟨_, h⟩
  · exact h
  · simp [emS] at h
theorem nds_uq {v : SV} {a b : Nd} {n m : Nat} (h : leV v (.agg (a.cs n))) (g : leV v (.agg (b.cs m))) (hx : a.nx = b.nx ∨ n ≠ m) : a = b ∧ n = m := by
  cases v with
  | one c => exact h.elim
  | tup l => exact h.elim
  | agg l =>
    match l, h, g with
    | [c0, c1, c2, c3, c4, c5, c6, c7, c8, c9, c10, c11, c12], ⟨h0, h1, h2, h3, h4, h5, h6, h7, h8, h9, h10, h11, h12, _⟩, ⟨g0, g1, g2, g3, g4, g5, g6, g7, g8, g9, g10, g11, g12, _⟩ =>
      have e11 : n = m := by
        have := (leC_s h11).symm.trans (leC_s g11)
        simpa using this
      have es : a.s = b.s := sm_uq (.agg [c1, c2, c3, c4, c5, c6, c7, c8, c9, c10]) a.s b.s ⟨h1, h2, h3, h4, h5, h6, h7, h8, h9, h10, trivial⟩ ⟨g1, g2, g3, g4, g5, g6, g7, g8, g9, g10, trivial⟩
      have e0 := leC_v h0 g0
      have e12 := leC_v h12 g12
      simp only [Value.int.injEq, Value.bool.injEq, true_and] at e0 e12
      have ex : a.nx = b.nx := hx.resolve_right (fun h => h e11)
      obtain ⟨k, s, nx, hh⟩ := a
      obtain ⟨k', s', nx', hh'⟩ := b
      dsimp only at e0 e12 es ex
      subst e0; subst e12; subst es; subst ex
      exact ⟨rfl, e11⟩
def gP (H : Hp) (v : SV) (p : Nd × Nat) : Prop := leV v (.agg (p.1.cs p.2)) ∧ ∃ u z, H p.2 = some (.vec u z (p.1.nx.map inC)) ∧ z.length = 1
open Classical in
noncomputable def gD (H : Hp) (v : SV) : Option (Nd × Nat) := if h : ∃ p, gP H v p then some h.choose else none
theorem gP_uq {H : Hp} {v : SV} {p q : Nd × Nat} (h : gP H v p) (g : gP H v q) : p = q := by
  obtain ⟨h1, u, z, h2, _⟩ := h
  obtain ⟨g1, u', z', g2, _⟩ := g
  have : p.1.nx = q.1.nx ∨ p.2 ≠ q.2 := by
    by_cases e : p.2 = q.2
    · left
      rw [e, g2] at h2
      simp only [Option.some.injEq, Ch.vec.injEq] at h2
      exact (map_inj inC_inj h2.2.2).symm
    · exact .inr e
  obtain ⟨a, b⟩ := nds_uq h1 g1 this
  exact Prod.ext a b
theorem gD_some {H : Hp} {v : SV} {p : Nd × Nat} (h : gP H v p) : gD H v = some p := by
  have hex : ∃ p, gP H v p := ⟨p, h⟩
  unfold gD
  rw [dif_pos hex]
  exact congrArg some (gP_uq hex.choose_spec h)
theorem gD_ok {H : Hp} {v : SV} {p : Nd × Nat} (h : gD H v = some p) : gP H v p := by
  unfold gD at h
  split at h
  · rename_i hex
    simp only [Option.some.injEq] at h
    rw [← h]; exact hex.choose_spec
  · cases h
noncomputable def amG {B : Type} (_ : Unit) (r : ArgM B) : ArgM (Nd × B) :=
  amY gD (fun x n => .agg (x.cs n)) (fun x => (zIn, x.nx.map inC)) (fun h => gD_ok h)
    (fun {b k k' x hh fz lab lab' I I' H0 H'} hI h => by
      obtain ⟨arr, e1, e2, e3⟩ := h
      refine ⟨arr, e1, e2, fun j c hj => ?_⟩
      have cl : ∀ {c : C} {y : Value}, c.names = [] → SC hh fz lab I H0 c y → SC hh fz lab' I' H' c y := fun {c y} hn r => sd_closed (v := .one c) (fun b hb => ⟨hb, rfl⟩) hn r
      have nm : ∀ j c, (b.cs k')[j]? = some c → (j = 11 ∧ c = .s k') ∨ ((b.cs k)[j]? = some c ∧ c.names = []) := by
        intro j c hj
        match j, hj with
        | 0, hj => exact .inr ⟨hj, by cases hj; rfl⟩
        | 1, hj => exact .inr ⟨hj, by cases hj; rfl⟩
        | 2, hj => exact .inr ⟨hj, by cases hj; rfl⟩
        | 3, hj => exact .inr ⟨hj, by cases hj; rfl⟩
        | 4, hj => exact .inr ⟨hj, by obtain rfl := Option.some.inj hj; exact ex_names _⟩
        | 5, hj => exact .inr ⟨hj, by obtain rfl := Option.some.inj hj; exact ex_names _⟩
        | 6, hj => exact .inr ⟨hj, by obtain rfl := Option.some.inj hj; exact cd_names _⟩
        | 7, hj => exact .inr ⟨hj, by cases hj; rfl⟩
        | 8, hj => exact .inr ⟨hj, by cases hj; rfl⟩
        | 9, hj => exact .inr ⟨hj, by cases hj; rfl⟩
        | 10, hj => exact .inr ⟨hj, by cases hj; rfl⟩
        | 11, hj => exact .inl ⟨rfl, (Option.some.inj hj).symm⟩
        | 12, hj => exact .inr ⟨hj, by cases hj; rfl⟩
        | j + 13, hj => simp [Nd.cs] at hj
      rcases nm j c hj with ⟨rfl, rfl⟩ | ⟨h1, h2⟩
      · obtain ⟨y, y1, y2⟩ := e3 11 (.s k) rfl
        exact ⟨y, y1, sd_s (H0 := H0) (H' := H') hI y2⟩
      · obtain ⟨y, y1, y2⟩ := e3 j c h1
        exact ⟨y, y1, cl h2 y2⟩)
    (fun b r hr => by obtain ⟨x, _, rfl⟩ := List.mem_map.1 hr; intro c hc; simp only [inC, List.mem_singleton] at hc; subst hc; rfl)
    (fun b i => by
      show (b.cs i).flatMap C.names = [i]
      simp only [Nd.cs, List.flatMap_cons, List.flatMap_nil, ex_names, cd_names]; rfl)
    (fun {H H' v b k} h hf => by
      obtain ⟨h1, u, z, h2, h3⟩ := gD_ok h
      exact gD_some ⟨h1, u, z, by rw [hf]; exact h2, h3⟩) r
theorem amG_d {B : Type} (u : Unit) (r : ArgM B) (H : Hp) (v : SV) (l : List SV) : (amG u r).d H (v :: l) = pairN (gD H v) (r.d H l) := rfl
theorem amG_a {B : Type} (u : Unit) (r : ArgM B) (i : Nat) (x : Nd) (y : B) : (amG u r).args i (x, y) = .agg (x.cs i) :: r.args (i + 1) y := rfl
theorem amG_m {B : Type} (u : Unit) (r : ArgM B) (x : Nd) (y : B) : (amG u r).mem (x, y) = (zIn, x.nx.map inC) :: r.mem y := rfl
/- the graph -/
def ggC (l : List Nd) : List C := [.ov zNd (l.map Nd.c)]
def zGg : List C := [.v (.slice none 0 0)]
theorem gg_inj (a b : List Nd) (h : ggC a = ggC b) : a = b := by
  simp only [ggC, List.cons.injEq, C.ov.injEq, true_and, and_true] at h
  exact map_inj ndc_inj h
theorem gg_nm (w : List Nd) : ∀ c ∈ ggC w, c.names = [] := by
  intro c hc
  simp only [ggC, List.mem_singleton] at hc
  subst hc; rfl
noncomputable def mGg : RowM (List Nd) := rowMOf zGg ggC gg_nm
theorem mGg_z : mGg.z = zGg := rfl
theorem mGg_e : mGg.e = ggC := rfl
theorem mGg_d (l : List Nd) : mGg.d [.ov zNd (l.map Nd.c)] = some l := rowMOf_d gg_inj l
theorem mem_gg (p : List Nd) (o : List (Option MV)) (ho : ∀ q ∈ o, q = none) : ∀ q, some q ∈ some ((zGg, [ggC p]) : MV) :: o → ∀ r ∈ q.2, ∀ c ∈ r, c.names = [] := by
  intro q hq r hr c hc
  rcases List.mem_cons.1 hq with hq | hq
  · simp only [Option.some.injEq] at hq
    subst hq
    simp only [List.mem_singleton] at hr
    subst hr
    exact gg_nm p c hc
  · exact absurd (ho _ hq) (by simp)
abbrev yc_gnode (l : List Nd) (x : Nd) : Prop := l.length ≤ 1000000000
abbrev yr_gnode (l : List Nd) (x : Nd) : SV := .one (.v (.int .i64 (l.length : Int)))
abbrev ym_gnode (l : List Nd) (x : Nd) : List (Option MV) := [some (zGg, [ggC (l ++ [x])]), none]
noncomputable abbrev ya_gnode : ArgM ((List Nd) × (Nd) × Unit) := (amP (mGg) (amG (()) am0))
abbrev yq_gnode : Prop := CallsM Try.prog 40 ((ya_gnode).args 0) (ya_gnode).mem (fun p : (List Nd) × (Nd) × Unit => yc_gnode p.1 p.2.1) (fun p : (List Nd) × (Nd) × Unit => yr_gnode p.1 p.2.1) (fun p : (List Nd) × (Nd) × Unit => ym_gnode p.1 p.2.1)
theorem yl_gnode : ∀ p, (fun p : (List Nd) × (Nd) × Unit => yc_gnode p.1 p.2.1) p → lenM ((ya_gnode).mem p).length ((fun p : (List Nd) × (Nd) × Unit => ym_gnode p.1 p.2.1) p) = true := by intro p _; rfl
theorem yo_gnode : ∀ p, (fun p : (List Nd) × (Nd) × Unit => yc_gnode p.1 p.2.1) p → outV ((fun p : (List Nd) × (Nd) × Unit => ym_gnode p.1 p.2.1) p).length ((fun p : (List Nd) × (Nd) × Unit => yr_gnode p.1 p.2.1) p) = true := by intro p _; first | rfl | exact ex_out _ _ | exact cd_out _ _ | (simp [outV, outC, ex_out, cd_out]; done)
theorem yn_gnode : ∀ p, (fun p : (List Nd) × (Nd) × Unit => yc_gnode p.1 p.2.1) p → ∀ q, some q ∈ (fun p : (List Nd) × (Nd) × Unit => ym_gnode p.1 p.2.1) p → ∀ r ∈ q.2, ∀ c ∈ r, c.names = [] := by intro p _; exact mem_gg _ _ (by simp)
theorem y_gnode : yq_gnode := by
  rintro ⟨l, x, _u⟩ w M I lab fz xs hc hA hl hx
  refine calls_toML Try.func40 rfl ((ya_gnode).mem ⟨l, x, _u⟩) w M I lab fz [] [] ((ya_gnode).args 0 ⟨l, x, _u⟩) ((fun p : (List Nd) × (Nd) × Unit => ym_gnode p.1 p.2.1) ⟨l, x, _u⟩) ((fun p : (List Nd) × (Nd) × Unit => yr_gnode p.1 p.2.1) ⟨l, x, _u⟩) xs hA hl hx (fun v hv k hk => by have := (ya_gnode).an 0 ⟨l, x, _u⟩ v hv k hk; omega) (Nat.le_of_ble_eq_true rfl) (Nat.le_of_ble_eq_true rfl) ?_
  clear hx hl hA xs
  simp only [Try.f40]
  obtain ⟨k, ⟨k1, xs, y, e, f, cd, ar, th, el, no⟩, nx, h⟩ := x
  have hl : l.length ≤ 1000000000 := hc
  have hn := fun r => nd_ln (l := l) r hl
  simp only [↓eB, seval, go_sem, amG_a, amG_m, mGg_e, mGg_z, mGg_d, Nd.cs, ggC, Sm.c, Sm.k, Sm.x, Sm.y, Sm.e, Sm.f, Sm.cd, Sm.ar, Sm.th, Sm.el, Sm.no]
  try simp only [impB, impN]
  repeat' first | exact ck | with_reducible apply And.intro | intro _
  all_goals first | exact hl | (rename_i h; first | exact oI h | exact nah h) | (rename_i _ h _ g; exact sL h g) | decide | omega | (refine ret_with [.fold 12 l.length 11, .fold 0 0 0] ?_; simp only [↓eB, seval, go_sem, bne, yr_gnode, ym_gnode, hn, nd_ln, nd_la, nd_ls, List.all_append, nd_all, in_all, nd_alls, List.isEmpty_nil, List.map_append, List.map_set, Nd.c, ggC, zGg, Sm.c, Sm.k, Sm.x, Sm.y, Sm.e, Sm.f, Sm.cd, Sm.ar, Sm.th, Sm.el, Sm.no])
noncomputable def yp_gnode {X : Ctx} {w0 : World} : Sy.Spec Try.prog X w0 := specM 40 Try.call40 (ya_gnode) (fun p : (List Nd) × (Nd) × Unit => yc_gnode p.1 p.2.1) (fun p : (List Nd) × (Nd) × Unit => yr_gnode p.1 p.2.1) (fun p : (List Nd) × (Nd) × Unit => ym_gnode p.1 p.2.1) yl_gnode yo_gnode yn_gnode y_gnode
end Go.Proofs.Ytiipmaoonnjlpaa
