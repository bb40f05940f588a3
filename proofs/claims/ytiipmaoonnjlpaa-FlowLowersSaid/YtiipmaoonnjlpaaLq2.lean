/- The document's graph: ways linked. No conditions but those in each statement. -/
import Derived.Test.YtiipmaoonnjlpaaLq1
set_option linter.unusedVariables false
set_option linter.unusedSimpArgs false
namespace Go.Proofs.Ytiipmaoonnjlpaa
open Go Go.Sy Go.RowKit
/- pairs: a node, and which way of it -/
abbrev Pq := Int × Int
def pC (p : Pq) : List C := [.v (.int .i64 p.1), .v (.int .i64 p.2)]
def zPs : List C := [.v (.int .i64 0), .v (.int .i64 0)]
theorem pc_inj (a b : Pq) (h : pC a = pC b) : a = b := by
  obtain ⟨a1, a2⟩ := a
  obtain ⟨b1, b2⟩ := b
  simp only [pC, List.cons.injEq, C.v.injEq, Value.int.injEq, true_and, and_true] at h
  rw [h.1, h.2]
theorem pc_nm (p : Pq) : ∀ c ∈ pC p, C.names c = [] := by
  intro c hc
  simp only [pC, List.mem_cons, List.not_mem_nil, or_false] at hc
  rcases hc with rfl | rfl <;> rfl
noncomputable def mPs : RowM Pq := rowMOf zPs pC pc_nm
theorem mPs_z : mPs.z = zPs := rfl
theorem mPs_e : mPs.e = pC := rfl
theorem mPs_d (a j : Int) : mPs.d [.v (.int .i64 a), .v (.int .i64 j)] = some (a, j) := rowMOf_d pc_inj (a, j)
theorem decM_p (l : List Pq) : decM mPs.d (l.map pC) = some l := by
  induction l with
  | nil => rfl
  | cons p l ih => simp only [List.map_cons, decM, ih]; rw [show mPs.d (pC p) = some p from rowMOf_d pc_inj p]
theorem pc_gd {l : List Pq} {i : Nat} {p : Pq} (h : l[i]? = some p) (z : List C) : (l.map pC).getD i z = [.v (.int .i64 p.1), .v (.int .i64 p.2)] := by simp [List.getD, h, pC]
theorem pc_fn (l : List Pq) : List.flatMap (fun r => List.flatMap C.names r) (l.map pC) = [] := flN_of pC pc_nm l
theorem pc_all (l : List Pq) : ((l.map pC).all fun r => r.all fun c => c.names.isEmpty) = true := closB_of pC pc_nm l
theorem pc_mv (k t : Nat) (l : List Pq) : (l.map pC).map (fun r => r.map (mvC k t)) = l.map pC := map_of pC (fun _ => rfl) l
def Nd.st (x : Nd) (j t : Int) : Nd := { x with nx := x.nx.set j.toNat t }
def setN (g : List Nd) (p : Pq) (t : Int) : List Nd := g.set p.1.toNat ((g.getD p.1.toNat nd0).st p.2 t)
def lnkG : List Pq → Int → List Nd → List Nd
  | [], _, g => g
  | p :: r, t, g => lnkG r t (setN g p t)
/-- a pair that names a way of a node -/
def okQ (g : List Nd) (p : Pq) : Prop := 0 ≤ p.1 ∧ p.1 < (g.length : Int) ∧ 0 ≤ p.2 ∧ p.2 < ((g.getD p.1.toNat nd0).nx.length : Int)
def okW (g : List Nd) (l : List Pq) : Prop := g.length ≤ 1000000000 ∧ l.length ≤ 1000000000 ∧ ∀ p ∈ l, okQ g p
theorem setN_len (g : List Nd) (p : Pq) (t : Int) : (setN g p t).length = g.length := by simp [setN]
theorem setN_ok {g : List Nd} {p q : Pq} (h : okQ g q) (t : Int) : okQ (setN g p t) q := by
  obtain ⟨h1, h2, h3, h4⟩ := h
  refine ⟨h1, by rw [setN_len]; exact h2, h3, ?_⟩
  by_cases e : p.1.toNat = q.1.toNat
  · have hi : q.1.toNat < g.length := by omega
    have : (setN g p t).getD q.1.toNat nd0 = (g.getD q.1.toNat nd0).st p.2 t := by
      unfold setN; rw [e]; simp [List.getD, hi]
    rw [this]; simp only [Nd.st, List.length_set]; exact h4
  · have : (setN g p t).getD q.1.toNat nd0 = g.getD q.1.toNat nd0 := by simp [setN, List.getD, List.getElem?_set_ne e]
    rw [this]; exact h4
theorem lnkG_len : ∀ (l : List Pq) (t : Int) (g : List Nd), (lnkG l t g).length = g.length
  | [], t, g => rfl
  | p :: r, t, g => by simp only [lnkG]; rw [lnkG_len r, setN_len]
theorem lnkG_ok : ∀ (l : List Pq) (t : Int) (g : List Nd) (q : Pq), okQ g q → okQ (lnkG l t g) q
  | [], t, g, q, h => h
  | p :: r, t, g, q, h => lnkG_ok r t _ q (setN_ok h t)
abbrev yc_glink (g : List Nd) (l : List Pq) (t : Int) : Prop := okW g l
abbrev yr_glink (g : List Nd) (l : List Pq) (t : Int) : SV := .tup []
abbrev ym_glink (g : List Nd) (l : List Pq) (t : Int) : List (Option MV) := [some (zGg, [ggC (lnkG l t g)]), none]
noncomputable abbrev ya_glink : ArgM ((List Nd) × (List Pq) × (Int) × Unit) := (amP (mGg) (amS (mPs) (amD (cInt .i64) am0)))
abbrev yq_glink : Prop := CallsM Try.prog 42 ((ya_glink).args 0) (ya_glink).mem (fun p : (List Nd) × (List Pq) × (Int) × Unit => yc_glink p.1 p.2.1 p.2.2.1) (fun p : (List Nd) × (List Pq) × (Int) × Unit => yr_glink p.1 p.2.1 p.2.2.1) (fun p : (List Nd) × (List Pq) × (Int) × Unit => ym_glink p.1 p.2.1 p.2.2.1)
theorem yl_glink : ∀ p, (fun p : (List Nd) × (List Pq) × (Int) × Unit => yc_glink p.1 p.2.1 p.2.2.1) p → lenM ((ya_glink).mem p).length ((fun p : (List Nd) × (List Pq) × (Int) × Unit => ym_glink p.1 p.2.1 p.2.2.1) p) = true := by intro p _; rfl
theorem yo_glink : ∀ p, (fun p : (List Nd) × (List Pq) × (Int) × Unit => yc_glink p.1 p.2.1 p.2.2.1) p → outV ((fun p : (List Nd) × (List Pq) × (Int) × Unit => ym_glink p.1 p.2.1 p.2.2.1) p).length ((fun p : (List Nd) × (List Pq) × (Int) × Unit => yr_glink p.1 p.2.1 p.2.2.1) p) = true := by intro p _; rfl
theorem yn_glink : ∀ p, (fun p : (List Nd) × (List Pq) × (Int) × Unit => yc_glink p.1 p.2.1 p.2.2.1) p → ∀ q, some q ∈ (fun p : (List Nd) × (List Pq) × (Int) × Unit => ym_glink p.1 p.2.1 p.2.2.1) p → ∀ r ∈ q.2, ∀ c ∈ r, c.names = [] := by intro p _; exact mem_gg _ _ (by simp)
theorem y_glink : yq_glink := by
  rintro ⟨g, l, t, _u⟩ w M I lab fz xs hc hA hl hx
  refine calls_toML Try.func42 rfl ((ya_glink).mem ⟨g, l, t, _u⟩) w M I lab fz [] [] ((ya_glink).args 0 ⟨g, l, t, _u⟩) ((fun p : (List Nd) × (List Pq) × (Int) × Unit => ym_glink p.1 p.2.1 p.2.2.1) ⟨g, l, t, _u⟩) ((fun p : (List Nd) × (List Pq) × (Int) × Unit => yr_glink p.1 p.2.1 p.2.2.1) ⟨g, l, t, _u⟩) xs hA hl hx (fun v hv k hk => by have := (ya_glink).an 0 ⟨g, l, t, _u⟩ v hv k hk; omega) (Nat.le_of_ble_eq_true rfl) (Nat.le_of_ble_eq_true rfl) ?_
  clear hx hl hA xs
  simp only [Try.f42]
  obtain ⟨h1, h2, h3⟩ := hc
  dsimp only at h1 h2 h3
  simp only [↓eB, seval, go_sem, mGg_e, mGg_z, mGg_d, mPs_e, mPs_z, ggC, Sm.c, Sm.k, Sm.x, Sm.y, Sm.e, Sm.f, Sm.cd, Sm.ar, Sm.th, Sm.el, Sm.no]
  refine loop_ok (Y := Nat × List Nd) (fun y => y.1 ≤ l.length ∧ y.2.length = g.length ∧ (∀ p ∈ l, okQ y.2 p) ∧ lnkG (l.drop y.1) t y.2 = lnkG l t g)
    (fun y => ⟨[(0, true, .one (.p 0 0 0)), (1, true, .one (.s 1)), (2, true, .one (.v (.int .i64 t))), (6, true, .one (.v (.int .i64 (y.1 : Int))))], [(0, .vec 0 zGg [[.ov zNd (y.2.map Nd.c)]]), (1, .vec 0 zPs (l.map pC))]⟩)
    (fun y => l.length - y.1) (0, g) ⟨Nat.zero_le _, rfl, h3, rfl⟩ ?_ ?_
  · refine to_with [] ?_; simp only [↓eB, seval, go_sem, mGg_e, mGg_z, mGg_d, mPs_e, mPs_z, ggC, Sm.c, Sm.k, Sm.x, Sm.y, Sm.e, Sm.f, Sm.cd, Sm.ar, Sm.th, Sm.el, Sm.no, pc_fn, nd_fn]
  · rintro ⟨i, g'⟩ ⟨j1, j2, j3, j4⟩
    dsimp only at j1 j2 j3 j4
    cases hy : l[i]? with
    | none =>
      have hil := List.getElem?_eq_none_iff.1 hy
      refine vc_ok [] [] _ _ _ ?_
      have b1 := natI_ge hil
      rw [List.drop_eq_nil_of_le hil] at j4
      have j4 : g' = lnkG l t g := j4
      simp only [↓eB, seval, go_sem, mGg_e, mGg_z, mGg_d, mPs_e, mPs_z, ggC, Sm.c, Sm.k, Sm.x, Sm.y, Sm.e, Sm.f, Sm.cd, Sm.ar, Sm.th, Sm.el, Sm.no, b1]
      try simp only [impB, impN]
      repeat' first | exact ck | with_reducible apply And.intro | intro _
      all_goals first | exact hil | (rename_i h; first | exact oI h | exact nah h) | (rename_i _ h _ g; exact sL h g) | decide | omega | (refine ret_with [] ?_; simp only [↓eB, seval, go_sem, bne, yr_glink, ym_glink, ← j4, List.all_append, nd_all, in_all, nd_alls, List.isEmpty_nil, List.map_append, List.map_set, Nd.c, ggC, zGg, Sm.c, Sm.k, Sm.x, Sm.y, Sm.e, Sm.f, Sm.cd, Sm.ar, Sm.th, Sm.el, Sm.no])
    | some p =>
      obtain ⟨a, j⟩ := p
      have hil : i < l.length := (List.getElem?_eq_some_iff.1 hy).1
      obtain ⟨p1, p2, p3, p4⟩ := j3 _ (List.mem_of_getElem? hy)
      dsimp only at p1 p2 p3 p4
      have hi : a.toNat < g'.length := by omega
      obtain ⟨x, hx⟩ : ∃ x, g'[a.toNat]? = some x := ⟨_, List.getElem?_eq_getElem hi⟩
      have hg : g'.getD a.toNat nd0 = x := by simp [List.getD, hx]
      rw [hg] at p4
      have hs : setN g' (a, j) t = g'.set a.toNat (x.st j t) := by unfold setN; rw [hg]
      have hdr : l.drop i = (a, j) :: l.drop (i + 1) := by
        rw [List.drop_eq_getElem_cons hil]
        have : l[i] = (a, j) := (List.getElem?_eq_some_iff.1 hy).2
        rw [this]
      rw [hdr] at j4
      have j4 : lnkG (l.drop (i + 1)) t (setN g' (a, j) t) = lnkG l t g := j4
      have j3' := fun p hp => setN_ok (p := (a, j)) (j3 p hp) t
      have jl : (setN g' (a, j) t).length = g.length := by rw [setN_len]; exact j2
      rw [hs] at j4 j3' jl
      refine vc_ok [] [(3, [.unr 0 0 0 1000, .unr 1000 a.toNat 11 1001])] _ _ _ ?_
      have b1 := natI_lt hil
      have b2 := natI_ltp hil
      have b3 := pc_gd hy
      have b4 := natI_succ (n := l.length) j1 (by omega)
      have q1 := nd_at hx
      have q2 := nd_sg hx
      have q3 := nd_sq hx
      obtain ⟨k, ⟨k1, xs, y, e, f, cd, ar, th, el, no⟩, nx, h⟩ := x
      dsimp only at p4
      simp only [Nd.c, Sm.c, Sm.k, Sm.x, Sm.y, Sm.e, Sm.f, Sm.cd, Sm.ar, Sm.th, Sm.el, Sm.no] at q1
      simp only [↓eB, seval, go_sem, mGg_e, mGg_z, mGg_d, mPs_e, mPs_z, ggC, Sm.c, Sm.k, Sm.x, Sm.y, Sm.e, Sm.f, Sm.cd, Sm.ar, Sm.th, Sm.el, Sm.no, q1, q2, q3, b1, b2, b3, b4, List.set_set]
      have hj : j.toNat < nx.length := by omega
      have q4 : ((nx.map inC).getD j.toNat zIn).set 0 (.v (.int .i64 t)) = [.v (.int .i64 t)] := by simp [List.getD, hj, inC]
      have q5 := in_all (nx.set j.toNat t)
      rw [List.map_set, show inC t = [.v (.int .i64 t)] from rfl] at q5
      try simp only [impB, impN]
      repeat' first | exact ck | with_reducible apply And.intro | intro _
      all_goals try first | exact p1 | exact p2 | exact p3 | exact p4 | exact hil | (rename_i h; first | exact oI h | exact nah h) | (rename_i _ h _ g; exact sL h g) | decide | omega
      refine ⟨(i + 1, _), ⟨hil, jl, j3', j4⟩, by dsimp only; omega, to_with [.fold 1000 a.toNat 11, .fold 0 0 0] ?_⟩
      simp only [↓eB, seval, go_sem, mGg_e, mGg_z, mGg_d, mPs_e, mPs_z, ggC, Sm.c, Sm.k, Sm.x, Sm.y, Sm.e, Sm.f, Sm.cd, Sm.ar, Sm.th, Sm.el, Sm.no, pc_fn, nd_fn, q1, q2, q3, q4, q5, List.set_set, List.map_set, Nd.st, inC, List.all_append, nd_all, in_all, nd_alls, List.isEmpty_nil, List.map_append, Nd.c, zGg]
noncomputable def yp_glink {X : Ctx} {w0 : World} : Sy.Spec Try.prog X w0 := specM 42 Try.call42 (ya_glink) (fun p : (List Nd) × (List Pq) × (Int) × Unit => yc_glink p.1 p.2.1 p.2.2.1) (fun p : (List Nd) × (List Pq) × (Int) × Unit => yr_glink p.1 p.2.1 p.2.2.1) (fun p : (List Nd) × (List Pq) × (Int) × Unit => ym_glink p.1 p.2.1 p.2.2.1) yl_glink yo_glink yn_glink y_glink
end Go.Proofs.Ytiipmaoonnjlpaa
