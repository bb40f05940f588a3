/- What can be reached, walked, and its reference. No conditions but those in each statement. -/
import Derived.Test.YtiipmaoonnjlpaaGr2
set_option linter.unusedVariables false
set_option linter.unusedSimpArgs false
namespace Go.Proofs.Ytiipmaoonnjlpaa
open Go Go.Sy Go.RowKit
def blC (b : Bool) : List C := [.v (.bool b)]
def zBC : List C := [.v (.bool false)]
theorem zBC_ln : zBC.length = 1 := rfl
theorem zBC_td : toDs zBC = some zBl := rfl
theorem rowsBl : RowsD blC blD 1 := by
  refine ⟨fun a c hc => ?_, fun a c hc => ?_, fun a => rfl, fun a => rfl⟩
  · simp only [blC, List.mem_singleton] at hc; subst hc; rfl
  · simp only [blC, List.mem_singleton] at hc; subst hc; rfl
theorem bl_gc (l : List Bool) (k : Nat) : (l.map blC).getD k zBC = [.v (.bool (l.getD k false))] := by
  simp only [List.getD, List.getElem?_map]
  cases l[k]? <;> rfl
theorem bl_gcl (l : List Bool) (k : Nat) : (l.map blC).getD k [.v (.bool false)] = [.v (.bool (l.getD k false))] := bl_gc l k
theorem bl_set (l : List Bool) (k : Nat) (b : Bool) : (l.map blC).set k [.v (.bool b)] = (l.set k b).map blC := by rw [List.map_set]; rfl
theorem bl_rep (n : Nat) : List.replicate n [C.v (.bool false)] = (List.replicate n false).map blC := by rw [List.map_replicate]; rfl
def gq0 : Gq := ⟨dI 0, dI 0, dI 0, dI 0, dI 0, dI 0, dI 0, dI 0, dI 0, dI 0, dI 0, [], false⟩
/-- what can be reached -/
inductive Rc (g : List Gq) : Nat → Prop where
  | zero (h : 0 < g.length) : Rc g 0
  | step (i : Nat) (s : Int) (h : Rc g i) (hs : s ∈ (g.getD i gq0).nx) (h0 : 0 ≤ s) (h1 : s < (g.length : Int)) : Rc g s.toNat
open Classical in
noncomputable def rcF (g : List Gq) : List Bool := (List.range g.length).map fun k => decide (Rc g k)
def clo (g : List Gq) (r : List Bool) (k : Nat) : Prop := ∀ s ∈ (g.getD k gq0).nx, 0 ≤ s → s < (g.length : Int) → r.getD s.toNat false = true
structure RI (g : List Gq) (r : List Bool) (t : List Int) (P : Nat → Prop) : Prop where
  l : r.length = g.length
  rt : ∀ s ∈ t, 0 ≤ s ∧ s < (g.length : Int)
  rm : ∀ s ∈ t, r.getD s.toNat false = true
  rs : ∀ k, r.getD k false = true → Rc g k
  z : r.getD 0 false = true
  c : ∀ k, r.getD k false = true → (k : Int) ∈ t ∨ P k ∨ clo g r k
def cnF (r : List Bool) : Nat := r.count false
theorem cnF_set : ∀ {r : List Bool} {k : Nat}, k < r.length → r.getD k false = false → cnF (r.set k true) + 1 = cnF r
  | [], k, h, _ => by simp at h
  | b :: r, 0, _, h => by simp only [List.getD_cons_zero] at h; subst h; simp [cnF]
  | b :: r, k + 1, h, h2 => by
    have := cnF_set (r := r) (k := k) (by simpa using h) (by simpa using h2)
    simp only [cnF, List.set_cons_succ, List.count_cons] at this ⊢
    omega
theorem cnF_rep (n : Nat) : cnF (List.replicate n false) = n := by simp [cnF]
theorem cnF_le (r : List Bool) : cnF r ≤ r.length := List.count_le_length
theorem getD_set' {r : List Bool} {k j : Nat} (hk : k < r.length) : (r.set k true).getD j false = if j = k then true else r.getD j false := by
  simp only [List.getD, List.getElem?_set]
  by_cases h : k = j
  · subst h; simp [hk]
  · simp [h, Ne.symm h]
theorem RI.init {g : List Gq} (h : 0 < g.length) : RI g ((List.replicate g.length false).set 0 true) [0] (fun _ => False) := by
  have hg : ∀ k, ((List.replicate g.length false).set 0 true).getD k false = if k = 0 then true else false := by
    intro k
    rw [getD_set' (by simpa using h)]
    split
    · rfl
    · simp only [List.getD, List.getElem?_replicate]; split <;> rfl
  refine ⟨by simp, ?_, ?_, ?_, by rw [hg]; rfl, ?_⟩
  · intro s hs; simp only [List.mem_singleton] at hs; subst hs; omega
  · intro s hs; simp only [List.mem_singleton] at hs; subst hs; rw [hg]; rfl
  · intro k hk
    rw [hg] at hk
    split at hk
    · rename_i e; subst e; exact .zero h
    · cases hk
  · intro k hk
    rw [hg] at hk
    split at hk
    · rename_i e; subst e; exact .inl (List.mem_singleton.2 rfl)
    · cases hk
theorem RI.pop {g : List Gq} {r : List Bool} {t t' : List Int} {x : Int} (h : RI g r t (fun _ => False)) (h1 : ∀ s, s ∈ t ↔ s = x ∨ s ∈ t') : RI g r t' (fun k => k = x.toNat) ∧ Rc g x.toNat ∧ 0 ≤ x ∧ x < (g.length : Int) := by
  have hx := h.rt x ((h1 x).2 (.inl rfl))
  refine ⟨⟨h.l, fun s hs => h.rt s ((h1 s).2 (.inr hs)), fun s hs => h.rm s ((h1 s).2 (.inr hs)), h.rs, h.z, fun k hk => ?_⟩, h.rs _ (h.rm x ((h1 x).2 (.inl rfl))), hx⟩
  rcases h.c k hk with h2 | h2 | h2
  · rcases (h1 k).1 h2 with h3 | h3
    · exact .inr (.inl (by omega))
    · exact .inl h3
  · exact h2.elim
  · exact .inr (.inr h2)
theorem clo_mono {g : List Gq} {r : List Bool} {k j : Nat} (hj : j < r.length) (h : clo g r k) : clo g (r.set j true) k := by
  intro s hs h0 h1
  rw [getD_set' hj]
  split
  · rfl
  · exact h s hs h0 h1
theorem RI.push {g : List Gq} {r : List Bool} {t : List Int} {P : Nat → Prop} {i : Nat} {s : Int} (h : RI g r t P) (hi : Rc g i) (hs : s ∈ (g.getD i gq0).nx) (h0 : 0 ≤ s) (h1 : s < (g.length : Int)) : RI g (r.set s.toNat true) (t ++ [s]) P := by
  have hj : s.toNat < r.length := by have := h.l; omega
  refine ⟨by simp [h.l], ?_, ?_, ?_, ?_, ?_⟩
  · intro x hx
    rcases List.mem_append.1 hx with h2 | h2
    · exact h.rt x h2
    · simp only [List.mem_singleton] at h2; subst h2; exact ⟨h0, h1⟩
  · intro x hx
    rw [getD_set' hj]
    split
    · rfl
    · rename_i hne
      rcases List.mem_append.1 hx with h2 | h2
      · exact h.rm x h2
      · simp only [List.mem_singleton] at h2; subst h2; exact absurd rfl hne
  · intro k hk
    rw [getD_set' hj] at hk
    split at hk
    · rename_i e; subst e; exact .step i s hi hs h0 h1
    · exact h.rs k hk
  · rw [getD_set' hj]; split
    · rfl
    · exact h.z
  · intro k hk
    rw [getD_set' hj] at hk
    split at hk
    · rename_i e; subst e
      exact .inl (List.mem_append.2 (.inr (List.mem_singleton.2 (by omega))))
    · rcases h.c k hk with h2 | h2 | h2
      · exact .inl (List.mem_append.2 (.inl h2))
      · exact .inr (.inl h2)
      · exact .inr (.inr (clo_mono hj h2))
theorem RI.done {g : List Gq} {r : List Bool} {t : List Int} {i : Nat} (h : RI g r t (fun k => k = i)) (hc : clo g r i) : RI g r t (fun _ => False) :=
  ⟨h.l, h.rt, h.rm, h.rs, h.z, fun k hk => by
    rcases h.c k hk with h2 | h2 | h2
    · exact .inl h2
    · subst h2; exact .inr (.inr hc)
    · exact .inr (.inr h2)⟩
open Classical in
theorem RI.fin {g : List Gq} {r : List Bool} (h : RI g r [] (fun _ => False)) : r = rcF g := by
  have all : ∀ k, Rc g k → r.getD k false = true := by
    intro k hk
    induction hk with
    | zero _ => exact h.z
    | step i s _ hs h0 h1 ih =>
      rcases h.c i ih with h2 | h2 | h2
      · cases h2
      · exact h2.elim
      · exact h2 s hs h0 h1
  apply List.ext_getElem?
  intro k
  by_cases hk : k < g.length
  · have hr : r[k]? = some (r.getD k false) := getD_get (by rw [h.l]; exact hk)
    rw [hr]
    simp only [rcF, List.getElem?_map, List.getElem?_range hk, Option.map_some, Option.some.injEq]
    cases e : r.getD k false with
    | true => exact (decide_eq_true (h.rs k e)).symm
    | false =>
      refine (decide_eq_false ?_).symm
      intro hR
      rw [all k hR] at e; cases e
  · rw [List.getElem?_eq_none_iff.2 (by rw [h.l]; omega), List.getElem?_eq_none_iff.2 (by simp [rcF]; omega)]
theorem rcF_len (g : List Gq) : (rcF g).length = g.length := by simp [rcF]
theorem rcF_nil {g : List Gq} (h : g.length = 0) : rcF g = [] := by simp [rcF, h]
noncomputable section
abbrev trB (l : List Bool) : SV := .one (.d (.sl zBl (l.map blD)))
abbrev yc_Reach (g : List Gq) : Prop := okG g
abbrev yr_Reach (g : List Gq) : SV := trB (rcF g)
noncomputable abbrev ya_Reach : ArgC ((List Gq) × Unit) := (acS (cGr) ac0)
abbrev yq_Reach : Prop := CallsY Try.prog 15 ya_Reach (fun p : (List Gq) × Unit => yc_Reach p.1) (fun p : (List Gq) × Unit => yr_Reach p.1)
theorem yn_Reach : ∀ p : (List Gq) × Unit, ((fun p : (List Gq) × Unit => yr_Reach p.1) p).names = [] := by intro p; first | rfl | exact ex_names _ | exact cd_names _
set_option maxRecDepth 20000 in set_option maxHeartbeats 8000000 in
theorem y_Reach : yq_Reach := by
  rintro ⟨g, _u⟩ w fz xs hc hfz hl hx
  refine calls_toL Try.func15 rfl w fz [] [] ya_Reach (fun p : (List Gq) × Unit => yr_Reach p.1) _ xs hfz hl hx (Nat.le_of_ble_eq_true rfl) ?_
  clear hx hl hfz xs
  simp only [Try.f15]
  obtain ⟨hc1, hc2⟩ := hc
  dsimp only at hc1 hc2
  by_cases h0 : g.length = 0
  · have h00 : ((g.length : Int) == 0) = true := by simp [h0]
    have hr : rcF ([] : List Gq) = [] := rcF_nil rfl
    have hn : g = [] := List.length_eq_zero_iff.1 h0
    simp only [↓eB, seval, go_sem, cGr_e, cGr_d, Gq.r, zID_ln, zND_ln, zIn_ln, zBC_ln, bl_gc, bl_set, List.length_replicate, ↓oD_stor, ↓oD_names, ↓oD_noVw, ↓oD_flat, ↓oD_mv, ↓oD_ldc, h00]
    refine ⟨⟨by omega, by omega⟩, ?_⟩
    refine ret_with [.fz 11] ?_; simp only [↓eB, seval, go_sem, bne, yr_Reach, hr, hn, trB, bl_rep, List.replicate_zero, zBC, zBl, rowsBl.ds, rowsBl.fz, rowsBl.fn]
  have h00 : ((g.length : Int) == 0) = false := by rw [beq_eq_false_iff_ne]; omega
  have hpos : 0 < g.length := by omega
  simp only [↓eB, seval, go_sem, cGr_e, cGr_d, Gq.r, zID_ln, zND_ln, zIn_ln, zBC_ln, bl_gc, bl_set, List.length_replicate, ↓oD_stor, ↓oD_names, ↓oD_noVw, ↓oD_flat, ↓oD_mv, ↓oD_ldc, h00, bl_rep, zBC]
  repeat' (first | exact ck | with_reducible apply And.intro)
  all_goals try first | omega | decide | (simp; omega)
  refine loop_ok (Y := List Bool × List Int) (fun y => RI g y.1 y.2 (fun _ => False) ∧ 2 * cnF y.1 + y.2.length ≤ 2 * g.length)
    (fun y => ⟨[(1, true, .one (.p 1 0 0)), (3, true, .one (.s 11)), (4, true, .one (.s 1000))], [(1, .vec 0 [.v (.bool false)] [[.d (.sl zND (g.map Gq.r))]]), (11, .vec 0 zBC (y.1.map blC)), (1000, .vec 0 zIn (y.2.map inC))]⟩)
    (fun y => 2 * cnF y.1 + y.2.length) ((List.replicate g.length false).set 0 true, [0]) ⟨RI.init hpos, by
      have := cnF_set (r := List.replicate g.length false) (k := 0) (by simpa using hpos) (by simp only [List.getD, List.getElem?_replicate]; split <;> rfl)
      rw [cnF_rep] at this
      simp only [List.length_cons, List.length_nil]; omega⟩ ?_ ?_
  · refine to_trans (t := ⟨[(1, true, .one (.p 1 0 0)), (3, true, .one (.s 11)), (4, true, .one (.s 18))], [(1, .vec 0 [.v (.bool false)] [[.d (.sl zND (g.map Gq.r))]]), (11, .vec 0 zBC (((List.replicate g.length false).set 0 true).map blC)), (18, .vec 0 zIn ([(0 : Int)].map inC))]⟩) (to_with [] ?_) (to_with [.mv 18 1000] ?_)
    · simp only [↓eB, seval, go_sem, rowsI.fn, rowsBl.fn, ↓oD_stor, ↓oD_names, ↓oD_noVw, ↓oD_flat, ↓oD_mv, ↓oD_ldc, zND, zBC, zIn, bl_rep, bl_gcl, bl_set, inC]
    · simp only [↓eB, seval, go_sem, rowsI.fn, rowsBl.fn, ↓oD_stor, ↓oD_names, ↓oD_noVw, ↓oD_flat, ↓oD_mv, ↓oD_ldc, zND, zBC, zIn, rowsI.mv, rowsBl.mv, inC]
  · rintro ⟨r, t⟩ ⟨j2, j3⟩
    refine vc_ok [] [] _ _ _ ?_
    dsimp only at j2 j3
    have jl := j2.l
    have hcl := cnF_le r
    by_cases t0' : t.length = 0
    · have ht : t = [] := List.length_eq_zero_iff.1 t0'
      subst ht
      have hr : rcF g = r := j2.fin.symm
      have e0 : (decide ((0 : Int) < ((([] : List Int).length : Nat) : Int))) = false := rfl
      simp only [↓eB, seval, go_sem, cGr_e, cGr_d, Gq.r, zID_ln, zND_ln, zIn_ln, zBC_ln, bl_gc, bl_set, List.length_replicate, ↓oD_stor, ↓oD_names, ↓oD_noVw, ↓oD_flat, ↓oD_mv, ↓oD_ldc, e0]
      refine ret_with [.fz 11] ?_; simp only [↓eB, seval, go_sem, bne, yr_Reach, hr, trB, zBC_td, rowsBl.ds, rowsBl.fz, rowsBl.fn, rowsI.fz]
    · have e0 : decide ((0 : Int) < (t.length : Int)) = true := by simp; omega
      obtain ⟨t0, x, rfl⟩ : ∃ t0 x, t = t0 ++ [x] := ⟨t.dropLast, t.getLast (by intro h; subst h; simp at t0'), (List.dropLast_concat_getLast _).symm⟩
      have hmem : ∀ s, s ∈ t0 ++ [x] ↔ s = x ∨ s ∈ t0 := fun s => by simp [or_comm]
      have e1 : IntKind.i64.wrap (((t0 ++ [x]).length : Int) - 1) = (t0.length : Int) := by
        have e4 : (t0 ++ [x]).length = t0.length + 1 := by simp
        rw [wrap_i64 (by omega) (by omega)]; omega
      have e2 : ((t0 ++ [x]).map inC).getD t0.length zIn = [.v (.int .i64 x)] := by rw [in_gc]; simp [List.getD]
      have e3 : ((t0 ++ [x]).map inC).take t0.length = t0.map inC := by rw [← List.map_take, List.take_left']; rfl
      have e4 : (t0 ++ [x]).length = t0.length + 1 := by simp
      have e5 : (t0.length : Int) < ((t0 ++ [x]).length : Int) := by omega
      have e6 : (t0.length : Int) ≤ ((t0 ++ [x]).length : Int) := by omega
      obtain ⟨k1, k2, k3, k4⟩ := j2.pop hmem
      have hxl : x.toNat < g.length := by omega
      obtain ⟨z, hz⟩ : ∃ z, g[x.toNat]? = some z := ⟨_, List.getElem?_eq_getElem hxl⟩
      have hzd : g.getD x.toNat gq0 = z := by simp [List.getD, hz]
      have hnx := hc2 z (List.mem_of_getElem? hz)
      have h3 := gq_at hz
      obtain ⟨c0, c1, c2, c3, c4, c5, c6, c7, c8, c9, ca, nx, hh⟩ := z
      dsimp only at hnx
      simp only [↓eB, seval, go_sem, cGr_e, cGr_d, Gq.r, zID_ln, zND_ln, zIn_ln, zBC_ln, bl_gc, bl_set, List.length_replicate, ↓oD_stor, ↓oD_names, ↓oD_noVw, ↓oD_flat, ↓oD_mv, ↓oD_ldc, e0, e1, e2, e3, h3]
      repeat' (first | exact ck | with_reducible apply And.intro)
      all_goals try first | exact k3 | exact k4 | exact e5 | exact e6 | exact natI_le _ | exact rowsI.stor | omega | decide
      refine loop_ok (Y := Nat × List Bool × List Int) (fun y => y.1 ≤ nx.length ∧ RI g y.2.1 y.2.2 (fun k => k = x.toNat) ∧ (∀ s ∈ nx.take y.1, 0 ≤ s → s < (g.length : Int) → y.2.1.getD s.toNat false = true) ∧ 2 * cnF y.2.1 + y.2.2.length < 2 * cnF r + (t0 ++ [x]).length)
        (fun y => ⟨[(1, true, .one (.p 1 0 0)), (3, true, .one (.s 11)), (4, true, .one (.s 1001)), (38, true, .one (.d (.sl zID (nx.map inD)))), (39, true, .one (.v (.int .i64 (nx.length : Int)))), (40, true, .one (.v (.int .i64 (y.1 : Int))))], [(1, .vec 0 [.v (.bool false)] [[.d (.sl zND (g.map Gq.r))]]), (11, .vec 0 zBC (y.2.1.map blC)), (1001, .vec 0 zIn (y.2.2.map inC))]⟩)
        (fun y => nx.length - y.1) (0, r, t0) ⟨Nat.zero_le _, k1, (fun s hs => by simp at hs), by dsimp only; omega⟩ ?_ ?_
      · refine to_trans (t := ⟨[(1, true, .one (.p 1 0 0)), (3, true, .one (.s 11)), (4, true, .one (.s 32)), (38, true, .one (.d (.sl zID (nx.map inD)))), (39, true, .one (.v (.int .i64 (nx.length : Int)))), (40, true, .one (.v (.int .i64 (0 : Int))))], [(1, .vec 0 [.v (.bool false)] [[.d (.sl zND (g.map Gq.r))]]), (11, .vec 0 zBC (r.map blC)), (32, .vec 0 zIn (t0.map inC))]⟩) (to_with [] ?_) (to_with [.mv 32 1001] ?_)
        · simp only [↓eB, seval, go_sem, rowsI.fn, rowsBl.fn, ↓oD_stor, ↓oD_names, ↓oD_noVw, ↓oD_flat, ↓oD_mv, ↓oD_ldc, zND, zID, zIn_ln]
        · simp only [↓eB, seval, go_sem, rowsI.fn, rowsBl.fn, ↓oD_stor, ↓oD_names, ↓oD_noVw, ↓oD_flat, ↓oD_mv, ↓oD_ldc, zND, zID, zIn_ln, rowsI.mv, rowsBl.mv]
      · rintro ⟨j, r, t⟩ ⟨i1, i2, i3, i4⟩
        refine vc_ok [] [] _ _ _ ?_
        dsimp only at i1 i2 i3 i4
        have il := i2.l
        cases hy : nx[j]? with
        | none =>
          have hi2 : nx.length ≤ j := List.getElem?_eq_none_iff.1 hy
          have h5 := natI_ge hi2
          rw [List.take_of_length_le hi2] at i3
          have hcl : clo g r x.toNat := by intro s hs; rw [hzd] at hs; exact i3 s hs
          simp only [↓eB, seval, go_sem, cGr_e, cGr_d, Gq.r, zID_ln, zND_ln, zIn_ln, zBC_ln, bl_gc, bl_set, List.length_replicate, ↓oD_stor, ↓oD_names, ↓oD_noVw, ↓oD_flat, ↓oD_mv, ↓oD_ldc, h3, h5]
          try simp only [impB, impN]
          repeat' first | exact ck | with_reducible apply And.intro | intro _
          all_goals try first | exact k3 | exact k4 | (rename_i h; first | exact oI h | exact nah h) | (rename_i _ h _ g; exact sL h g) | decide | omega
          refine ⟨(r, t), ⟨i2.done hcl, by dsimp only; omega⟩, by dsimp only; omega, to_with [.mv 1001 1000] ?_⟩
          simp only [↓eB, seval, go_sem, rowsI.fn, rowsBl.fn, ↓oD_stor, ↓oD_names, ↓oD_noVw, ↓oD_flat, ↓oD_mv, ↓oD_ldc, zND, zID, rowsI.mv, rowsBl.mv]
        | some s =>
          have hlj : j < nx.length := (List.getElem?_eq_some_iff.1 hy).1
          have hsm : s ∈ (g.getD x.toNat gq0).nx := by rw [hzd]; exact List.mem_of_getElem? hy
          have h5 := natI_lt hlj
          have h6 := natI_ltp hlj
          have h7 := in_at hy
          have h8 := natI_succ i1 (by omega)
          have htk : nx.take (j + 1) = nx.take j ++ [s] := by rw [List.take_add_one, hy]; rfl
          have hin : ∀ r' : List Bool, (∀ k, r.getD k false = true → r'.getD k false = true) → (0 ≤ s → s < (g.length : Int) → r'.getD s.toNat false = true) → ∀ s' ∈ nx.take (j + 1), 0 ≤ s' → s' < (g.length : Int) → r'.getD s'.toNat false = true := by
            intro r' hm hs s' hs' q0 q1
            rw [htk] at hs'
            rcases List.mem_append.1 hs' with h | h
            · exact hm _ (i3 s' h q0 q1)
            · simp only [List.mem_singleton] at h; subst h; exact hs q0 q1
          cases s0 : decide (0 ≤ s) with
          | false =>
            have hs0 := of_decide_eq_false s0
            simp only [↓eB, seval, go_sem, cGr_e, cGr_d, Gq.r, zID_ln, zND_ln, zIn_ln, zBC_ln, bl_gc, bl_set, List.length_replicate, ↓oD_stor, ↓oD_names, ↓oD_noVw, ↓oD_flat, ↓oD_mv, ↓oD_ldc, h3, h5, h6, h7, h8, s0]
            try simp only [impB, impN]
            repeat' first | exact ck | with_reducible apply And.intro | intro _
            all_goals try first | exact k3 | exact k4 | exact hlj | (rename_i h; first | exact oI h | exact nah h) | (rename_i _ h _ g; exact sL h g) | decide | omega
            refine ⟨(j + 1, r, t), ⟨hlj, i2, hin r (fun _ h => h) (fun q => absurd q hs0), i4⟩, by dsimp only; omega, to_with [] ?_⟩
            simp only [↓eB, seval, go_sem, rowsI.fn, rowsBl.fn, ↓oD_stor, ↓oD_names, ↓oD_noVw, ↓oD_flat, ↓oD_mv, ↓oD_ldc, zND, zID]
          | true =>
          have hs0 := of_decide_eq_true s0
          cases s1 : decide (s < (g.length : Int)) with
          | false =>
            have hs1 := of_decide_eq_false s1
            simp only [↓eB, seval, go_sem, cGr_e, cGr_d, Gq.r, zID_ln, zND_ln, zIn_ln, zBC_ln, bl_gc, bl_set, List.length_replicate, ↓oD_stor, ↓oD_names, ↓oD_noVw, ↓oD_flat, ↓oD_mv, ↓oD_ldc, h3, h5, h6, h7, h8, s0, il, s1]
            try simp only [impB, impN]
            repeat' first | exact ck | with_reducible apply And.intro | intro _
            all_goals try first | exact k3 | exact k4 | exact hlj | (rename_i h; first | exact oI h | exact nah h) | (rename_i _ h _ g; exact sL h g) | decide | omega
            refine ⟨(j + 1, r, t), ⟨hlj, i2, hin r (fun _ h => h) (fun _ q => absurd q hs1), i4⟩, by dsimp only; omega, to_with [] ?_⟩
            simp only [↓eB, seval, go_sem, rowsI.fn, rowsBl.fn, ↓oD_stor, ↓oD_names, ↓oD_noVw, ↓oD_flat, ↓oD_mv, ↓oD_ldc, zND, zID]
          | true =>
          have hs1 := of_decide_eq_true s1
          have hsr : s.toNat < r.length := by omega
          cases s2 : r.getD s.toNat false with
          | true =>
            simp only [↓eB, seval, go_sem, cGr_e, cGr_d, Gq.r, zID_ln, zND_ln, zIn_ln, zBC_ln, bl_gc, bl_set, List.length_replicate, ↓oD_stor, ↓oD_names, ↓oD_noVw, ↓oD_flat, ↓oD_mv, ↓oD_ldc, h3, h5, h6, h7, h8, s0, il, s1, s2]
            try simp only [impB, impN]
            repeat' first | exact ck | with_reducible apply And.intro | intro _
            all_goals try first | exact k3 | exact k4 | exact hlj | exact hs0 | exact hs1 | (rename_i h; first | exact oI h | exact nah h) | (rename_i _ h _ g; exact sL h g) | decide | omega
            refine ⟨(j + 1, r, t), ⟨hlj, i2, hin r (fun _ h => h) (fun _ _ => s2), i4⟩, by dsimp only; omega, to_with [] ?_⟩
            simp only [↓eB, seval, go_sem, rowsI.fn, rowsBl.fn, ↓oD_stor, ↓oD_names, ↓oD_noVw, ↓oD_flat, ↓oD_mv, ↓oD_ldc, zND, zID]
          | false =>
            have hcn := cnF_set hsr s2
            have i5 := i2.push k2 hsm hs0 hs1
            have htl : t.length ≤ 4000000 := by omega
            simp only [↓eB, seval, go_sem, cGr_e, cGr_d, Gq.r, zID_ln, zND_ln, zIn_ln, zBC_ln, bl_gc, bl_set, List.length_replicate, ↓oD_stor, ↓oD_names, ↓oD_noVw, ↓oD_flat, ↓oD_mv, ↓oD_ldc, h3, h5, h6, h7, h8, s0, il, s1, s2]
            try simp only [impB, impN]
            repeat' first | exact ck | with_reducible apply And.intro | intro _
            all_goals try first | exact k3 | exact k4 | exact hlj | exact hs0 | exact hs1 | (rename_i h; first | exact oI h | exact nah h) | (rename_i _ h _ g; exact sL h g) | decide | omega
            refine ⟨(j + 1, r.set s.toNat true, t ++ [s]), ⟨hlj, i5, hin _ (fun k h => by rw [getD_set' hsr]; split; rfl; exact h) (fun _ _ => by rw [getD_set' hsr]; simp), by simp only [List.length_append, List.length_cons, List.length_nil]; omega⟩, by dsimp only; omega,
              to_trans (t := ⟨[(1, true, .one (.p 1 0 0)), (3, true, .one (.s 11)), (4, true, .one (.s 65)), (38, true, .one (.d (.sl zID (nx.map inD)))), (39, true, .one (.v (.int .i64 (nx.length : Int)))), (40, true, .one (.v (.int .i64 ((j + 1 : Nat) : Int))))], [(1, .vec 0 [.v (.bool false)] [[.d (.sl zND (g.map Gq.r))]]), (11, .vec 0 zBC ((r.set s.toNat true).map blC)), (65, .vec 0 zIn ((t ++ [s]).map inC))]⟩) (to_with [] ?_) (to_with [.mv 65 1001] ?_)⟩
            · simp only [↓eB, seval, go_sem, rowsI.fn, rowsBl.fn, ↓oD_stor, ↓oD_names, ↓oD_noVw, ↓oD_flat, ↓oD_mv, ↓oD_ldc, zND, zID, bl_set, List.map_append, List.flatMap_append, inC]
            · simp only [↓eB, seval, go_sem, rowsI.fn, rowsBl.fn, ↓oD_stor, ↓oD_names, ↓oD_noVw, ↓oD_flat, ↓oD_mv, ↓oD_ldc, zND, zID, rowsI.mv, rowsBl.mv]
noncomputable def yp_Reach {X : Ctx} {w0 : World} : Sy.Spec Try.prog X w0 := specD 15 Try.call15 ya_Reach (fun p : (List Gq) × Unit => yc_Reach p.1) (fun p : (List Gq) × Unit => yr_Reach p.1) yn_Reach y_Reach
abbrev yc_rReach (g : List Gq) : Prop := okG g
abbrev yr_rReach (g : List Gq) : SV := trB (rcF g)
noncomputable abbrev ya_rReach : ArgC ((List Gq) × Unit) := (acS (cGr) ac0)
abbrev yq_rReach : Prop := CallsY Try.prog 24 ya_rReach (fun p : (List Gq) × Unit => yc_rReach p.1) (fun p : (List Gq) × Unit => yr_rReach p.1)
theorem yn_rReach : ∀ p : (List Gq) × Unit, ((fun p : (List Gq) × Unit => yr_rReach p.1) p).names = [] := by intro p; first | rfl | exact ex_names _ | exact cd_names _
set_option maxRecDepth 20000 in set_option maxHeartbeats 8000000 in
theorem y_rReach : yq_rReach := by
  rintro ⟨g, _u⟩ w fz xs hc hfz hl hx
  refine calls_toL Try.func24 rfl w fz [] [] ya_rReach (fun p : (List Gq) × Unit => yr_rReach p.1) _ xs hfz hl hx (Nat.le_of_ble_eq_true rfl) ?_
  clear hx hl hfz xs
  simp only [Try.f24]
  obtain ⟨hc1, hc2⟩ := hc
  dsimp only at hc1 hc2
  by_cases h0 : g.length = 0
  · have h00 : ((g.length : Int) == 0) = true := by simp [h0]
    have hr : rcF ([] : List Gq) = [] := rcF_nil rfl
    have hn : g = [] := List.length_eq_zero_iff.1 h0
    simp only [↓eB, seval, go_sem, cGr_e, cGr_d, Gq.r, zID_ln, zND_ln, zIn_ln, zBC_ln, bl_gc, bl_set, List.length_replicate, ↓oD_stor, ↓oD_names, ↓oD_noVw, ↓oD_flat, ↓oD_mv, ↓oD_ldc, h00]
    refine ⟨⟨by omega, by omega⟩, ?_⟩
    refine ret_with [] ?_; simp only [↓eB, seval, go_sem, bne, yr_rReach, hr, hn, trB, bl_rep, List.replicate_zero, zBC, zBl, rowsBl.ds, rowsBl.fz, rowsBl.fn]
  have h00 : ((g.length : Int) == 0) = false := by rw [beq_eq_false_iff_ne]; omega
  have hpos : 0 < g.length := by omega
  simp only [↓eB, seval, go_sem, cGr_e, cGr_d, Gq.r, zID_ln, zND_ln, zIn_ln, zBC_ln, bl_gc, bl_set, List.length_replicate, ↓oD_stor, ↓oD_names, ↓oD_noVw, ↓oD_flat, ↓oD_mv, ↓oD_ldc, h00, bl_rep, zBC]
  repeat' (first | exact ck | with_reducible apply And.intro)
  all_goals try first | omega | decide | (simp; omega)
  refine loop_ok (Y := List Bool × List Int) (fun y => RI g y.1 y.2 (fun _ => False) ∧ 2 * cnF y.1 + y.2.length ≤ 2 * g.length)
    (fun y => ⟨[(1, true, .one (.p 1 0 0)), (3, true, .one (.s 11)), (4, true, .one (.s 1000))], [(1, .vec 0 [.v (.bool false)] [[.d (.sl zND (g.map Gq.r))]]), (11, .vec 0 zBC (y.1.map blC)), (1000, .vec 0 zIn (y.2.map inC))]⟩)
    (fun y => 2 * cnF y.1 + y.2.length) ((List.replicate g.length false).set 0 true, [0]) ⟨RI.init hpos, by
      have := cnF_set (r := List.replicate g.length false) (k := 0) (by simpa using hpos) (by simp only [List.getD, List.getElem?_replicate]; split <;> rfl)
      rw [cnF_rep] at this
      simp only [List.length_cons, List.length_nil]; omega⟩ ?_ ?_
  · refine to_trans (t := ⟨[(1, true, .one (.p 1 0 0)), (3, true, .one (.s 11)), (4, true, .one (.s 17))], [(1, .vec 0 [.v (.bool false)] [[.d (.sl zND (g.map Gq.r))]]), (11, .vec 0 zBC (((List.replicate g.length false).set 0 true).map blC)), (17, .vec 0 zIn ([(0 : Int)].map inC))]⟩) (to_with [] ?_) (to_with [.mv 17 1000] ?_)
    · simp only [↓eB, seval, go_sem, rowsI.fn, rowsBl.fn, ↓oD_stor, ↓oD_names, ↓oD_noVw, ↓oD_flat, ↓oD_mv, ↓oD_ldc, zND, zBC, zIn, bl_rep, bl_gcl, bl_set, inC]
    · simp only [↓eB, seval, go_sem, rowsI.fn, rowsBl.fn, ↓oD_stor, ↓oD_names, ↓oD_noVw, ↓oD_flat, ↓oD_mv, ↓oD_ldc, zND, zBC, zIn, rowsI.mv, rowsBl.mv, inC]
  · rintro ⟨r, t⟩ ⟨j2, j3⟩
    refine vc_ok [] [] _ _ _ ?_
    dsimp only at j2 j3
    have jl := j2.l
    have hcl := cnF_le r
    by_cases t0' : t.length = 0
    · have ht : t = [] := List.length_eq_zero_iff.1 t0'
      subst ht
      have hr : rcF g = r := j2.fin.symm
      have e0 : (decide ((0 : Int) < ((([] : List Int).length : Nat) : Int))) = false := rfl
      simp only [↓eB, seval, go_sem, cGr_e, cGr_d, Gq.r, zID_ln, zND_ln, zIn_ln, zBC_ln, bl_gc, bl_set, List.length_replicate, ↓oD_stor, ↓oD_names, ↓oD_noVw, ↓oD_flat, ↓oD_mv, ↓oD_ldc, e0]
      refine ret_with [.fz 11] ?_; simp only [↓eB, seval, go_sem, bne, yr_rReach, hr, trB, zBC_td, rowsBl.ds, rowsBl.fz, rowsBl.fn, rowsI.fz]
    · have e0 : decide ((0 : Int) < (t.length : Int)) = true := by simp; omega
      obtain ⟨x, t0, hT⟩ : ∃ x t0, t = x :: t0 := by cases t with
        | nil => simp at t0'
        | cons x t0 => exact ⟨x, t0, rfl⟩
      have hmem : ∀ s, s ∈ t ↔ s = x ∨ s ∈ t0 := fun s => by rw [hT]; simp
      have e1 : (t.map inC).getD 0 zIn = [.v (.int .i64 x)] := by rw [hT]; rfl
      have e2 : ((t.map inC).drop 1).take (t.length - 1) = t0.map inC := by rw [hT]; show ((t0.map inC).take t0.length) = t0.map inC; exact List.take_of_length_le (by simp)
      have e3 : (t.length : Int).toNat = t.length := Int.toNat_natCast _
      have e4 : t.length = t0.length + 1 := by rw [hT]; rfl
      have e5 : (0 : Int) < (t.length : Int) := by omega
      have e6 : (1 : Int) ≤ (t.length : Int) := by omega
      obtain ⟨k1, k2, k3, k4⟩ := j2.pop hmem
      have hxl : x.toNat < g.length := by omega
      obtain ⟨z, hz⟩ : ∃ z, g[x.toNat]? = some z := ⟨_, List.getElem?_eq_getElem hxl⟩
      have hzd : g.getD x.toNat gq0 = z := by simp [List.getD, hz]
      have hnx := hc2 z (List.mem_of_getElem? hz)
      have h3 := gq_at hz
      obtain ⟨c0, c1, c2, c3, c4, c5, c6, c7, c8, c9, ca, nx, hh⟩ := z
      dsimp only at hnx
      simp only [↓eB, seval, go_sem, cGr_e, cGr_d, Gq.r, zID_ln, zND_ln, zIn_ln, zBC_ln, bl_gc, bl_set, List.length_replicate, ↓oD_stor, ↓oD_names, ↓oD_noVw, ↓oD_flat, ↓oD_mv, ↓oD_ldc, e0, e1, e2, e3, h3]
      repeat' (first | exact ck | with_reducible apply And.intro)
      all_goals try first | exact k3 | exact k4 | exact e5 | exact e6 | exact natI_le _ | exact rowsI.stor | omega | decide
      refine loop_ok (Y := Nat × List Bool × List Int) (fun y => y.1 ≤ nx.length ∧ RI g y.2.1 y.2.2 (fun k => k = x.toNat) ∧ (∀ s ∈ nx.take y.1, 0 ≤ s → s < (g.length : Int) → y.2.1.getD s.toNat false = true) ∧ 2 * cnF y.2.1 + y.2.2.length < 2 * cnF r + (t).length)
        (fun y => ⟨[(1, true, .one (.p 1 0 0)), (3, true, .one (.s 11)), (4, true, .one (.s 1001)), (5, true, .one (.v (.int .i64 x))), (6, true, .one (.v (.int .i64 (y.1 : Int))))], [(1, .vec 0 [.v (.bool false)] [[.d (.sl zND (g.map Gq.r))]]), (11, .vec 0 zBC (y.2.1.map blC)), (1001, .vec 0 zIn (y.2.2.map inC))]⟩)
        (fun y => nx.length - y.1) (0, r, t0) ⟨Nat.zero_le _, k1, (fun s hs => by simp at hs), by dsimp only; omega⟩ ?_ ?_
      · refine to_trans (t := ⟨[(1, true, .one (.p 1 0 0)), (3, true, .one (.s 11)), (4, true, .one (.s 25)), (5, true, .one (.v (.int .i64 x))), (6, true, .one (.v (.int .i64 (0 : Int))))], [(1, .vec 0 [.v (.bool false)] [[.d (.sl zND (g.map Gq.r))]]), (11, .vec 0 zBC (r.map blC)), (25, .vec 0 zIn (t0.map inC))]⟩) (to_with [] ?_) (to_with [.mv 25 1001] ?_)
        · simp only [↓eB, seval, go_sem, rowsI.fn, rowsBl.fn, ↓oD_stor, ↓oD_names, ↓oD_noVw, ↓oD_flat, ↓oD_mv, ↓oD_ldc, zND, zID, zIn_ln]
        · simp only [↓eB, seval, go_sem, rowsI.fn, rowsBl.fn, ↓oD_stor, ↓oD_names, ↓oD_noVw, ↓oD_flat, ↓oD_mv, ↓oD_ldc, zND, zID, zIn_ln, rowsI.mv, rowsBl.mv]
      · rintro ⟨j, r, t⟩ ⟨i1, i2, i3, i4⟩
        refine vc_ok [] [] _ _ _ ?_
        dsimp only at i1 i2 i3 i4
        have il := i2.l
        cases hy : nx[j]? with
        | none =>
          have hi2 : nx.length ≤ j := List.getElem?_eq_none_iff.1 hy
          have h5 := natI_ge hi2
          rw [List.take_of_length_le hi2] at i3
          have hcl : clo g r x.toNat := by intro s hs; rw [hzd] at hs; exact i3 s hs
          simp only [↓eB, seval, go_sem, cGr_e, cGr_d, Gq.r, zID_ln, zND_ln, zIn_ln, zBC_ln, bl_gc, bl_set, List.length_replicate, ↓oD_stor, ↓oD_names, ↓oD_noVw, ↓oD_flat, ↓oD_mv, ↓oD_ldc, h3, h5]
          try simp only [impB, impN]
          repeat' first | exact ck | with_reducible apply And.intro | intro _
          all_goals try first | exact k3 | exact k4 | (rename_i h; first | exact oI h | exact nah h) | (rename_i _ h _ g; exact sL h g) | decide | omega
          refine ⟨(r, t), ⟨i2.done hcl, by dsimp only; omega⟩, by dsimp only; omega, to_with [.mv 1001 1000] ?_⟩
          simp only [↓eB, seval, go_sem, rowsI.fn, rowsBl.fn, ↓oD_stor, ↓oD_names, ↓oD_noVw, ↓oD_flat, ↓oD_mv, ↓oD_ldc, zND, zID, rowsI.mv, rowsBl.mv]
        | some s =>
          have hlj : j < nx.length := (List.getElem?_eq_some_iff.1 hy).1
          have hsm : s ∈ (g.getD x.toNat gq0).nx := by rw [hzd]; exact List.mem_of_getElem? hy
          have h5 := natI_lt hlj
          have h6 := natI_ltp hlj
          have h7 := in_at hy
          have h8 := natI_succ i1 (by omega)
          have htk : nx.take (j + 1) = nx.take j ++ [s] := by rw [List.take_add_one, hy]; rfl
          have hin : ∀ r' : List Bool, (∀ k, r.getD k false = true → r'.getD k false = true) → (0 ≤ s → s < (g.length : Int) → r'.getD s.toNat false = true) → ∀ s' ∈ nx.take (j + 1), 0 ≤ s' → s' < (g.length : Int) → r'.getD s'.toNat false = true := by
            intro r' hm hs s' hs' q0 q1
            rw [htk] at hs'
            rcases List.mem_append.1 hs' with h | h
            · exact hm _ (i3 s' h q0 q1)
            · simp only [List.mem_singleton] at h; subst h; exact hs q0 q1
          cases s0 : decide (0 ≤ s) with
          | false =>
            have hs0 := of_decide_eq_false s0
            simp only [↓eB, seval, go_sem, cGr_e, cGr_d, Gq.r, zID_ln, zND_ln, zIn_ln, zBC_ln, bl_gc, bl_set, List.length_replicate, ↓oD_stor, ↓oD_names, ↓oD_noVw, ↓oD_flat, ↓oD_mv, ↓oD_ldc, h3, h5, h6, h7, h8, s0]
            try simp only [impB, impN]
            repeat' first | exact ck | with_reducible apply And.intro | intro _
            all_goals try first | exact k3 | exact k4 | exact hlj | (rename_i h; first | exact oI h | exact nah h) | (rename_i _ h _ g; exact sL h g) | decide | omega
            refine ⟨(j + 1, r, t), ⟨hlj, i2, hin r (fun _ h => h) (fun q => absurd q hs0), i4⟩, by dsimp only; omega, to_with [] ?_⟩
            simp only [↓eB, seval, go_sem, rowsI.fn, rowsBl.fn, ↓oD_stor, ↓oD_names, ↓oD_noVw, ↓oD_flat, ↓oD_mv, ↓oD_ldc, zND, zID]
          | true =>
          have hs0 := of_decide_eq_true s0
          cases s1 : decide (s < (g.length : Int)) with
          | false =>
            have hs1 := of_decide_eq_false s1
            simp only [↓eB, seval, go_sem, cGr_e, cGr_d, Gq.r, zID_ln, zND_ln, zIn_ln, zBC_ln, bl_gc, bl_set, List.length_replicate, ↓oD_stor, ↓oD_names, ↓oD_noVw, ↓oD_flat, ↓oD_mv, ↓oD_ldc, h3, h5, h6, h7, h8, s0, il, s1]
            try simp only [impB, impN]
            repeat' first | exact ck | with_reducible apply And.intro | intro _
            all_goals try first | exact k3 | exact k4 | exact hlj | (rename_i h; first | exact oI h | exact nah h) | (rename_i _ h _ g; exact sL h g) | decide | omega
            refine ⟨(j + 1, r, t), ⟨hlj, i2, hin r (fun _ h => h) (fun _ q => absurd q hs1), i4⟩, by dsimp only; omega, to_with [] ?_⟩
            simp only [↓eB, seval, go_sem, rowsI.fn, rowsBl.fn, ↓oD_stor, ↓oD_names, ↓oD_noVw, ↓oD_flat, ↓oD_mv, ↓oD_ldc, zND, zID]
          | true =>
          have hs1 := of_decide_eq_true s1
          have hsr : s.toNat < r.length := by omega
          cases s2 : r.getD s.toNat false with
          | true =>
            simp only [↓eB, seval, go_sem, cGr_e, cGr_d, Gq.r, zID_ln, zND_ln, zIn_ln, zBC_ln, bl_gc, bl_set, List.length_replicate, ↓oD_stor, ↓oD_names, ↓oD_noVw, ↓oD_flat, ↓oD_mv, ↓oD_ldc, h3, h5, h6, h7, h8, s0, il, s1, s2]
            try simp only [impB, impN]
            repeat' first | exact ck | with_reducible apply And.intro | intro _
            all_goals try first | exact k3 | exact k4 | exact hlj | exact hs0 | exact hs1 | (rename_i h; first | exact oI h | exact nah h) | (rename_i _ h _ g; exact sL h g) | decide | omega
            refine ⟨(j + 1, r, t), ⟨hlj, i2, hin r (fun _ h => h) (fun _ _ => s2), i4⟩, by dsimp only; omega, to_with [] ?_⟩
            simp only [↓eB, seval, go_sem, rowsI.fn, rowsBl.fn, ↓oD_stor, ↓oD_names, ↓oD_noVw, ↓oD_flat, ↓oD_mv, ↓oD_ldc, zND, zID]
          | false =>
            have hcn := cnF_set hsr s2
            have i5 := i2.push k2 hsm hs0 hs1
            have htl : t.length ≤ 4000000 := by omega
            simp only [↓eB, seval, go_sem, cGr_e, cGr_d, Gq.r, zID_ln, zND_ln, zIn_ln, zBC_ln, bl_gc, bl_set, List.length_replicate, ↓oD_stor, ↓oD_names, ↓oD_noVw, ↓oD_flat, ↓oD_mv, ↓oD_ldc, h3, h5, h6, h7, h8, s0, il, s1, s2]
            try simp only [impB, impN]
            repeat' first | exact ck | with_reducible apply And.intro | intro _
            all_goals try first | exact k3 | exact k4 | exact hlj | exact hs0 | exact hs1 | (rename_i h; first | exact oI h | exact nah h) | (rename_i _ h _ g; exact sL h g) | decide | omega
            refine ⟨(j + 1, r.set s.toNat true, t ++ [s]), ⟨hlj, i5, hin _ (fun k h => by rw [getD_set' hsr]; split; rfl; exact h) (fun _ _ => by rw [getD_set' hsr]; simp), by simp only [List.length_append, List.length_cons, List.length_nil]; omega⟩, by dsimp only; omega,
              to_trans (t := ⟨[(1, true, .one (.p 1 0 0)), (3, true, .one (.s 11)), (4, true, .one (.s 68)), (5, true, .one (.v (.int .i64 x))), (6, true, .one (.v (.int .i64 ((j + 1 : Nat) : Int))))], [(1, .vec 0 [.v (.bool false)] [[.d (.sl zND (g.map Gq.r))]]), (11, .vec 0 zBC ((r.set s.toNat true).map blC)), (68, .vec 0 zIn ((t ++ [s]).map inC))]⟩) (to_with [] ?_) (to_with [.mv 68 1001] ?_)⟩
            · simp only [↓eB, seval, go_sem, rowsI.fn, rowsBl.fn, ↓oD_stor, ↓oD_names, ↓oD_noVw, ↓oD_flat, ↓oD_mv, ↓oD_ldc, zND, zID, bl_set, List.map_append, List.flatMap_append, inC]
            · simp only [↓eB, seval, go_sem, rowsI.fn, rowsBl.fn, ↓oD_stor, ↓oD_names, ↓oD_noVw, ↓oD_flat, ↓oD_mv, ↓oD_ldc, zND, zID, rowsI.mv, rowsBl.mv]
noncomputable def yp_rReach {X : Ctx} {w0 : World} : Sy.Spec Try.prog X w0 := specD 24 Try.call24 ya_rReach (fun p : (List Gq) × Unit => yc_rReach p.1) (fun p : (List Gq) × Unit => yr_rReach p.1) yn_rReach y_rReach
end
end Go.Proofs.Ytiipmaoonnjlpaa
