/- Graphs as arguments; numbers, truths and ways held against one another; the heads of loops. No conditions but those in each statement. -/
import Derived.Test.YtiipmaoonnjlpaaLo1
set_option linter.unusedVariables false
set_option linter.unusedSimpArgs false
namespace Go.Proofs.Ytiipmaoonnjlpaa
open Go Go.Sy Go.RowKit
theorem zND_ln : zND.length = 13 := rfl
/- a node of a graph, whatever its statement -/
structure Gq where
  c0 : D
  c1 : D
  c2 : D
  c3 : D
  c4 : D
  c5 : D
  c6 : D
  c7 : D
  c8 : D
  c9 : D
  ca : D
  nx : List Int
  h : Bool
def Gq.r (x : Gq) : List D := [x.c0, x.c1, x.c2, x.c3, x.c4, x.c5, x.c6, x.c7, x.c8, x.c9, x.ca, .sl zID (x.nx.map inD), .v (.bool x.h)]
theorem gqr_inj (a b : Gq) (h : a.r = b.r) : a = b := by
  obtain ⟨a0, a1, a2, a3, a4, a5, a6, a7, a8, a9, aa, an, ah⟩ := a
  obtain ⟨b0, b1, b2, b3, b4, b5, b6, b7, b8, b9, ba, bn, bh⟩ := b
  simp only [Gq.r, List.cons.injEq, D.v.injEq, D.sl.injEq, Value.bool.injEq, true_and, and_true] at h
  obtain ⟨rfl, rfl, rfl, rfl, rfl, rfl, rfl, rfl, rfl, rfl, rfl, h1, rfl⟩ := h
  rw [map_inj inD_inj h1]
theorem leL1 {v : SV} {d : D} (h : leV v (.agg [.d d])) : ∃ c, v = .agg [c] ∧ leC c (.d d) := by
  cases v with
  | one c => exact h.elim
  | tup l => exact h.elim
  | agg l => match l, h with
    | [c], h => exact ⟨c, rfl, h.1⟩
noncomputable def cGr : Cod (List Gq) := codOf (fun l => .agg [.d (.sl zND (l.map Gq.r))]) (fun v a b h h' => by
  obtain ⟨c, rfl, h1⟩ := leL1 h
  exact map_inj gqr_inj (leC_d h1 h'.1)) (fun l => rfl)
theorem cGr_e (l : List Gq) : cGr.e l = .agg [.d (.sl zND (l.map Gq.r))] := rfl
theorem cGr_d (l : List Gq) : cGr.d (.agg [.d (.sl zND (l.map Gq.r))]) = some l := codOf_le (e := fun l : List Gq => .agg [.d (.sl zND (l.map Gq.r))]) (leV_refl _)
def Nd.g (x : Nd) : Gq := ⟨dI x.k, dI x.s.k, dS x.s.x, dS x.s.y, x.s.e.d, x.s.f.d, x.s.cd.d, .sl zAr (x.s.ar.map Ar.r), .sl zSm (x.s.th.map Sm.r), .sl zSm (x.s.el.map Sm.r), dI x.s.no, x.nx, x.h⟩
theorem nd_g (l : List Nd) : l.map Nd.r = (l.map Nd.g).map Gq.r := by rw [List.map_map]; rfl
theorem gq_at {l : List Gq} {i : Nat} {x : Gq} (h : l[i]? = some x) (z : List D) : (l.map Gq.r).getD i z = x.r := by simp [List.getD, h]
theorem in_at {l : List Int} {i : Nat} {x : Int} (h : l[i]? = some x) (z : List D) : (l.map inD).getD i z = [.v (.int .i64 x)] := by simp [List.getD, h, inD]
noncomputable def rIn : RowC Int := rowOf zID inD inD_inj fun _ => rfl
theorem rIn_e : rIn.e = inD := rfl
theorem rIn_z : rIn.z = zID := rfl
theorem rIn_d (n : Int) : rIn.d [.v (.int .i64 n)] = some n := rIn.i n
theorem decL_in (l : List Int) : decL rIn.d (l.map inD) = some l := decL_map rIn l
def blD (b : Bool) : List D := [.v (.bool b)]
def zBl : List D := [.v (.bool false)]
theorem bl_inj (a b : Bool) (h : blD a = blD b) : a = b := by simpa [blD] using h
noncomputable def rBl : RowC Bool := rowOf zBl blD bl_inj fun _ => rfl
theorem rBl_e : rBl.e = blD := rfl
theorem rBl_z : rBl.z = zBl := rfl
theorem zBl_ln : zBl.length = 1 := rfl
theorem decL_bl (l : List Bool) : decL rBl.d (l.map blD) = some l := decL_map rBl l
theorem bl_at {l : List Bool} {i : Nat} {x : Bool} (h : l[i]? = some x) (z : List D) : (l.map blD).getD i z = [.v (.bool x)] := by simp [List.getD, h, blD]
theorem beq_drop {A : Type} [BEq A] [LawfulBEq A] {a b : List A} {i : Nat} {x y : A} (hx : a[i]? = some x) (hy : b[i]? = some y) : (a.drop i == b.drop i) = (x == y && a.drop (i + 1) == b.drop (i + 1)) := by
  rw [drop_get hx, drop_get hy]; rfl
theorem beq_len {A : Type} [BEq A] [LawfulBEq A] {a b : List A} (h : a.length ≠ b.length) : (a == b) = false := by
  rw [beq_eq_false_iff_ne]; rintro rfl; exact h rfl
abbrev yc_Ints (a : List Int) (b : List Int) : Prop := a.length ≤ 4294967296 ∧ b.length ≤ 4294967296
abbrev yr_Ints (a : List Int) (b : List Int) : Value := Value.bool (a == b)
set_option maxRecDepth 20000 in set_option maxHeartbeats 4000000 in
theorem y_Ints : CallsR Try.prog 18 (ahS (cSl rIn) (ahS (cSl rIn) ah0)) (fun p : (List Int × (List Int × Unit)) => yc_Ints p.1 p.2.1) (fun p : (List Int × (List Int × Unit)) => ofV (yr_Ints p.1 p.2.1)) := by
  rintro ⟨a, b, _u⟩ w fz xs hc hfz hl hx
  refine calls_toRL Try.func18 rfl w fz [] [] (ahS (cSl rIn) (ahS (cSl rIn) ah0)) (fun p : (List Int × (List Int × Unit)) => ofV (yr_Ints p.1 p.2.1)) _ xs hfz hl hx (Nat.le_of_ble_eq_true rfl) ?_
  clear hx hl hfz xs
  simp only [Try.f18]
  obtain ⟨hc1, hc2⟩ := hc
  dsimp only at hc1 hc2
  by_cases hl : a.length = b.length
  · have e0 : ((a.length : Int) != (b.length : Int)) = false := by simp [hl]
    simp only [↓eB, seval, go_sem, rIn_d, rIn_e, rIn_z, zID_ln, decL_in, cSl, e0]
    refine loop_ok (Y := Nat) (fun i => i ≤ a.length ∧ (a.drop i == b.drop i) = (a == b))
      (fun i => ⟨[(0, true, .one (.d (.sl zID (a.map inD)))), (1, true, .one (.d (.sl zID (b.map inD)))), (5, true, .one (.v (.int .i64 (i : Int))))], []⟩)
      (fun i => a.length - i) 0 ⟨Nat.zero_le _, rfl⟩ ?_ ?_
    · refine to_with [] ?_; simp only [↓eB, seval, go_sem, zID]
    · rintro i ⟨hi, hJ⟩
      refine vc_ok [] [] _ _ _ ?_
      cases hx : a[i]? with
      | none =>
        have hi2 : a.length ≤ i := List.getElem?_eq_none_iff.1 hx
        have h1 := natI_ge hi2
        rw [List.drop_eq_nil_of_le hi2, List.drop_eq_nil_of_le (by omega)] at hJ
        have hR : (a == b) = true := hJ.symm
        simp only [↓eB, seval, go_sem, rIn_d, rIn_e, rIn_z, zID_ln, decL_in, cSl, h1]
        refine ret_with [] ?_; simp only [↓eB, seval, go_sem, bne, yr_Ints, hR]
      | some x =>
        have hlt : i < a.length := (List.getElem?_eq_some_iff.1 hx).1
        have hlb : i < b.length := by omega
        obtain ⟨y, hy⟩ : ∃ y, b[i]? = some y := ⟨_, List.getElem?_eq_getElem hlb⟩
        have h1 := natI_lt hlt
        have h2 := natI_ltp hlt
        have h2' := natI_ltp hlb
        have h3 := in_at hx
        have h3' := in_at hy
        have h4 := natI_succ hi hc1
        rw [beq_drop hx hy] at hJ
        have hn : (x != y) = !(x == y) := rfl
        cases hxy : (x == y) with
        | true =>
          rw [hxy] at hJ hn
          simp only [Bool.true_and] at hJ
          simp only [↓eB, seval, go_sem, rIn_d, rIn_e, rIn_z, zID_ln, decL_in, cSl, h1, h2, h2', h3, h3', h4, hn]
          try simp only [impB, impN]
          repeat' first | exact ck | with_reducible apply And.intro | intro _
          all_goals try first | exact hlt | exact hlb | (rename_i h; first | exact oI h | exact nah h) | (rename_i _ h _ g; exact sL h g) | decide | omega
          refine ⟨i + 1, ⟨hlt, hJ⟩, by omega, to_with [] ?_⟩
          simp only [↓eB, seval, go_sem, zID]
        | false =>
          rw [hxy] at hJ hn
          simp only [Bool.false_and] at hJ
          have hR : (a == b) = false := hJ.symm
          simp only [↓eB, seval, go_sem, rIn_d, rIn_e, rIn_z, zID_ln, decL_in, cSl, h1, h2, h2', h3, h3', h4, hn]
          try simp only [impB, impN]
          repeat' first | exact ck | with_reducible apply And.intro | intro _
          all_goals first | exact hlt | exact hlb | (rename_i h; first | exact oI h | exact nah h) | (rename_i _ h _ g; exact sL h g) | decide | omega | (refine ret_with [] ?_; simp only [↓eB, seval, go_sem, bne, yr_Ints, hR])
  · have e0 : ((a.length : Int) != (b.length : Int)) = true := by simp; omega
    have hR := beq_len hl
    simp only [↓eB, seval, go_sem, rIn_d, rIn_e, rIn_z, zID_ln, decL_in, cSl, e0]
    try simp only [impB, impN]
    repeat' first | exact ck | with_reducible apply And.intro | intro _
    all_goals first | exact hc1 | (rename_i h; first | exact oI h | exact nah h) | (rename_i _ h _ g; exact sL h g) | decide | omega | (refine ret_with [] ?_; simp only [↓eB, seval, go_sem, bne, yr_Ints, hR])
theorem yh_Ints : ∀ p : (List Int × (List Int × Unit)), okV ((fun p : (List Int × (List Int × Unit)) => yr_Ints p.1 p.2.1) p) = true := by intro p; rfl
noncomputable def yp_Ints {X : Ctx} {w0 : World} : Sy.Spec Try.prog X w0 := specR 18 Try.call18 (ahS (cSl rIn) (ahS (cSl rIn) ah0)) (fun p : (List Int × (List Int × Unit)) => yc_Ints p.1 p.2.1) (fun p : (List Int × (List Int × Unit)) => yr_Ints p.1 p.2.1) yh_Ints y_Ints
abbrev yc_truths (a : List Bool) (b : List Bool) : Prop := a.length ≤ 4294967296 ∧ b.length ≤ 4294967296
abbrev yr_truths (a : List Bool) (b : List Bool) : Value := Value.bool (a == b)
set_option maxRecDepth 20000 in set_option maxHeartbeats 4000000 in
theorem y_truths : CallsR Try.prog 23 (ahS (cSl rBl) (ahS (cSl rBl) ah0)) (fun p : (List Bool × (List Bool × Unit)) => yc_truths p.1 p.2.1) (fun p : (List Bool × (List Bool × Unit)) => ofV (yr_truths p.1 p.2.1)) := by
  rintro ⟨a, b, _u⟩ w fz xs hc hfz hl hx
  refine calls_toRL Try.func23 rfl w fz [] [] (ahS (cSl rBl) (ahS (cSl rBl) ah0)) (fun p : (List Bool × (List Bool × Unit)) => ofV (yr_truths p.1 p.2.1)) _ xs hfz hl hx (Nat.le_of_ble_eq_true rfl) ?_
  clear hx hl hfz xs
  simp only [Try.f23]
  obtain ⟨hc1, hc2⟩ := hc
  dsimp only at hc1 hc2
  by_cases hl : a.length = b.length
  · have e0 : ((a.length : Int) != (b.length : Int)) = false := by simp [hl]
    simp only [↓eB, seval, go_sem, rBl_e, rBl_z, zBl_ln, decL_bl, cSl, e0]
    refine loop_ok (Y := Nat) (fun i => i ≤ a.length ∧ (a.drop i == b.drop i) = (a == b))
      (fun i => ⟨[(0, true, .one (.d (.sl zBl (a.map blD)))), (1, true, .one (.d (.sl zBl (b.map blD)))), (5, true, .one (.v (.int .i64 (i : Int))))], []⟩)
      (fun i => a.length - i) 0 ⟨Nat.zero_le _, rfl⟩ ?_ ?_
    · refine to_with [] ?_; simp only [↓eB, seval, go_sem, zBl]
    · rintro i ⟨hi, hJ⟩
      refine vc_ok [] [] _ _ _ ?_
      cases hx : a[i]? with
      | none =>
        have hi2 : a.length ≤ i := List.getElem?_eq_none_iff.1 hx
        have h1 := natI_ge hi2
        rw [List.drop_eq_nil_of_le hi2, List.drop_eq_nil_of_le (by omega)] at hJ
        have hR : (a == b) = true := hJ.symm
        simp only [↓eB, seval, go_sem, rBl_e, rBl_z, zBl_ln, decL_bl, cSl, h1]
        refine ret_with [] ?_; simp only [↓eB, seval, go_sem, bne, yr_truths, hR]
      | some x =>
        have hlt : i < a.length := (List.getElem?_eq_some_iff.1 hx).1
        have hlb : i < b.length := by omega
        obtain ⟨y, hy⟩ : ∃ y, b[i]? = some y := ⟨_, List.getElem?_eq_getElem hlb⟩
        have h1 := natI_lt hlt
        have h2 := natI_ltp hlt
        have h2' := natI_ltp hlb
        have h3 := bl_at hx
        have h3' := bl_at hy
        have h4 := natI_succ hi hc1
        rw [beq_drop hx hy] at hJ
        have hn : (x != y) = !(x == y) := rfl
        cases hxy : (x == y) with
        | true =>
          rw [hxy] at hJ hn
          simp only [Bool.true_and] at hJ
          simp only [↓eB, seval, go_sem, rBl_e, rBl_z, zBl_ln, decL_bl, cSl, h1, h2, h2', h3, h3', h4, hn, hxy]
          try simp only [impB, impN]
          repeat' first | exact ck | with_reducible apply And.intro | intro _
          all_goals try first | exact hlt | exact hlb | (rfl) | (rename_i h; first | exact oI h | exact nah h) | (rename_i _ h _ g; exact sL h g) | decide | omega
          refine ⟨i + 1, ⟨hlt, hJ⟩, by omega, to_with [] ?_⟩
          simp only [↓eB, seval, go_sem, zBl]
        | false =>
          rw [hxy] at hJ hn
          simp only [Bool.false_and] at hJ
          have hR : (a == b) = false := hJ.symm
          simp only [↓eB, seval, go_sem, rBl_e, rBl_z, zBl_ln, decL_bl, cSl, h1, h2, h2', h3, h3', h4, hn, hxy]
          try simp only [impB, impN]
          repeat' first | exact ck | with_reducible apply And.intro | intro _
          all_goals first | exact hlt | exact hlb | (rfl) | (rename_i h; first | exact oI h | exact nah h) | (rename_i _ h _ g; exact sL h g) | decide | omega | (refine ret_with [] ?_; simp only [↓eB, seval, go_sem, bne, yr_truths, hR])
  · have e0 : ((a.length : Int) != (b.length : Int)) = true := by simp; omega
    have hR := beq_len hl
    simp only [↓eB, seval, go_sem, rBl_e, rBl_z, zBl_ln, decL_bl, cSl, e0]
    try simp only [impB, impN]
    repeat' first | exact ck | with_reducible apply And.intro | intro _
    all_goals first | exact hc1 | (rename_i h; first | exact oI h | exact nah h) | (rename_i _ h _ g; exact sL h g) | decide | omega | (refine ret_with [] ?_; simp only [↓eB, seval, go_sem, bne, yr_truths, hR])
theorem yh_truths : ∀ p : (List Bool × (List Bool × Unit)), okV ((fun p : (List Bool × (List Bool × Unit)) => yr_truths p.1 p.2.1) p) = true := by intro p; rfl
noncomputable def yp_truths {X : Ctx} {w0 : World} : Sy.Spec Try.prog X w0 := specR 23 Try.call23 (ahS (cSl rBl) (ahS (cSl rBl) ah0)) (fun p : (List Bool × (List Bool × Unit)) => yc_truths p.1 p.2.1) (fun p : (List Bool × (List Bool × Unit)) => yr_truths p.1 p.2.1) yh_truths y_truths
/-- a list of numbers in a cell: no address where it is empty -/
def prE : List Int → D
  | [] => dL0
  | x :: l => .sl zID ((x :: l).map inD)
def prD (l : List Int) : List D := [prE l]
def zPp : List D := [dL0]
theorem prE_inj : ∀ {a b : List Int}, prE a = prE b → a = b
  | [], [], _ => rfl
  | [], _ :: _, h => by simp [prE] at h
  | _ :: _, [], h => by simp [prE] at h
  | a :: l, b :: m, h => by
    simp only [prE, D.sl.injEq, true_and] at h
    exact map_inj inD_inj h
theorem pr_inj (a b : List Int) (h : prD a = prD b) : a = b := by
  simp only [prD, List.cons.injEq, and_true] at h
  exact prE_inj h
noncomputable def rPp : RowC (List Int) := rowOf zPp prD pr_inj fun _ => rfl
theorem rPp_e : rPp.e = prD := rfl
theorem rPp_z : rPp.z = zPp := rfl
theorem zPp_ln : zPp.length = 1 := rfl
theorem decL_pr (l : List (List Int)) : decL rPp.d (l.map prD) = some l := decL_map rPp l
theorem pr_at {l : List (List Int)} {i : Nat} {x : List Int} (h : l[i]? = some x) (z : List D) : (l.map prD).getD i z = [prE x] := by simp [List.getD, h, prD]
theorem prE_or (x : List Int) : (prE x = dL0 ∧ x = []) ∨ prE x = .sl zID (x.map inD) := by cases x <;> simp [prE]
abbrev yc_predsB (a : List (List Int)) (b : List (List Int)) : Prop := (a.length ≤ 4294967296 ∧ b.length ≤ 4294967296) ∧ ∀ l, (l ∈ a ∨ l ∈ b) → l.length ≤ 4294967296
abbrev yr_predsB (a : List (List Int)) (b : List (List Int)) : Value := Value.bool (a == b)
set_option maxRecDepth 20000 in set_option maxHeartbeats 4000000 in
theorem y_predsB : CallsR Try.prog 20 (ahS (cSl rPp) (ahS (cSl rPp) ah0)) (fun p : (List (List Int) × (List (List Int) × Unit)) => yc_predsB p.1 p.2.1) (fun p : (List (List Int) × (List (List Int) × Unit)) => ofV (yr_predsB p.1 p.2.1)) := by
  rintro ⟨a, b, _u⟩ w fz xs hc hfz hl hx
  refine calls_toRL Try.func20 rfl w fz [yp_Ints] [] (ahS (cSl rPp) (ahS (cSl rPp) ah0)) (fun p : (List (List Int) × (List (List Int) × Unit)) => ofV (yr_predsB p.1 p.2.1)) _ xs hfz hl hx (Nat.le_of_ble_eq_true rfl) ?_
  clear hx hl hfz xs
  simp only [Try.f20]
  obtain ⟨⟨hc1, hc2⟩, hc3⟩ := hc
  dsimp only at hc1 hc2 hc3
  by_cases hl : a.length = b.length
  · have e0 : ((a.length : Int) != (b.length : Int)) = false := by simp [hl]
    simp only [↓eB, seval, go_sem, rPp_e, rPp_z, zPp_ln, decL_pr, cSl, ↓oD_stor, ↓oD_names, ↓oD_noVw, ↓oD_flat, ↓oD_mv, ↓oD_ldc, yp_Ints, e0]
    refine loop_ok (Y := Nat) (fun i => i ≤ a.length ∧ (a.drop i == b.drop i) = (a == b))
      (fun i => ⟨[(0, true, .one (.d (.sl zPp (a.map prD)))), (1, true, .one (.d (.sl zPp (b.map prD)))), (5, true, .one (.v (.int .i64 (i : Int))))], []⟩)
      (fun i => a.length - i) 0 ⟨Nat.zero_le _, rfl⟩ ?_ ?_
    · refine to_with [] ?_; simp only [↓eB, seval, go_sem, zPp]
    · rintro i ⟨hi, hJ⟩
      refine vc_ok [yp_Ints] [] _ _ _ ?_
      cases hx : a[i]? with
      | none =>
        have hi2 : a.length ≤ i := List.getElem?_eq_none_iff.1 hx
        have h1 := natI_ge hi2
        rw [List.drop_eq_nil_of_le hi2, List.drop_eq_nil_of_le (by omega)] at hJ
        have hR : (a == b) = true := hJ.symm
        simp only [↓eB, seval, go_sem, rPp_e, rPp_z, zPp_ln, decL_pr, cSl, ↓oD_stor, ↓oD_names, ↓oD_noVw, ↓oD_flat, ↓oD_mv, ↓oD_ldc, yp_Ints, h1]
        refine ret_with [] ?_; simp only [↓eB, seval, go_sem, bne, yr_predsB, hR]
      | some x =>
        have hlt : i < a.length := (List.getElem?_eq_some_iff.1 hx).1
        have hlb : i < b.length := by omega
        obtain ⟨y, hy⟩ : ∃ y, b[i]? = some y := ⟨_, List.getElem?_eq_getElem hlb⟩
        have h1 := natI_lt hlt
        have h2 := natI_ltp hlt
        have h2' := natI_ltp hlb
        have h3 := pr_at hx
        have h3' := pr_at hy
        have h4 := natI_succ hi hc1
        rw [beq_drop hx hy] at hJ
        have g1 : yc_Ints x y := ⟨hc3 x (.inl (List.mem_of_getElem? hx)), hc3 y (.inr (List.mem_of_getElem? hy))⟩
        rcases prE_or x with ⟨ex, rfl⟩ | ex <;> rcases prE_or y with ⟨ey, rfl⟩ | ey
        · cases hxy : (([] : List Int) == []) with
          | true =>
            rw [hxy] at hJ
            simp only [Bool.true_and] at hJ
            simp only [↓eB, seval, go_sem, rPp_e, rPp_z, zPp_ln, decL_pr, cSl, ↓oD_stor, ↓oD_names, ↓oD_noVw, ↓oD_flat, ↓oD_mv, ↓oD_ldc, yp_Ints, rIn_d, rIn_e, rIn_z, zID_ln, decL_in, h1, h2, h2', h3, h3', h4, ex, ey, hxy]
            try simp only [impB, impN]
            repeat' first | exact ck | with_reducible apply And.intro | intro _
            all_goals try first | exact hlt | exact hlb | exact g1 | (rename_i h; first | exact oI h | exact nah h) | (rename_i _ h _ g; exact sL h g) | decide | omega
            refine ⟨i + 1, ⟨hlt, hJ⟩, by omega, to_with [] ?_⟩
            simp only [↓eB, seval, go_sem, zPp]
          | false =>
            rw [hxy] at hJ
            simp only [Bool.false_and] at hJ
            have hR : (a == b) = false := hJ.symm
            simp only [↓eB, seval, go_sem, rPp_e, rPp_z, zPp_ln, decL_pr, cSl, ↓oD_stor, ↓oD_names, ↓oD_noVw, ↓oD_flat, ↓oD_mv, ↓oD_ldc, yp_Ints, rIn_d, rIn_e, rIn_z, zID_ln, decL_in, h1, h2, h2', h3, h3', h4, ex, ey, hxy]
            try simp only [impB, impN]
            repeat' first | exact ck | with_reducible apply And.intro | intro _
            all_goals first | exact hlt | exact hlb | exact g1 | (rename_i h; first | exact oI h | exact nah h) | (rename_i _ h _ g; exact sL h g) | decide | omega | (refine ret_with [] ?_; simp only [↓eB, seval, go_sem, bne, yr_predsB, hR])
        · cases hxy : (([] : List Int) == y) with
          | true =>
            rw [hxy] at hJ
            simp only [Bool.true_and] at hJ
            simp only [↓eB, seval, go_sem, rPp_e, rPp_z, zPp_ln, decL_pr, cSl, ↓oD_stor, ↓oD_names, ↓oD_noVw, ↓oD_flat, ↓oD_mv, ↓oD_ldc, yp_Ints, rIn_d, rIn_e, rIn_z, zID_ln, decL_in, h1, h2, h2', h3, h3', h4, ex, ey, hxy]
            try simp only [impB, impN]
            repeat' first | exact ck | with_reducible apply And.intro | intro _
            all_goals try first | exact hlt | exact hlb | exact g1 | (rename_i h; first | exact oI h | exact nah h) | (rename_i _ h _ g; exact sL h g) | decide | omega
            refine ⟨i + 1, ⟨hlt, hJ⟩, by omega, to_with [] ?_⟩
            simp only [↓eB, seval, go_sem, zPp]
          | false =>
            rw [hxy] at hJ
            simp only [Bool.false_and] at hJ
            have hR : (a == b) = false := hJ.symm
            simp only [↓eB, seval, go_sem, rPp_e, rPp_z, zPp_ln, decL_pr, cSl, ↓oD_stor, ↓oD_names, ↓oD_noVw, ↓oD_flat, ↓oD_mv, ↓oD_ldc, yp_Ints, rIn_d, rIn_e, rIn_z, zID_ln, decL_in, h1, h2, h2', h3, h3', h4, ex, ey, hxy]
            try simp only [impB, impN]
            repeat' first | exact ck | with_reducible apply And.intro | intro _
            all_goals first | exact hlt | exact hlb | exact g1 | (rename_i h; first | exact oI h | exact nah h) | (rename_i _ h _ g; exact sL h g) | decide | omega | (refine ret_with [] ?_; simp only [↓eB, seval, go_sem, bne, yr_predsB, hR])
        · cases hxy : ((x : List Int) == []) with
          | true =>
            rw [hxy] at hJ
            simp only [Bool.true_and] at hJ
            simp only [↓eB, seval, go_sem, rPp_e, rPp_z, zPp_ln, decL_pr, cSl, ↓oD_stor, ↓oD_names, ↓oD_noVw, ↓oD_flat, ↓oD_mv, ↓oD_ldc, yp_Ints, rIn_d, rIn_e, rIn_z, zID_ln, decL_in, h1, h2, h2', h3, h3', h4, ex, ey, hxy]
            try simp only [impB, impN]
            repeat' first | exact ck | with_reducible apply And.intro | intro _
            all_goals try first | exact hlt | exact hlb | exact g1 | (rename_i h; first | exact oI h | exact nah h) | (rename_i _ h _ g; exact sL h g) | decide | omega
            refine ⟨i + 1, ⟨hlt, hJ⟩, by omega, to_with [] ?_⟩
            simp only [↓eB, seval, go_sem, zPp]
          | false =>
            rw [hxy] at hJ
            simp only [Bool.false_and] at hJ
            have hR : (a == b) = false := hJ.symm
            simp only [↓eB, seval, go_sem, rPp_e, rPp_z, zPp_ln, decL_pr, cSl, ↓oD_stor, ↓oD_names, ↓oD_noVw, ↓oD_flat, ↓oD_mv, ↓oD_ldc, yp_Ints, rIn_d, rIn_e, rIn_z, zID_ln, decL_in, h1, h2, h2', h3, h3', h4, ex, ey, hxy]
            try simp only [impB, impN]
            repeat' first | exact ck | with_reducible apply And.intro | intro _
            all_goals first | exact hlt | exact hlb | exact g1 | (rename_i h; first | exact oI h | exact nah h) | (rename_i _ h _ g; exact sL h g) | decide | omega | (refine ret_with [] ?_; simp only [↓eB, seval, go_sem, bne, yr_predsB, hR])
        · cases hxy : ((x : List Int) == y) with
          | true =>
            rw [hxy] at hJ
            simp only [Bool.true_and] at hJ
            simp only [↓eB, seval, go_sem, rPp_e, rPp_z, zPp_ln, decL_pr, cSl, ↓oD_stor, ↓oD_names, ↓oD_noVw, ↓oD_flat, ↓oD_mv, ↓oD_ldc, yp_Ints, rIn_d, rIn_e, rIn_z, zID_ln, decL_in, h1, h2, h2', h3, h3', h4, ex, ey, hxy]
            try simp only [impB, impN]
            repeat' first | exact ck | with_reducible apply And.intro | intro _
            all_goals try first | exact hlt | exact hlb | exact g1 | (rename_i h; first | exact oI h | exact nah h) | (rename_i _ h _ g; exact sL h g) | decide | omega
            refine ⟨i + 1, ⟨hlt, hJ⟩, by omega, to_with [] ?_⟩
            simp only [↓eB, seval, go_sem, zPp]
          | false =>
            rw [hxy] at hJ
            simp only [Bool.false_and] at hJ
            have hR : (a == b) = false := hJ.symm
            simp only [↓eB, seval, go_sem, rPp_e, rPp_z, zPp_ln, decL_pr, cSl, ↓oD_stor, ↓oD_names, ↓oD_noVw, ↓oD_flat, ↓oD_mv, ↓oD_ldc, yp_Ints, rIn_d, rIn_e, rIn_z, zID_ln, decL_in, h1, h2, h2', h3, h3', h4, ex, ey, hxy]
            try simp only [impB, impN]
            repeat' first | exact ck | with_reducible apply And.intro | intro _
            all_goals first | exact hlt | exact hlb | exact g1 | (rename_i h; first | exact oI h | exact nah h) | (rename_i _ h _ g; exact sL h g) | decide | omega | (refine ret_with [] ?_; simp only [↓eB, seval, go_sem, bne, yr_predsB, hR])
  · have e0 : ((a.length : Int) != (b.length : Int)) = true := by simp; omega
    have hR := beq_len hl
    simp only [↓eB, seval, go_sem, rPp_e, rPp_z, zPp_ln, decL_pr, cSl, ↓oD_stor, ↓oD_names, ↓oD_noVw, ↓oD_flat, ↓oD_mv, ↓oD_ldc, yp_Ints, e0]
    try simp only [impB, impN]
    repeat' first | exact ck | with_reducible apply And.intro | intro _
    all_goals first | exact hc1 | (rename_i h; first | exact oI h | exact nah h) | (rename_i _ h _ g; exact sL h g) | decide | omega | (refine ret_with [] ?_; simp only [↓eB, seval, go_sem, bne, yr_predsB, hR])
theorem yh_predsB : ∀ p : (List (List Int) × (List (List Int) × Unit)), okV ((fun p : (List (List Int) × (List (List Int) × Unit)) => yr_predsB p.1 p.2.1) p) = true := by intro p; rfl
noncomputable def yp_predsB {X : Ctx} {w0 : World} : Sy.Spec Try.prog X w0 := specR 20 Try.call20 (ahS (cSl rPp) (ahS (cSl rPp) ah0)) (fun p : (List (List Int) × (List (List Int) × Unit)) => yc_predsB p.1 p.2.1) (fun p : (List (List Int) × (List (List Int) × Unit)) => yr_predsB p.1 p.2.1) yh_predsB y_predsB
end Go.Proofs.Ytiipmaoonnjlpaa
