/- From a walk that returns true and leaves what was there to the row's statement; arguments opened. No conditions but those in each statement. -/
import Derived.Test.YtiipmaoonnjlpaaGr5
import Derived.Test.YtiipmaoonnjlpaaGr1
import Derived.Lib.SmallJoins
import Derived.Carry
import Derived.Test.YtiipmaoonnjlpaaMk5
import Derived.Test.YtiipmaoonnjlpaaLq6
import Derived.Test.YtiipmaoonnjlpaaLq8
import Derived.Test.YtiipmaoonnjlpaaGr2
import Derived.Test.YtiipmaoonnjlpaaGr4
set_option linter.unusedVariables false
set_option linter.unusedSimpArgs false
namespace Go.Proofs.Ytiipmaoonnjlpaa
open Go Go.Sy Go.RowKit Go.ChangeShapes Go.WideShapes Go.ChangeAt
theorem ownK : ownKnob Try.prog.godebug = none := by kernel_rfl
theorem laidK : laidOutB Try.prog = true := by kernel_rfl
theorem trodAll_below {H : Type} {enc : TypeId × Value → H} {P : Program} (hl : laidOutB P = true) {W W' : World} (hb : Below W.heap.size W W') : ∀ (ts : List TypeId) (vs : List Value) (ds : List (DataW H)) (ps : List MemPlace),
    (∀ t ∈ ts, P.readableRec t = true ∧ t < P.types.size) → DataW.TrodAll enc P W 0 (fun _ => true) true ts vs ds ps → (∀ x ∈ ps, x.block < W.heap.size) → DataW.TrodAll enc P W' 0 (fun b => decide (b < W.heap.size)) true ts vs ds ps
  | [], vs, ds, ps, _, h, _ => by
    obtain ⟨rfl, rfl, rfl⟩ := trodAll_nil h
    exact trodAll_mk0
  | t :: ts, vs, ds, ps, hts, h, hlt => by
    obtain ⟨v, vs', d, ds', p, q, rfl, rfl, rfl, h1, h2⟩ := trodAll_cons h
    have ht := hts t (List.mem_cons_self ..)
    exact trodAll_cons_mk (Below.trod hl ht.1 ht.2 h1 hb fun x hx => hlt x (List.mem_append_left _ hx))
      (trodAll_below hl hb ts vs' ds' q (fun t' ht' => hts t' (List.mem_cons_of_mem _ ht')) h2 fun x hx => hlt x (List.mem_append_right _ hx))
theorem law_post {H : Type} {enc : TypeId × Value → H} {f : Func} {s : ChangeSpec} {W W' : World} {args : Array Value} {ds gs : List (DataW H)} {before : List MemPlace} (hW : DataW.Whole enc Try.prog f.params.toList s.vars false W args.toList ds gs before)
    (hv : s.vars = []) (hr : f.resultTypes = #[4]) (hts : ∀ t ∈ f.params.toList, Try.prog.readableRec t = true ∧ t < Try.prog.types.size)
    (hf : gs = [] → (s.fn H (ds ++ gs)).results = [.lit (.bool true)] ∧ (s.fn H (ds ++ gs)).args = ds ∧ (s.fn H (ds ++ gs)).vars = []) (hb : Below W.heap.size W W') :
    s.post enc Try.prog f false true false false W args (.bool true) W' := by
  have hlt := hW.lt
  have hW0 := hW
  obtain ⟨p, q, hA, hV, rfl, _, _⟩ := hW
  rw [hv] at hV
  obtain ⟨rfl, rfl⟩ := trodVars_none hV
  obtain ⟨f1, f2, f3⟩ := hf rfl
  refine ⟨ds, [], p ++ [], [], p, [], hW0, ?_, ?_, ?_, hb.frame _, fun h => by cases h⟩
  · rw [f1, hr]
    exact trodAll_cons_mk (shut_bool Try.underlying4 true) trodAll_mk0
  · rw [f2]
    exact trodAll_below laidK hb _ _ _ _ hts hA fun x hx => by simpa using hlt x (List.mem_append_left _ hx)
  · rw [f3, hv]; rfl
theorem to_plainR {P : Program} {f : FuncId} {A : Type} {ac : ArgH A} {Cd : A → Prop} {F : A → SV} (h : CallsR P f ac Cd F) (a : A) (w : World) (hc : Cd a) (vals : List Value) (val : Value) (hl : vals.length = (ac.e a).length)
    (h1 : ∀ (j : Nat) (v : SV) (x : Value), (ac.e a)[j]? = some v → vals[j]? = some x → CD (hp w) (fun b => b < w.heap.size) v x)
    (h2 : clos (F a) = some val) : Calls P f vals.toArray w (fun e w' => e = .returned val ∧ Below w.heap.size w w') := by
  refine (h a w (fun b => b < w.heap.size) vals hc (fun _ h => h) hl h1).mono ?_
  rintro e w' ⟨v, x, fz', rfl, rfl, g1, g2, g3, g4, g5, g6⟩
  rw [sd_clos g5 h2]
  exact ⟨rfl, g6⟩
/- bytes, as they come in -/
def byD' (n : Int) : List D := [.v (.int .u8 n)]
def zBy' : List D := [.v (.int .u8 0)]
section
variable {H : Type} {enc : TypeId × Value → H} {W : World} {base : Nat} {v : Value} {d : DataW H} {p : List MemPlace}
theorem wf_i64' {n : Int} (h : (Lit.int .i64 n).wf = true) : -9223372036854775808 ≤ n ∧ n ≤ 9223372036854775807 := by
  have := bounds_i64 h; omega
theorem wf_u8' {n : Int} (h : (Lit.int .u8 n).wf = true) : 0 ≤ n ∧ n ≤ 255 := by
  have := bounds_u8 h; omega
theorem opn_bytes : Opn enc Try.prog W 22 (fun l : List Int => [.sl zBy' (l.map byD')]) (fun l => l.length ≤ maxLen ∧ ∀ x ∈ l, 0 ≤ x ∧ x < 256) := by
  intro fuel
  cases fuel with
  | zero => exact opnF_zero
  | succ n => exact opnF_map id _ _ (opnF_slice Try.underlying22 zBy' (by kernel_rfl) (by decide) (opnF_int Try.underlying5)) (fun _ => rfl) (fun _ h => ⟨h.1, fun x hx => by have := wf_u8' (h.2 x hx); omega⟩)
set_option maxRecDepth 100000 in
theorem open_bytes (hv : Value.okWide Try.prog W .any base 22 v) (h : DataW.Trod enc Try.prog W 0 (fun _ => true) true 22 v d p) :
    ∃ a : List Int, (a.length ≤ maxLen ∧ ∀ x ∈ a, 0 ≤ x ∧ x < 256) ∧ CD (hp W) (fun b => b < W.heap.size) (.one (.d (.sl zBy' (a.map byD')))) v :=
  open_one (r := .any) (base := base) (f := fun l : List Int => .sl zBy' (l.map byD')) (okWide_sl Try.underlying22 hv) h opn_bytes
end
end Go.Proofs.Ytiipmaoonnjlpaa
set_option linter.unusedVariables false
set_option linter.unusedSimpArgs false
namespace Go.Proofs.Ytiipmaoonnjlpaa
open Go Go.Sy Go.RowKit
theorem cBy_d' (l : List Int) : cBy.d (.one (.d (.sl zBy (l.map byD)))) = some l := cBy_d l
theorem zBy_ln : zBy.length = 1 := rfl
noncomputable def rBy : RowC Int := rowOf zBy byD by_inj fun _ => rfl
theorem rBy_e : rBy.e = byD := rfl
theorem rBy_z : rBy.z = zBy := rfl
theorem decL_by (l : List Int) : decL rBy.d (l.map byD) = some l := decL_map rBy l
def plF (k : Int) : Int := if decide (k.tmod 4 < 0) = true then w64i (k.tmod 4 + 4) else k.tmod 4
theorem tmodk (k : Int) : -4 < k.tmod 4 ∧ k.tmod 4 < 4 := by
  refine ⟨?_, Int.tmod_lt_of_pos k (by decide)⟩
  have := Int.tmod_lt_of_pos (-k) (b := 4) (by decide)
  rw [Int.neg_tmod] at this
  omega
theorem plF_in (k : Int) : 0 ≤ plF k ∧ plF k < 4 := by
  have := tmodk k
  unfold plF
  split
  · rename_i h
    have h := of_decide_eq_true h
    unfold w64i; rw [wrap_i64 (by omega) (by omega)]; omega
  · rename_i h
    simp only [decide_eq_true_eq] at h
    omega
abbrev yc_Place (k : Int) (n : Int) : Prop := n = 4
abbrev yr_Place (k : Int) (n : Int) : SV := SV.one (.v (.int .i64 (plF k)))
set_option maxRecDepth 20000 in set_option maxHeartbeats 4000000 in
theorem y_Place : CallsY Try.prog 13 (acS (cInt .i64) (acS (cInt .i64) ac0)) (fun p : (Int × (Int × Unit)) => yc_Place p.1 p.2.1) (fun p : (Int × (Int × Unit)) => yr_Place p.1 p.2.1) := by
  rintro ⟨k, n, _u⟩ w fz xs hc hfz hl hx
  refine calls_toL Try.func13 rfl w fz [] [] (acS (cInt .i64) (acS (cInt .i64) ac0)) (fun p : (Int × (Int × Unit)) => yr_Place p.1 p.2.1) _ xs hfz hl hx (Nat.le_of_ble_eq_true rfl) ?_
  clear hx hl hfz xs
  simp only [Try.f13]
  have hc : n = 4 := hc
  subst hc
  have h1 := tmodk k
  cases h2 : decide (k.tmod 4 < 0) with
  | true =>
    have hr : plF k = w64i (k.tmod 4 + 4) := by unfold plF; rw [if_pos h2]
    simp only [↓eB, seval, go_sem, h2]
    try simp only [impB, impN]
    repeat' first | exact ck | with_reducible apply And.intro | intro _
    all_goals first | exact h1 | (rename_i h; first | exact oI h | exact nah h) | (rename_i _ h _ g; exact sL h g) | decide | omega | (refine ret_with [] ?_; simp only [↓eB, seval, go_sem, bne, yr_Place, hr])
  | false =>
    have hr : plF k = k.tmod 4 := by unfold plF; rw [if_neg (by rw [h2]; decide)]
    simp only [↓eB, seval, go_sem, h2]
    try simp only [impB, impN]
    repeat' first | exact ck | with_reducible apply And.intro | intro _
    all_goals first | exact h1 | (rename_i h; first | exact oI h | exact nah h) | (rename_i _ h _ g; exact sL h g) | decide | omega | (refine ret_with [] ?_; simp only [↓eB, seval, go_sem, bne, yr_Place, hr])
theorem yn_Place : ∀ p : (Int × (Int × Unit)), ((fun p : (Int × (Int × Unit)) => yr_Place p.1 p.2.1) p).names = [] := by intro p; first | rfl | simp [SV.names, C.names]
noncomputable def yp_Place {X : Ctx} {w0 : World} : Sy.Spec Try.prog X w0 := specD 13 Try.call13 (acS (cInt .i64) (acS (cInt .i64) ac0)) (fun p : (Int × (Int × Unit)) => yc_Place p.1 p.2.1) (fun p : (Int × (Int × Unit)) => yr_Place p.1 p.2.1) yn_Place y_Place
end Go.Proofs.Ytiipmaoonnjlpaa
set_option linter.unusedVariables false
set_option linter.unusedSimpArgs false
namespace Go.Proofs.Ytiipmaoonnjlpaa
open Go Go.Sy Go.RowKit
theorem cGr_nd (l : List Nd) : cGr.d (.agg [.d (.sl zND (l.map Nd.r))]) = some (l.map Nd.g) := by rw [nd_g]; exact cGr_d _
abbrev yc_FlowLowers (k : Int) (b : List Int) : Prop := (-9223372036854775808 ≤ k ∧ k ≤ 9223372036854775807) ∧ b.length ≤ maxLen ∧ ∀ x ∈ b, 0 ≤ x ∧ x < 256
abbrev yr_FlowLowers (k : Int) (b : List Int) : Value := Value.bool true
set_option maxRecDepth 20000 in set_option maxHeartbeats 16000000 in
theorem y_FlowLowers : CallsR Try.prog 5 (ahS ((cInt .i64).H) (ahS (cSl rBy) ah0)) (fun p : (Int × (List Int × Unit)) => yc_FlowLowers p.1 p.2.1) (fun p : (Int × (List Int × Unit)) => ofV (yr_FlowLowers p.1 p.2.1)) := by
  rintro ⟨k, b, _u⟩ w fz xs hc hfz hl hx
  refine calls_triRL Try.func5 rfl w fz (ahS ((cInt .i64).H) (ahS (cSl rBy) ah0)) (fun p : (Int × (List Int × Unit)) => ofV (yr_FlowLowers p.1 p.2.1)) _ xs hfz hl hx (Nat.le_of_ble_eq_true rfl) ?_
  clear hx hl hfz xs
  simp only [Try.f5]
  obtain ⟨_, _, hby⟩ := hc
  dsimp only at hby
  have p0 := plF_in k
  obtain ⟨md, hmd⟩ : ∃ md, dpM (txT (plF k) b) = md := ⟨_, rfl⟩
  obtain ⟨n1, m1, hst⟩ := low_st (plF k) b
  obtain ⟨hd, hsz, hns, c, hal⟩ := fnA_al (plF k) b
  rw [hmd] at hst hd hsz
  have hsm := low_small hd hsz
  have htw := low_two hd
  have hqe := qF_eq hd
  have hd2 : szB md (fnA (plF k) b).body ≤ 10000000 := by omega
  obtain ⟨F, hF⟩ : ∃ F, fnA (plF k) b = F := ⟨_, rfl⟩
  rw [hF] at hd hd2 hst hsm htw hqe
  obtain ⟨L, hL⟩ : ∃ L, lowF md F.body = L := ⟨_, rfl⟩
  rw [hL] at hst hsm htw hqe
  obtain ⟨G, hG⟩ : ∃ G, L.map Nd.g = G := ⟨_, rfl⟩
  have hGl : G.length = L.length := by rw [← hG]; simp
  have hG2 : ∀ x ∈ G, x.nx.length ≤ 2 := fun x hx => by
    rw [← hG] at hx
    obtain ⟨y, hy, rfl⟩ := List.mem_map.1 hx
    exact htw y hy
  have k0 : G.length ≤ 1000000 := by rw [hGl]; omega
  have k1 : okG G := ⟨k0, fun x hx => by have := hG2 x hx; omega⟩
  have k2 : yc_eqG n1 m1 L L := ⟨rfl, by omega, fun x hx => ⟨by have := htw x hx; omega, (hst x hx).1, (hst x hx).2.1, (hst x hx).2.2⟩⟩
  have k3 : (prF G).length ≤ 4294967296 := by rw [prF_len]; omega
  have k4 : ∀ q, (q ∈ prF G ∨ q ∈ prF G) → q.length ≤ 4294967296 := fun q hq => by
    have h := prF_row hG2 q (by rcases hq with h | h <;> exact h)
    omega
  have k5 : (rcF G).length ≤ 4294967296 := by rw [rcF_len]; omega
  have k6 : (hdF 0 G).length ≤ 4294967296 := by have := hdF_len 0 G; omega
  have g2 : (0 : Int) ≤ plF k := p0.1
  refine vc_ok [yp_known, yp_Place, yp_FnA, yg_lower md (y_lower md), yg_rLower md (y_rLower md), yg_eqG n1 m1 (y_eqG n1 m1), yp_Heads, yp_rHeads, yp_Ints, yp_Preds, yp_rPreds, yp_predsB, yp_Reach, yp_rReach, yp_truths] [] _ _ _ ?_
  cases c1 : decide ((200 : Int) < (b.length : Int)) with
  | true =>
    simp only [↓eB, seval, go_sem, yp_known, yp_Place, yp_FnA, yg_FnA, yg_lower, yg_rLower, yg_eqG, yp_Heads, yp_rHeads, yp_Ints, yp_Preds, yp_rPreds, yp_predsB, yp_Reach, yp_rReach, yp_truths, cNg_e, cNg_d, cGr_e, cGr_nd, rBy_e, rBy_z, zBy_ln, decL_by, rBl_e, rBl_z, zBl_ln, decL_bl, rPp_e, rPp_z, zPp_ln, decL_pr, rIn_e, rIn_z, zID_ln, decL_in, cSl, cFn_e, cFn_d, Fn.c, fn_eta, cBy_e, cBy_d', gB, beq_self_eq_true, ↓oD_stor, ↓oD_names, ↓oD_noVw, ↓oD_flat, ↓oD_mv, ↓oD_ldc, c1]
    try simp only [impB, impN]
    repeat' first | exact ck | with_reducible apply And.intro | intro _
    all_goals first | exact trivial | (rename_i h; first | exact oI h | exact nah h) | (rename_i _ h _ g; exact sL h g) | decide | omega | (refine ret_with [] ?_; simp only [↓eB, seval, go_sem, bne, yr_FlowLowers])
  | false =>
    have hbl := of_decide_eq_false c1
    have g1 : okY b := ⟨by omega, hby⟩
    simp only [↓eB, seval, go_sem, yp_known, yp_Place, yp_FnA, yg_FnA, yg_lower, yg_rLower, yg_eqG, yp_Heads, yp_rHeads, yp_Ints, yp_Preds, yp_rPreds, yp_predsB, yp_Reach, yp_rReach, yp_truths, cNg_e, cNg_d, cGr_e, cGr_nd, rBy_e, rBy_z, zBy_ln, decL_by, rBl_e, rBl_z, zBl_ln, decL_bl, rPp_e, rPp_z, zPp_ln, decL_pr, rIn_e, rIn_z, zID_ln, decL_in, cSl, cFn_e, cFn_d, Fn.c, fn_eta, cBy_e, cBy_d', gB, beq_self_eq_true, ↓oD_stor, ↓oD_names, ↓oD_noVw, ↓oD_flat, ↓oD_mv, ↓oD_ldc, c1, yr_Place, yr_FnA, yr_lower, yr_rLower, yr_eqG, yr_Heads, yr_rHeads, yr_Ints, yr_Preds, yr_rPreds, yr_predsB, yr_Reach, yr_rReach, yr_truths, prB, trB, inB, hF, hL, hqe, hG]
    try simp only [impB, impN]
    repeat' first | exact ck | with_reducible apply And.intro | intro _
    all_goals first | exact g1 | exact g2 | exact hd | exact hd2 | exact k0 | exact k1 | exact k2 | exact k2.1 | exact k2.2.1 | exact k2.2.2 | (rename_i hx; exact (k2.2.2 _ hx).1) | (rename_i hx; exact (k2.2.2 _ hx).2.1) | (rename_i hx; exact (k2.2.2 _ hx).2.2.1) | (rename_i hx; exact (k2.2.2 _ hx).2.2.2) | exact k3 | exact k5 | exact k6 | (rename_i hq; exact k4 _ hq) | (rename_i h; first | exact oI h | exact nah h) | (rename_i _ h _ g; exact sL h g) | decide | omega | (refine ret_with [] ?_; simp only [↓eB, seval, go_sem, bne, yr_FlowLowers])
end Go.Proofs.Ytiipmaoonnjlpaa
