/- IvalNumbers. No conditions but those in each statement. -/
import Derived.Test.YtbkhkbfjfblbjaaDoorIv7
set_option linter.unusedVariables false
set_option linter.unusedSimpArgs false
namespace Go.Proofs.YtbkhkbfjfblbjaaDoor
open Go Go.Sy Go.RowKit

theorem num_facts0 (lo hi n : Int) (h1 : w64 lo) (h2 : w64 hi) (h3 : w64 n) : ∃ (a : Iv) (b1 b2 s : Bool), Of lo hi = a ∧ wIv a ∧ decide (lo ≤ n) = b1 ∧ decide (n ≤ hi) = b2 ∧ decide (lo ≤ hi) = s ∧ a.s = s ∧ hasB a n = (b1 && b2) ∧ leqB ⟨true, n, n⟩ a = (b1 && b2) ∧
    (txI a == [110, 111, 110, 101]) = !s ∧ (txI a == [97, 108, 108]) = (lo == -9223372036854775808 && hi == 9223372036854775807) ∧ (s = false → (a.lo == 0 && a.hi == 0) = true) := by
  refine ⟨Of lo hi, _, _, _, rfl, ?_, rfl, rfl, rfl, ?_⟩
  · unfold Of
    split
    · exact ⟨⟨by decide, by decide⟩, by decide, by decide⟩
    · exact ⟨h1, h2⟩
  by_cases h : hi < lo
  · have e : Of lo hi = noIv := by unfold Of; rw [if_pos (by simpa using h)]
    rw [e]
    have k1 : decide (lo ≤ hi) = false := by simp; omega
    have k2 : (decide (lo ≤ n) && decide (n ≤ hi)) = false := by
      rw [← Bool.not_eq_true]; simp only [Bool.and_eq_true, decide_eq_true_eq]; omega
    have k3 : (lo == -9223372036854775808 && hi == 9223372036854775807) = false := by
      rw [← Bool.not_eq_true]; simp only [Bool.and_eq_true, beq_iff_eq]; omega
    rw [k1, k2, k3]
    exact ⟨rfl, rfl, by unfold leqB emptyB; simp, rfl, rfl, fun _ => rfl⟩
  · have e : Of lo hi = ⟨true, lo, hi⟩ := by unfold Of; rw [if_neg (by simpa using h)]
    rw [e]
    have k1 : decide (lo ≤ hi) = true := by simp; omega
    have k0 : emptyB ⟨true, lo, hi⟩ = false := by unfold emptyB; simp; omega
    have kn : emptyB ⟨true, n, n⟩ = false := by unfold emptyB; simp
    have kt : emptyB topIv = false := rfl
    rw [k1]
    refine ⟨rfl, ?_, ?_, ?_, ?_, fun h => by cases h⟩
    · unfold hasB; rw [k0]; rfl
    · unfold leqB; rw [kn, k0]; simp
    all_goals
      unfold txI
      rw [k0, if_neg (by decide)]
      have kl : leqB topIv ⟨true, lo, hi⟩ = (lo == -9223372036854775808 && hi == 9223372036854775807) := by
        unfold leqB
        rw [kt, k0, if_neg (by decide), Bool.eq_iff_iff]
        simp only [Bool.not_false, Bool.true_and, Bool.and_eq_true, decide_eq_true_eq, beq_iff_eq]
        obtain ⟨a1, a2⟩ := h1
        obtain ⟨a3, a4⟩ := h2
        omega
      rw [kl]
      cases (lo == -9223372036854775808 && hi == 9223372036854775807) <;> rfl
theorem num_facts (lo hi n : Int) (h1 : w64 lo) (h2 : w64 hi) (h3 : w64 n) : ∃ (x y : Int) (b1 b2 s : Bool), Of lo hi = ⟨s, x, y⟩ ∧ wIv ⟨s, x, y⟩ ∧ decide (lo ≤ n) = b1 ∧ decide (n ≤ hi) = b2 ∧ decide (lo ≤ hi) = s ∧ hasB ⟨s, x, y⟩ n = (b1 && b2) ∧ leqB ⟨true, n, n⟩ ⟨s, x, y⟩ = (b1 && b2) ∧
    (txI ⟨s, x, y⟩ == [110, 111, 110, 101]) = !s ∧ (txI ⟨s, x, y⟩ == [97, 108, 108]) = (lo == -9223372036854775808 && hi == 9223372036854775807) ∧ (s = false → (x == 0 && y == 0) = true) := by
  obtain ⟨a, b1, b2, s, e1, e2, e3, e4, e5, e6, e7, e8, e9, e10, e11⟩ := num_facts0 lo hi n h1 h2 h3
  obtain ⟨s', x, y⟩ := a
  have e6 : s' = s := e6
  subst e6
  exact ⟨x, y, b1, b2, s', e1, e2, e3, e4, e5, e7, e8, e9, e10, e11⟩
theorem has_top {n : Int} (h : w64 n) : hasB ⟨true, -9223372036854775808, 9223372036854775807⟩ n = true := by
  unfold hasB emptyB
  obtain ⟨h1, h2⟩ := h
  simp [h1, h2]
theorem has_no (n : Int) : hasB ⟨false, 0, 0⟩ n = false := rfl
theorem Of_self (n : Int) : Of n n = ⟨true, n, n⟩ := by unfold Of; rw [if_neg (by simp)]
theorem has_self (n : Int) : hasB ⟨true, n, n⟩ n = true := by unfold hasB emptyB; simp
theorem nums_pre {lo hi n : Int} (hc : w64 lo ∧ w64 hi ∧ w64 n) : hasB ⟨true, -9223372036854775808, 9223372036854775807⟩ n = true := has_top hc.2.2
abbrev yc_IvalNumbers (lo : Int) (hi : Int) (n : Int) : Prop := w64 lo ∧ w64 hi ∧ w64 n
abbrev yr_IvalNumbers (lo : Int) (hi : Int) (n : Int) : SV := SV.one (.v (.bool true))
set_option maxRecDepth 20000 in set_option maxHeartbeats 4000000 in
theorem y_IvalNumbers : CallsG Tryd.prog 4 powT (acS (cInt .i64) (acS (cInt .i64) (acS (cInt .i64) ac0))) (fun p : (Int × (Int × (Int × Unit))) => yc_IvalNumbers p.1 p.2.1 p.2.2.1) (fun p : (Int × (Int × (Int × Unit))) => yr_IvalNumbers p.1 p.2.1 p.2.2.1) := by
  rintro ⟨lo, hi, n, _u⟩ w fz xs hT hc hfz hl hx
  have hG := stays_clX (fz := fz) (T := powT) powT_kept hT
  refine calls_to Tryd.func4 rfl w fz [yp_known hG, yp_Of, yp_Has, yp_Empty, yp_Top, yp_Const, yp_Leq, yp_Text hG] [] (acS (cInt .i64) (acS (cInt .i64) (acS (cInt .i64) ac0))) (fun p : (Int × (Int × (Int × Unit))) => yr_IvalNumbers p.1 p.2.1 p.2.2.1) _ xs hfz hl hx (Nat.le_of_ble_eq_true rfl) ?_
  clear hx hl hfz xs
  simp only [Tryd.f4]
  obtain ⟨hT7, x, y, _ | _, _ | _, _ | _, eOf, wa, c1, c2, c3, c5, c6, c7, c8, c9⟩ := And.intro (nums_pre hc) (num_facts lo hi n hc.1 hc.2.1 hc.2.2)
  all_goals simp only [↓e_nil, ↓e_cons, ↓e_text, ↓e_draw, ↓e_seq, ↓e_block, ↓e_then1, ↓e_then2, ↓e_then3, ↓e_in1, ↓e_in2, ↓e_in3, ↓e_nrmK, ↓e_drawK, ↓e_seqK, ↓e_ret, ↓e_skip, ↓e_label, ↓e_exit, ↓e_cond, ↓e_loop, ↓e_impBt, ↓e_impBf, ↓e_impNt, ↓e_impNf, e_step, e_gh, e_condK, e_retQ1, e_retQ2, e_ex, e_guard0, gh_nil, ghOf, run_nil, runCs,
    argE, opG, guarded, slotOf, dstLt, guardOf, opS, fresh, rV, opMove, opPick, opAlloc, opBox, opBuild, opBuildSlice, opMakeSlice, opLoad, opStore, ptrG, ptrA, opFieldAddr, opField, opIndexAddr, opIndex, boI, opSlice, opExtract, opConvert, opConvB, rowsN, getP, inP, setP, nilC, nilBin, opBin, unV, opUn, okPtr, opNil, lenC, srcR, srcZ, opAppend, opBuiltin, opCall, opCallV, fnSV, okCap, findS, reads, readG, readA, readAG, readO, readOG, fillC, setAll, chop, repl, anyN, ldc, ldV, clC, clL, clos, oD, binV, eqL, eqC, cmpI, arI, strI, rdv, rdg, okV, lkp, St.app, addL, addS, ofV, SV.tupB, SV.cells, C.stor, C.flat, oneV, resAll, resOne, resV, noTup, toP, updH, capN,
    mk_bs, bs_toList, cStr_d, cStr_e, dStr, specM_f, specM_fn, spM_some, am0_d, amD_d, amP_d, amS_d, pairM_some, pairN_some, ptrD, slcD, decM, ndB, updM, bumpC, renV, renC, nmM, chO, memH, memO, am0_a, amD_a, amP_a, amS_a, am0_m, amD_m, amP_m, amS_m, dropTake, take_len, bq_nn, bq_cn, bq_nc, bq_cc, UInt8.reduceToNat, Nat.sub_zero, dec_T, dec_F, specD_f, specD_fn, specG_f, specG_fn, specR_f, specR_fn, spFnH_some, ahS_d, ah0_d, ahS_e, ah0_e, pairF_some, CodH_d, CodH_e, cSl_d, cSl_e, slR, slD, decL, decL_map, toD, toDs, toDss, List.length_map, Int.toNat_natCast, Int.natCast_nonneg, acS_d, ac0_d, acS_e, ac0_e, pairO_some, spFn_some, cIntY_d, cBoolY_d, cIntY_e, cBoolY_e, dInt, dBool, bsel_true, bsel_false,
    Option.map_some, Option.getD_some, Option.getD_none, Option.map_none, Option.bind_some, List.all_cons, List.all_nil, Bool.and_true, Bool.true_and, Bool.and_self, Bool.not_not, true_and, and_true, and_self, ↓reduceIte, Nat.reduceEqDiff, Nat.reduceLT, Nat.reduceAdd, Nat.reduceMul, Nat.reduceMod, Nat.reduceLeDiff, forall_const, true_implies, imp_self, implies_true, List.getElem?_cons_zero, List.getElem?_cons_succ, List.getElem?_toArray, List.length_cons, List.length_nil, List.map_cons, List.map_nil,
    List.set_cons_zero, List.set_cons_succ, List.length_set, List.drop_zero, List.drop_succ_cons, List.take_succ_cons, List.take_zero, List.getD_cons_zero, List.getD_cons_succ, ne_eq, not_false_eq_true, Nat.reduceSub, Nat.le_refl, Int.toNat_zero, Int.reduceLT, Int.reduceLE, Int.reduceToNat, Nat.zero_mul, Nat.zero_add, Nat.add_zero, Nat.one_mul, reduceCtorEq, Bool.false_eq_true, Bool.not_false, Bool.not_true, Bool.or_false, Bool.false_or, Bool.or_true, Bool.true_or, Bool.and_false, Bool.false_and, Bool.not_eq_false', Bool.not_eq_true', Bool.or_self, wrap_i64, wrap_u64, wrap_u8, Int.natCast_zero, Int.natCast_one, Int.cast_ofNat_Int, Int.lt_irrefl, decide_false, decide_true, Nat.lt_irrefl, Int.reduceAdd, Int.reduceSub, Int.reduceMul, Int.reduceNeg, Int.reduceEq, Int.reduceNe, Int.reduceBEq, Int.reduceBNe, Nat.reduceBEq, Nat.lt_add_one, Int.toNat_one, List.take_nil, List.drop_nil, List.flatMap_cons, List.flatMap_nil, List.append_nil, List.nil_append, List.cons_append, List.append_eq, List.any_nil, List.any_cons, List.contains_cons, List.contains_nil, C.names, SV.names, pNames, List.mem_cons, List.not_mem_nil, or_false, forall_eq, forall_eq_or_imp, and_imp, false_implies, List.mem_singleton, not_true_eq_false, if_true, if_false, ya2, ys2, yby2, yz2, yi2, ya3, ys3, yby3, yz3, yi3, ya4, ys4, yby4, yz4, yb4, ya9, ys9, yby9, yz9, yst9, ya22, ys22, yby22, yz22, ye22, ya24, ys24, yby24, yz24, yf24_0, yf24_1, yf24_2, yp24, ya25, ys25, yby25, yz25, yf25_0, yf25_1, yf25_2, yp25, yq25, yp_known, yp_Of, yp_Has, yp_Empty, yp_Top, yp_Const, yp_Leq, yp_Text, yI_d, yI_e, yIv, ydIv, iv_eta, eOf, c1, c2, c3, c5, c6, c7, c8, c9, has_no, Of_self, has_self, hT7, beq_self_eq_true, bne_self_eq_false]
  all_goals
    try simp only [impB, impN]
    repeat' (first | exact chk_ok (by kernel_rfl) | apply And.intro | intro _)
    all_goals first
      | (refine ret_with [] ?_; simp only [↓e_nil, ↓e_cons, ↓e_text, ↓e_draw, ↓e_seq, ↓e_block, ↓e_then1, ↓e_then2, ↓e_then3, ↓e_in1, ↓e_in2, ↓e_in3, ↓e_nrmK, ↓e_drawK, ↓e_seqK, ↓e_ret, ↓e_skip, ↓e_label, ↓e_exit, ↓e_cond, ↓e_loop, ↓e_impBt, ↓e_impBf, ↓e_impNt, ↓e_impNf, e_step, e_gh, e_condK, e_retQ1, e_retQ2, e_ex, e_guard0, gh_nil, ghOf, run_nil, runCs,
      argE, opG, guarded, slotOf, dstLt, guardOf, opS, fresh, rV, opMove, opPick, opAlloc, opBox, opBuild, opBuildSlice, opMakeSlice, opLoad, opStore, ptrG, ptrA, opFieldAddr, opField, opIndexAddr, opIndex, boI, opSlice, opExtract, opConvert, opConvB, rowsN, getP, inP, setP, nilC, nilBin, opBin, unV, opUn, okPtr, opNil, lenC, srcR, srcZ, opAppend, opBuiltin, opCall, opCallV, fnSV, okCap, findS, reads, readG, readA, readAG, readO, readOG, fillC, setAll, chop, repl, anyN, ldc, ldV, clC, clL, clos, oD, binV, eqL, eqC, cmpI, arI, strI, rdv, rdg, okV, lkp, St.app, addL, addS, ofV, SV.tupB, SV.cells, C.stor, C.flat, oneV, resAll, resOne, resV, noTup, toP, updH, capN,
      mk_bs, bs_toList, cStr_d, cStr_e, dStr, specM_f, specM_fn, spM_some, am0_d, amD_d, amP_d, amS_d, pairM_some, pairN_some, ptrD, slcD, decM, ndB, updM, bumpC, renV, renC, nmM, chO, memH, memO, am0_a, amD_a, amP_a, amS_a, am0_m, amD_m, amP_m, amS_m, dropTake, take_len, bq_nn, bq_cn, bq_nc, bq_cc, UInt8.reduceToNat, Nat.sub_zero, dec_T, dec_F, specD_f, specD_fn, specG_f, specG_fn, specR_f, specR_fn, spFnH_some, ahS_d, ah0_d, ahS_e, ah0_e, pairF_some, CodH_d, CodH_e, cSl_d, cSl_e, slR, slD, decL, decL_map, toD, toDs, toDss, List.length_map, Int.toNat_natCast, Int.natCast_nonneg, acS_d, ac0_d, acS_e, ac0_e, pairO_some, spFn_some, cIntY_d, cBoolY_d, cIntY_e, cBoolY_e, dInt, dBool, bsel_true, bsel_false,
      Option.map_some, Option.getD_some, Option.getD_none, Option.map_none, Option.bind_some, List.all_cons, List.all_nil, Bool.and_true, Bool.true_and, Bool.and_self, Bool.not_not, true_and, and_true, and_self, ↓reduceIte, Nat.reduceEqDiff, Nat.reduceLT, Nat.reduceAdd, Nat.reduceMul, Nat.reduceMod, Nat.reduceLeDiff, forall_const, true_implies, imp_self, implies_true, List.getElem?_cons_zero, List.getElem?_cons_succ, List.getElem?_toArray, List.length_cons, List.length_nil, List.map_cons, List.map_nil,
      List.set_cons_zero, List.set_cons_succ, List.length_set, List.drop_zero, List.drop_succ_cons, List.take_succ_cons, List.take_zero, List.getD_cons_zero, List.getD_cons_succ, ne_eq, not_false_eq_true, Nat.reduceSub, Nat.le_refl, Int.toNat_zero, Int.reduceLT, Int.reduceLE, Int.reduceToNat, Nat.zero_mul, Nat.zero_add, Nat.add_zero, Nat.one_mul, reduceCtorEq, Bool.false_eq_true, Bool.not_false, Bool.not_true, Bool.or_false, Bool.false_or, Bool.or_true, Bool.true_or, Bool.and_false, Bool.false_and, Bool.not_eq_false', Bool.not_eq_true', Bool.or_self, wrap_i64, wrap_u64, wrap_u8, Int.natCast_zero, Int.natCast_one, Int.cast_ofNat_Int, Int.lt_irrefl, decide_false, decide_true, Nat.lt_irrefl, Int.reduceAdd, Int.reduceSub, Int.reduceMul, Int.reduceNeg, Int.reduceEq, Int.reduceNe, Int.reduceBEq, Int.reduceBNe, Nat.reduceBEq, Nat.lt_add_one, Int.toNat_one, List.take_nil, List.drop_nil, List.flatMap_cons, List.flatMap_nil, List.append_nil, List.nil_append, List.cons_append, List.append_eq, List.any_nil, List.any_cons, List.contains_cons, List.contains_nil, C.names, SV.names, pNames, List.mem_cons, List.not_mem_nil, or_false, forall_eq, forall_eq_or_imp, and_imp, false_implies, List.mem_singleton, not_true_eq_false, if_true, if_false, ya2, ys2, yby2, yz2, yi2, ya3, ys3, yby3, yz3, yi3, ya4, ys4, yby4, yz4, yb4, ya9, ys9, yby9, yz9, yst9, ya22, ys22, yby22, yz22, ye22, ya24, ys24, yby24, yz24, yf24_0, yf24_1, yf24_2, yp24, ya25, ys25, yby25, yz25, yf25_0, yf25_1, yf25_2, yp25, yq25, e_ret0, e_RES, yr_IvalNumbers]; first | done | (simp only [*, if_true, if_false, Bool.false_eq_true, Bool.true_or, Bool.or_true, Bool.false_or, Bool.or_false, Bool.and_false, Bool.false_and, Bool.true_and, Bool.and_true, Bool.not_true, Bool.not_false, Bool.or_self, Bool.and_self, Int.reduceEq, Int.reduceNeg, Nat.reduceEqDiff, reduceCtorEq, dec_T, dec_F]; done) | (simp_all; done))
      | omega
      | (simp_all; done)
      | (simp_all; omega)
      | trace_state
theorem yn_IvalNumbers : ∀ p : (Int × (Int × (Int × Unit))), ((fun p : (Int × (Int × (Int × Unit))) => yr_IvalNumbers p.1 p.2.1 p.2.2.1) p).names = [] := by intro p; first | rfl | simp [SV.names, C.names]
def yp_IvalNumbers {X : Ctx} {w0 : World} (hG : Stays X w0 powT) : Sy.Spec Tryd.prog X w0 := specG 4 Tryd.call4 powT (acS (cInt .i64) (acS (cInt .i64) (acS (cInt .i64) ac0))) (fun p : (Int × (Int × (Int × Unit))) => yc_IvalNumbers p.1 p.2.1 p.2.2.1) (fun p : (Int × (Int × (Int × Unit))) => yr_IvalNumbers p.1 p.2.1 p.2.2.1) yn_IvalNumbers y_IvalNumbers hG
theorem c_IvalNumbers (lo : Int) (h1 : (Lit.int .i64 lo).wf = true) (hi : Int) (h2 : (Lit.int .i64 hi).wf = true) (n : Int) (h3 : (Lit.int .i64 n).wf = true) (w : World) (ht : powT w) : Calls Tryd.prog 4 #[.int .i64 lo, .int .i64 hi, .int .i64 n] w (fun e w' => e = .returned (.bool true) ∧ Below w.heap.size w w') :=
  to_plainG y_IvalNumbers (lo, hi, n, ()) w ht ⟨wf_i64' h1, wf_i64' h2, wf_i64' h3⟩ [.int .i64 lo, .int .i64 hi, .int .i64 n] (.bool true) rfl (fun j v x h1 h2 => by
    match j with
    | 0 => simp only [List.getElem?_cons_zero, Option.some.injEq, acS_e] at h1 h2; subst h1; subst h2; exact sd_ofV (x := .int .i64 lo) rfl
    | 1 => simp only [List.getElem?_cons_zero, List.getElem?_cons_succ, Option.some.injEq, acS_e] at h1 h2; subst h1; subst h2; exact sd_ofV (x := .int .i64 hi) rfl
    | 2 => simp only [List.getElem?_cons_zero, List.getElem?_cons_succ, Option.some.injEq, acS_e] at h1 h2; subst h1; subst h2; exact sd_ofV (x := .int .i64 n) rfl
    | j + 3 => simp at h2) rfl
end Go.Proofs.YtbkhkbfjfblbjaaDoor
