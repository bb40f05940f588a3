/- IvalJoins, walked. No conditions but those in each statement. -/
import Derived.Test.YtbkhkbfjfblbjaaDoorIv12
set_option linter.unusedVariables false
set_option linter.unusedSimpArgs false
namespace Go.Proofs.YtbkhkbfjfblbjaaDoor
open Go Go.Sy Go.RowKit

/-- the reference's folds are the program's -/
theorem nrm_nm (a : Iv) : nrm a = if emptyB a = true then noIv else a := rfl
theorem nrm_cases (a : Iv) : (emptyB a = true ∧ nrm a = noIv) ∨ (emptyB a = false ∧ a.s = true ∧ a.lo ≤ a.hi ∧ nrm a = a) := by
  rw [nrm_nm]
  cases h : emptyB a with
  | true => exact .inl ⟨rfl, rfl⟩
  | false =>
    unfold emptyB at h
    simp only [Bool.or_eq_false_iff, decide_eq_false_iff_not, Bool.not_eq_false'] at h
    exact .inr ⟨rfl, h.1, by omega, rfl⟩
theorem rOf_Of (lo hi : Int) : rOf lo hi = Of lo hi := by
  unfold rOf nrm Of
  simp
theorem jn_jL : ∀ (l : List Iv) (acc : Iv), jnL acc l = jL acc l
  | [], _ => rfl
  | x :: l, acc => by
    rcases nrm_cases x with ⟨h1, h2⟩ | ⟨h1, h2, h3, h4⟩
    · simp only [jnL, jL, h1, h2, Bool.not_false, if_true, jn_jL l]
    · simp only [jnL, jL, h1, h4, h2, Bool.not_true, Bool.false_eq_true, if_false, rOf_Of, jn_jL l, Of_le h3, Bool.not_eq_true']
      cases acc.s
      · simp only [if_true]
        congr 1
        obtain ⟨s, lo, hi⟩ := x
        simp only at h2
        rw [h2]
      · simp
theorem mt_mL : ∀ (l : List Iv) (acc : Iv), acc.s = true → mtL acc l = mL acc l
  | [], _, _ => rfl
  | x :: l, acc, h => by
    rcases nrm_cases x with ⟨h1, h2⟩ | ⟨h1, h2, h3, h4⟩
    · simp only [mtL, mL, h1, h2, Bool.not_false, Bool.true_or, if_true]
    · simp only [mtL, mL, h1, h4, h2, h, Bool.not_true, Bool.false_eq_true, if_false, rOf_Of, Bool.or_false]
      cases hs : (Of (mx acc.lo x.lo) (mn acc.hi x.hi)).s with
      | true => rw [mt_mL l _ hs]; simp
      | false =>
        have hno : Of (mx acc.lo x.lo) (mn acc.hi x.hi) = noIv := by
          unfold Of at hs ⊢
          split
          · rfl
          · rename_i hn; rw [if_neg hn] at hs; cases hs
        rw [hno]
        cases l with
        | nil => rfl
        | cons y l => simp [mtL]
theorem wd_eq {a b : Iv} (ha : wIv a) : wdI a b = rWd a b := by
  rw [wdI_two ha]
  unfold W2 rWd
  rcases emp_cases a with ⟨h1, h2⟩ | ⟨h1, h2, h3⟩ <;> rcases emp_cases b with ⟨g1, g2⟩ | ⟨g1, g2, g3⟩ <;> rcases nrm_cases a with ⟨p1, p2⟩ | ⟨p1, p2, p3, p4⟩ <;> rcases nrm_cases b with ⟨q1, q2⟩ | ⟨q1, q2, q3, q4⟩ <;> simp_all
  · obtain ⟨s, lo, hi⟩ := b; simp_all
  · obtain ⟨s, lo, hi⟩ := a; simp_all
theorem leq_eq (a b : Iv) : leqB a b = rLeq a b := by
  unfold leqB rLeq
  rcases nrm_cases a with ⟨p1, p2⟩ | ⟨p1, p2, p3, p4⟩ <;> rcases nrm_cases b with ⟨q1, q2⟩ | ⟨q1, q2, q3, q4⟩ <;> simp_all
theorem has_eq (a : Iv) (n : Int) : hasB a n = rHas a n := by
  unfold hasB rHas emptyB
  rw [Bool.eq_iff_iff]
  simp only [Bool.and_eq_true, Bool.not_eq_true', Bool.or_eq_false_iff, decide_eq_true_eq, decide_eq_false_iff_not, Bool.not_eq_false']
  constructor
  · rintro ⟨⟨⟨h1, h2⟩, h3⟩, h4⟩; exact ⟨⟨h1, h3⟩, h4⟩
  · rintro ⟨⟨h1, h3⟩, h4⟩; exact ⟨⟨⟨h1, by omega⟩, h3⟩, h4⟩
theorem tx_eq {a : Iv} (ha : wIv a) : txI a = rtI a := by
  unfold txI rtI
  rcases nrm_cases a with ⟨p1, p2⟩ | ⟨p1, p2, p3, p4⟩
  · simp [p1, p2]
  · have : leqB topIv a = eqI a topIv := by
      obtain ⟨s, lo, hi⟩ := a
      obtain ⟨⟨w1, w2⟩, w3, w4⟩ := ha
      simp only at p2 p3 w1 w2 w3 w4
      subst p2
      rw [leq_lit _ _ _ _ _ _ (fun _ => by decide) (fun _ => p3), Bool.eq_iff_iff]
      simp only [eqI, Bool.not_true, Bool.false_or, Bool.true_and, Bool.and_eq_true, decide_eq_true_eq, beq_iff_eq, BEq.rfl]
      omega
    simp only [p1, p4, p2, this, Bool.false_eq_true, if_false, Bool.true_eq_false]
theorem joi_facts {l : List Iv} {a b : Iv} (n : Int) (ha : wIv a) : ∃ (js : Bool) (jl jh : Int) (ms : Bool) (ml mh : Int) (ws : Bool) (wl wh : Int) (lq hs : Bool) (tx : List UInt8) (os : Bool) (ol oh : Int),
    jL noIv l = ⟨js, jl, jh⟩ ∧ jnL noIv l = ⟨js, jl, jh⟩ ∧ mL topIv l = ⟨ms, ml, mh⟩ ∧ mtL topIv l = ⟨ms, ml, mh⟩ ∧ wdI a b = ⟨ws, wl, wh⟩ ∧ rWd a b = ⟨ws, wl, wh⟩ ∧ leqB a b = lq ∧ rLeq a b = lq ∧ hasB a n = hs ∧ rHas a n = hs ∧ txI a = tx ∧ rtI a = tx ∧
    Of a.lo a.hi = ⟨os, ol, oh⟩ ∧ rOf a.lo a.hi = ⟨os, ol, oh⟩ ∧ Of n n = ⟨true, n, n⟩ ∧ rOf n n = ⟨true, n, n⟩ := by
  exact ⟨(jL noIv l).s, (jL noIv l).lo, (jL noIv l).hi, (mL topIv l).s, (mL topIv l).lo, (mL topIv l).hi, (wdI a b).s, (wdI a b).lo, (wdI a b).hi, leqB a b, hasB a n, txI a, (Of a.lo a.hi).s, (Of a.lo a.hi).lo, (Of a.lo a.hi).hi,
    rfl, jn_jL l noIv, rfl, mt_mL l topIv rfl, rfl, (wd_eq ha).symm, rfl, (leq_eq a b).symm, rfl, (has_eq a n).symm, rfl, (tx_eq ha).symm, rfl, rOf_Of _ _, Of_self n, (rOf_Of _ _).trans (Of_self n)⟩
abbrev yc_IvalJoins (l : List Iv) (a : Iv) (b : Iv) (n : Int) : Prop := l.length ≤ maxLen ∧ wIv a
abbrev yr_IvalJoins (l : List Iv) (a : Iv) (b : Iv) (n : Int) : Value := Value.bool true
set_option maxRecDepth 20000 in set_option maxHeartbeats 4000000 in
theorem y_IvalJoins : CallsRG Tryd.prog 5 powT (ahS (cSl rIv) (ahS (yI.H) (ahS (yI.H) (ahS ((cInt .i64).H) ah0)))) (fun p : (List Iv × (Iv × (Iv × (Int × Unit)))) => yc_IvalJoins p.1 p.2.1 p.2.2.1 p.2.2.2.1) (fun p : (List Iv × (Iv × (Iv × (Int × Unit)))) => ofV (yr_IvalJoins p.1 p.2.1 p.2.2.1 p.2.2.2.1)) := by
  rintro ⟨l, a, b, n, _u⟩ w fz xs hT hc hfz hl hx
  have hG := stays_clX (fz := fz) (T := powT) powT_kept hT
  refine calls_toR Tryd.func5 rfl w fz [yp_known hG, yp_Join, yp_Meet, yp_Leq, yp_Widen, yp_Has, yp_Text hG, yp_Of, yp_Const, yp_Top, yp_rJoin, yp_rMeet, yp_rLeq, yp_rWiden, yp_rHas, yp_rText, yp_rOf, yp_rTop] [] (ahS (cSl rIv) (ahS (yI.H) (ahS (yI.H) (ahS ((cInt .i64).H) ah0)))) (fun p : (List Iv × (Iv × (Iv × (Int × Unit)))) => ofV (yr_IvalJoins p.1 p.2.1 p.2.2.1 p.2.2.2.1)) _ xs hfz hl hx (Nat.le_of_ble_eq_true rfl) ?_
  clear hx hl hfz xs
  simp only [Tryd.f5]
  obtain ⟨js, jl, jh, ms, ml, mh, ws, wl, wh, lq, hs, tx, os, ol, oh, e1, e2, e3, e4, e5, e6, e7, e8, e9, e10, e11, e12, e13, e14, e15, e16⟩ := joi_facts (l := l) (a := a) (b := b) n hc.2
  all_goals simp only [↓e_nil, ↓e_cons, ↓e_text, ↓e_draw, ↓e_seq, ↓e_block, ↓e_then1, ↓e_then2, ↓e_then3, ↓e_in1, ↓e_in2, ↓e_in3, ↓e_nrmK, ↓e_drawK, ↓e_seqK, ↓e_ret, ↓e_skip, ↓e_label, ↓e_exit, ↓e_cond, ↓e_loop, ↓e_impBt, ↓e_impBf, ↓e_impNt, ↓e_impNf, e_step, e_gh, e_condK, e_retQ1, e_retQ2, e_ex, e_guard0, gh_nil, ghOf, run_nil, runCs,
    argE, opG, guarded, slotOf, dstLt, guardOf, opS, fresh, rV, opMove, opPick, opAlloc, opBox, opBuild, opBuildSlice, opMakeSlice, opLoad, opStore, ptrG, ptrA, opFieldAddr, opField, opIndexAddr, opIndex, boI, opSlice, opExtract, opConvert, opConvB, rowsN, getP, inP, setP, nilC, nilBin, opBin, unV, opUn, okPtr, opNil, lenC, srcR, srcZ, opAppend, opBuiltin, opCall, opCallV, fnSV, okCap, findS, reads, readG, readA, readAG, readO, readOG, fillC, setAll, chop, repl, anyN, ldc, ldV, clC, clL, clos, oD, binV, eqL, eqC, cmpI, arI, strI, rdv, rdg, okV, lkp, St.app, addL, addS, ofV, SV.tupB, SV.cells, C.stor, C.flat, oneV, resAll, resOne, resV, noTup, toP, updH, capN,
    mk_bs, bs_toList, cStr_d, cStr_e, dStr, specM_f, specM_fn, spM_some, am0_d, amD_d, amP_d, amS_d, pairM_some, pairN_some, ptrD, slcD, decM, ndB, updM, bumpC, renV, renC, nmM, chO, memH, memO, am0_a, amD_a, amP_a, amS_a, am0_m, amD_m, amP_m, amS_m, dropTake, take_len, bq_nn, bq_cn, bq_nc, bq_cc, UInt8.reduceToNat, Nat.sub_zero, dec_T, dec_F, specD_f, specD_fn, specG_f, specG_fn, specR_f, specR_fn, spFnH_some, ahS_d, ah0_d, ahS_e, ah0_e, pairF_some, CodH_d, CodH_e, cSl_d, cSl_e, slR, slD, decL, decL_map, toD, toDs, toDss, List.length_map, Int.toNat_natCast, Int.natCast_nonneg, acS_d, ac0_d, acS_e, ac0_e, pairO_some, spFn_some, cIntY_d, cBoolY_d, cIntY_e, cBoolY_e, dInt, dBool, bsel_true, bsel_false,
    Option.map_some, Option.getD_some, Option.getD_none, Option.map_none, Option.bind_some, List.all_cons, List.all_nil, Bool.and_true, Bool.true_and, Bool.and_self, Bool.not_not, true_and, and_true, and_self, ↓reduceIte, Nat.reduceEqDiff, Nat.reduceLT, Nat.reduceAdd, Nat.reduceMul, Nat.reduceMod, Nat.reduceLeDiff, forall_const, true_implies, imp_self, implies_true, List.getElem?_cons_zero, List.getElem?_cons_succ, List.getElem?_toArray, List.length_cons, List.length_nil, List.map_cons, List.map_nil,
    List.set_cons_zero, List.set_cons_succ, List.length_set, List.drop_zero, List.drop_succ_cons, List.take_succ_cons, List.take_zero, List.getD_cons_zero, List.getD_cons_succ, ne_eq, not_false_eq_true, Nat.reduceSub, Nat.le_refl, Int.toNat_zero, Int.reduceLT, Int.reduceLE, Int.reduceToNat, Nat.zero_mul, Nat.zero_add, Nat.add_zero, Nat.one_mul, reduceCtorEq, Bool.false_eq_true, Bool.not_false, Bool.not_true, Bool.or_false, Bool.false_or, Bool.or_true, Bool.true_or, Bool.and_false, Bool.false_and, Bool.not_eq_false', Bool.not_eq_true', Bool.or_self, wrap_i64, wrap_u64, wrap_u8, Int.natCast_zero, Int.natCast_one, Int.cast_ofNat_Int, Int.lt_irrefl, decide_false, decide_true, Nat.lt_irrefl, Int.reduceAdd, Int.reduceSub, Int.reduceMul, Int.reduceNeg, Int.reduceEq, Int.reduceNe, Int.reduceBEq, Int.reduceBNe, Nat.reduceBEq, Nat.lt_add_one, Int.toNat_one, List.take_nil, List.drop_nil, List.flatMap_cons, List.flatMap_nil, List.append_nil, List.nil_append, List.cons_append, List.append_eq, List.any_nil, List.any_cons, List.contains_cons, List.contains_nil, C.names, SV.names, pNames, List.mem_cons, List.not_mem_nil, or_false, forall_eq, forall_eq_or_imp, and_imp, false_implies, List.mem_singleton, not_true_eq_false, if_true, if_false, ya2, ys2, yby2, yz2, yi2, ya3, ys3, yby3, yz3, yi3, ya4, ys4, yby4, yz4, yb4, ya9, ys9, yby9, yz9, yst9, ya22, ys22, yby22, yz22, ye22, ya24, ys24, yby24, yz24, yf24_0, yf24_1, yf24_2, yp24, ya25, ys25, yby25, yz25, yf25_0, yf25_1, yf25_2, yp25, yq25, yp_known, yp_Join, yp_Meet, yp_Leq, yp_Widen, yp_Has, yp_Text, yp_Of, yp_Const, yp_Top, yp_rJoin, yp_rMeet, yp_rLeq, yp_rWiden, yp_rHas, yp_rText, yp_rOf, yp_rTop, yI_d, yI_e, yIv, ydIv, iv_eta, rIv_d, rIv_e, rIv_z, rwIv, rIv_of, pV, yr_Join, yr_Meet, yr_Widen, yr_rJoin, yr_rMeet, yr_rWiden, yr_Of, yr_rOf, yr_Const, decL_iv, e1, e2, e3, e4, e5, e6, e7, e8, e9, e10, e11, e12, e13, e14, e15, e16, beq_self_eq_true, bne_self_eq_false]
  try simp only [impB, impN]
  repeat' (first | exact chk_ok (by kernel_rfl) | apply And.intro | intro _)
  all_goals first
    | exact hc.2.1.1
    | exact hc.2.1.2
    | exact hc.2.2.1
    | exact hc.2.2.2
    | (refine ret_with [] ?_; simp only [↓e_nil, ↓e_cons, ↓e_text, ↓e_draw, ↓e_seq, ↓e_block, ↓e_then1, ↓e_then2, ↓e_then3, ↓e_in1, ↓e_in2, ↓e_in3, ↓e_nrmK, ↓e_drawK, ↓e_seqK, ↓e_ret, ↓e_skip, ↓e_label, ↓e_exit, ↓e_cond, ↓e_loop, ↓e_impBt, ↓e_impBf, ↓e_impNt, ↓e_impNf, e_step, e_gh, e_condK, e_retQ1, e_retQ2, e_ex, e_guard0, gh_nil, ghOf, run_nil, runCs,
    argE, opG, guarded, slotOf, dstLt, guardOf, opS, fresh, rV, opMove, opPick, opAlloc, opBox, opBuild, opBuildSlice, opMakeSlice, opLoad, opStore, ptrG, ptrA, opFieldAddr, opField, opIndexAddr, opIndex, boI, opSlice, opExtract, opConvert, opConvB, rowsN, getP, inP, setP, nilC, nilBin, opBin, unV, opUn, okPtr, opNil, lenC, srcR, srcZ, opAppend, opBuiltin, opCall, opCallV, fnSV, okCap, findS, reads, readG, readA, readAG, readO, readOG, fillC, setAll, chop, repl, anyN, ldc, ldV, clC, clL, clos, oD, binV, eqL, eqC, cmpI, arI, strI, rdv, rdg, okV, lkp, St.app, addL, addS, ofV, SV.tupB, SV.cells, C.stor, C.flat, oneV, resAll, resOne, resV, noTup, toP, updH, capN,
    mk_bs, bs_toList, cStr_d, cStr_e, dStr, specM_f, specM_fn, spM_some, am0_d, amD_d, amP_d, amS_d, pairM_some, pairN_some, ptrD, slcD, decM, ndB, updM, bumpC, renV, renC, nmM, chO, memH, memO, am0_a, amD_a, amP_a, amS_a, am0_m, amD_m, amP_m, amS_m, dropTake, take_len, bq_nn, bq_cn, bq_nc, bq_cc, UInt8.reduceToNat, Nat.sub_zero, dec_T, dec_F, specD_f, specD_fn, specG_f, specG_fn, specR_f, specR_fn, spFnH_some, ahS_d, ah0_d, ahS_e, ah0_e, pairF_some, CodH_d, CodH_e, cSl_d, cSl_e, slR, slD, decL, decL_map, toD, toDs, toDss, List.length_map, Int.toNat_natCast, Int.natCast_nonneg, acS_d, ac0_d, acS_e, ac0_e, pairO_some, spFn_some, cIntY_d, cBoolY_d, cIntY_e, cBoolY_e, dInt, dBool, bsel_true, bsel_false,
    Option.map_some, Option.getD_some, Option.getD_none, Option.map_none, Option.bind_some, List.all_cons, List.all_nil, Bool.and_true, Bool.true_and, Bool.and_self, Bool.not_not, true_and, and_true, and_self, ↓reduceIte, Nat.reduceEqDiff, Nat.reduceLT, Nat.reduceAdd, Nat.reduceMul, Nat.reduceMod, Nat.reduceLeDiff, forall_const, true_implies, imp_self, implies_true, List.getElem?_cons_zero, List.getElem?_cons_succ, List.getElem?_toArray, List.length_cons, List.length_nil, List.map_cons, List.map_nil,
    List.set_cons_zero, List.set_cons_succ, List.length_set, List.drop_zero, List.drop_succ_cons, List.take_succ_cons, List.take_zero, List.getD_cons_zero, List.getD_cons_succ, ne_eq, not_false_eq_true, Nat.reduceSub, Nat.le_refl, Int.toNat_zero, Int.reduceLT, Int.reduceLE, Int.reduceToNat, Nat.zero_mul, Nat.zero_add, Nat.add_zero, Nat.one_mul, reduceCtorEq, Bool.false_eq_true, Bool.not_false, Bool.not_true, Bool.or_false, Bool.false_or, Bool.or_true, Bool.true_or, Bool.and_false, Bool.false_and, Bool.not_eq_false', Bool.not_eq_true', Bool.or_self, wrap_i64, wrap_u64, wrap_u8, Int.natCast_zero, Int.natCast_one, Int.cast_ofNat_Int, Int.lt_irrefl, decide_false, decide_true, Nat.lt_irrefl, Int.reduceAdd, Int.reduceSub, Int.reduceMul, Int.reduceNeg, Int.reduceEq, Int.reduceNe, Int.reduceBEq, Int.reduceBNe, Nat.reduceBEq, Nat.lt_add_one, Int.toNat_one, List.take_nil, List.drop_nil, List.flatMap_cons, List.flatMap_nil, List.append_nil, List.nil_append, List.cons_append, List.append_eq, List.any_nil, List.any_cons, List.contains_cons, List.contains_nil, C.names, SV.names, pNames, List.mem_cons, List.not_mem_nil, or_false, forall_eq, forall_eq_or_imp, and_imp, false_implies, List.mem_singleton, not_true_eq_false, if_true, if_false, ya2, ys2, yby2, yz2, yi2, ya3, ys3, yby3, yz3, yi3, ya4, ys4, yby4, yz4, yb4, ya9, ys9, yby9, yz9, yst9, ya22, ys22, yby22, yz22, ye22, ya24, ys24, yby24, yz24, yf24_0, yf24_1, yf24_2, yp24, ya25, ys25, yby25, yz25, yf25_0, yf25_1, yf25_2, yp25, yq25, e_ret0, e_RES, yr_IvalJoins]; done)
    | (show smallL l; unfold smallL; rename_i hh; simp only [decide_eq_false_iff_not] at hh; omega)
    | trace_state
end Go.Proofs.YtbkhkbfjfblbjaaDoor
