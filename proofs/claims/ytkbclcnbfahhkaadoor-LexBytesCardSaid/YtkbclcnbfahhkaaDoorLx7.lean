/- LexBytes, walked. No conditions but those in each statement. -/
import Derived.Test.YtkbclcnbfahhkaaDoorLx6
set_option linter.unusedVariables false
set_option linter.unusedSimpArgs false
namespace Go.Proofs.YtkbclcnbfahhkaaDoor
open Go Go.Sy Go.RowKit

abbrev bts (c : Int) : List UInt8 := [32, byN c, 32]
def btB (c : UInt8) : Bool :=
  match lxT [32, c, 32] with
  | ([], i, e) => decide (e = 0) || decide (i = 1)
  | ([t], i, e) => (decide (e = 0) || decide (i = 1)) && decide (t.p = 1) && (decide (t.k = 0) || decide (t.k = 1) || decide (t.k = 2))
  | _ => false
theorem bt_all : ((List.range 256).all fun n => btB (UInt8.ofNat n)) = true := by kernel_rfl
theorem bt_all' (c : UInt8) : btB c = true := by
  have := List.all_eq_true.1 bt_all c.toNat (List.mem_range.2 c.toNat_lt)
  simpa using this
theorem bt_or (c : Int) : ∃ i e, lxT (bts c) = rxT (bts c) ∧ smallB (bts c) ∧ smallT (rxT (bts c)).1 ∧ (e = 0 ∨ (decide (e = 0) = false ∧ i = 1)) ∧ (rxT (bts c) = ([], i, e) ∨ ∃ k b, (k = 0 ∨ k = 1 ∨ k = 2) ∧ rxT (bts c) = ([⟨k, b, 1⟩], i, e)) := by
  have h := bt_all' (byN c)
  refine ⟨(lxT (bts c)).2.1, (lxT (bts c)).2.2, lx_rx _, ?_, rxT_len _ ?_, ?_⟩
  · unfold smallB; simp
  · simp
  rw [← lx_rx]
  unfold btB at h
  split at h
  · rename_i i e he
    rw [show lxT (bts c) = ([], i, e) from he]
    simp at h ⊢
    omega
  · rename_i t i e he
    obtain ⟨k, b, a⟩ := t
    rw [show lxT (bts c) = ([⟨k, b, a⟩], i, e) from he]
    simp at h ⊢
    omega
  · cases h
abbrev yc_LexBytes (c : Int) : Prop := True
abbrev yr_LexBytes (c : Int) : SV := SV.one (.v (.bool true))
theorem y_LexBytes : CallsY Tryd.prog 7 (acS (cInt .u8) ac0) (fun p : (Int × Unit) => yc_LexBytes p.1) (fun p : (Int × Unit) => yr_LexBytes p.1) := by
  rintro ⟨c, _u⟩ w fz xs hc hfz hl hx
  refine calls_to Tryd.func7 rfl [yp_known, yp_Tokens, yp_rTokens, yp_hTokens] [] (acS (cInt .u8) ac0) (fun p : (Int × Unit) => yr_LexBytes p.1) _ w fz xs hfz hl hx (Nat.le_of_ble_eq_true rfl) ?_
  clear hx hl hfz xs
  simp only [Tryd.f7]
  obtain ⟨i, e, hlr, hs, ht, rfl | ⟨he, rfl⟩, hr | ⟨k, b, rfl | rfl | rfl, hr⟩⟩ := bt_or c
  all_goals simp only [↓e_nil, ↓e_cons, ↓e_text, ↓e_draw, ↓e_seq, ↓e_block, ↓e_then1, ↓e_then2, ↓e_then3, ↓e_in1, ↓e_in2, ↓e_in3, ↓e_nrmK, ↓e_drawK, ↓e_seqK, ↓e_ret, ↓e_skip, ↓e_label, ↓e_exit, ↓e_cond, ↓e_loop, ↓e_impBt, ↓e_impBf, ↓e_impNt, ↓e_impNf, e_step, e_gh, e_condK, e_retQ1, e_retQ2, e_ex, e_guard0, gh_nil, ghOf, run_nil, runCs,
    argE, opG, guarded, slotOf, dstLt, guardOf, opS, fresh, rV, opMove, opPick, opAlloc, opBox, opBuild, opBuildSlice, opMakeSlice, opLoad, opStore, ptrG, ptrA, opFieldAddr, opField, opIndexAddr, opIndex, boI, opSlice, opExtract, opConvert, opConvB, rowsN, getP, inP, setP, nilC, nilBin, opBin, unV, opUn, okPtr, opNil, lenC, srcR, srcZ, opAppend, opBuiltin, opCall, opCallV, fnSV, okCap, findS, reads, readG, readA, readAG, readO, readOG, fillC, setAll, chop, repl, anyN, ldc, ldV, clC, clL, clos, oD, binV, eqL, eqC, cmpI, arI, strI, rdv, rdg, okV, lkp, St.app, addL, addS, ofV, SV.tupB, SV.cells, C.stor, C.flat, oneV, resAll, resOne, resV, noTup, toP, updH, capN,
    mk_bs, bs_toList, cStr_d, cStr_e, dStr, specM_f, specM_fn, spM_some, am0_d, amD_d, amP_d, amS_d, pairM_some, pairN_some, ptrD, slcD, decM, ndB, updM, bumpC, renV, renC, nmM, chO, memH, memO, am0_a, amD_a, amP_a, amS_a, am0_m, amD_m, amP_m, amS_m, dropTake, take_len, bq_nn, bq_cn, bq_nc, bq_cc, UInt8.reduceToNat, Nat.sub_zero, dec_T, dec_F, specD_f, specD_fn, specR_f, specR_fn, spFnH_some, ahS_d, ah0_d, ahS_e, ah0_e, pairF_some, CodH_d, CodH_e, cSl_d, cSl_e, slR, slD, decL, decL_map, toD, toDs, toDss, List.length_map, Int.toNat_natCast, Int.natCast_nonneg, acS_d, ac0_d, acS_e, ac0_e, pairO_some, spFn_some, cIntY_d, cBoolY_d, cIntY_e, cBoolY_e, dInt, dBool, bsel_true, bsel_false,
    Option.map_some, Option.getD_some, Option.getD_none, Option.map_none, Option.bind_some, List.all_cons, List.all_nil, Bool.and_true, Bool.true_and, Bool.and_self, Bool.not_not, true_and, and_true, and_self, ↓reduceIte, Nat.reduceEqDiff, Nat.reduceLT, Nat.reduceAdd, Nat.reduceMul, Nat.reduceMod, Nat.reduceLeDiff, forall_const, true_implies, imp_self, implies_true, List.getElem?_cons_zero, List.getElem?_cons_succ, List.getElem?_toArray, List.length_cons, List.length_nil, List.map_cons, List.map_nil,
    List.set_cons_zero, List.set_cons_succ, List.length_set, List.drop_zero, List.drop_succ_cons, List.take_succ_cons, List.take_zero, List.getD_cons_zero, List.getD_cons_succ, ne_eq, not_false_eq_true, Nat.reduceSub, Nat.le_refl, Int.toNat_zero, Int.reduceLT, Int.reduceLE, Int.reduceToNat, Nat.zero_mul, Nat.zero_add, Nat.add_zero, Nat.one_mul, reduceCtorEq, Bool.false_eq_true, Bool.not_false, Bool.not_true, Bool.or_false, Bool.false_or, Bool.or_true, Bool.true_or, Bool.and_false, Bool.false_and, Bool.not_eq_false', Bool.not_eq_true', Bool.or_self, wrap_i64, wrap_u64, wrap_u8, Int.natCast_zero, Int.natCast_one, Int.cast_ofNat_Int, Int.lt_irrefl, decide_false, decide_true, Nat.lt_irrefl, Int.reduceAdd, Int.reduceSub, Int.reduceMul, Int.reduceNeg, Int.reduceEq, Int.reduceNe, Int.reduceBEq, Int.reduceBNe, Nat.reduceBEq, Nat.lt_add_one, Int.toNat_one, List.take_nil, List.drop_nil, List.flatMap_cons, List.flatMap_nil, List.append_nil, List.nil_append, List.cons_append, List.append_eq, List.any_nil, List.any_cons, List.contains_cons, List.contains_nil, C.names, SV.names, pNames, List.mem_cons, List.not_mem_nil, or_false, forall_eq, forall_eq_or_imp, and_imp, false_implies, List.mem_singleton, not_true_eq_false, if_true, if_false, ya3, ys3, yby3, yz3, yi3, ya4, ys4, yby4, yz4, yb4, ya5, ys5, yby5, yz5, yi5, ya9, ys9, yby9, yz9, yst9, ya21, ys21, yby21, yz21, yi21, ya23, ys23, yby23, yz23, ye23, ya24, ys24, yby24, yz24, yi24, ya31, ys31, yby31, yz31, ye31, ya32, ys32, yby32, yz32, ye32, ya33, ys33, yby33, yz33, yf33_0, yf33_1, yf33_2, yp33, ya34, ys34, yby34, yz34, yf34_0, yf34_1, yf34_2, yp34, yq34, ya36, ys36, yby36, yz36, yi36, ya53, ys53, yby53, yz53, ypt53, yp_known, yp_Tokens, yp_rTokens, yp_hTokens, yr_known, yr_Tokens, yc_Tokens, yr_rTokens, yc_rTokens, yr_hTokens, yc_hTokens, toksV, hlr, hr, beq_self_eq_true, tksB_self, rTok_d, rTok_e, rTok_z, decL_tok, dTok, zTokD, List.getD_nil, rwTok]
  try simp only [impB, impN]
  repeat' (first | exact chk_ok (by kernel_rfl) | apply And.intro | intro _)
  all_goals first
    | (refine ret_with [] ?_; simp only [↓e_nil, ↓e_cons, ↓e_text, ↓e_draw, ↓e_seq, ↓e_block, ↓e_then1, ↓e_then2, ↓e_then3, ↓e_in1, ↓e_in2, ↓e_in3, ↓e_nrmK, ↓e_drawK, ↓e_seqK, ↓e_ret, ↓e_skip, ↓e_label, ↓e_exit, ↓e_cond, ↓e_loop, ↓e_impBt, ↓e_impBf, ↓e_impNt, ↓e_impNf, e_step, e_gh, e_condK, e_retQ1, e_retQ2, e_ex, e_guard0, gh_nil, ghOf, run_nil, runCs,
    argE, opG, guarded, slotOf, dstLt, guardOf, opS, fresh, rV, opMove, opPick, opAlloc, opBox, opBuild, opBuildSlice, opMakeSlice, opLoad, opStore, ptrG, ptrA, opFieldAddr, opField, opIndexAddr, opIndex, boI, opSlice, opExtract, opConvert, opConvB, rowsN, getP, inP, setP, nilC, nilBin, opBin, unV, opUn, okPtr, opNil, lenC, srcR, srcZ, opAppend, opBuiltin, opCall, opCallV, fnSV, okCap, findS, reads, readG, readA, readAG, readO, readOG, fillC, setAll, chop, repl, anyN, ldc, ldV, clC, clL, clos, oD, binV, eqL, eqC, cmpI, arI, strI, rdv, rdg, okV, lkp, St.app, addL, addS, ofV, SV.tupB, SV.cells, C.stor, C.flat, oneV, resAll, resOne, resV, noTup, toP, updH, capN,
    mk_bs, bs_toList, cStr_d, cStr_e, dStr, specM_f, specM_fn, spM_some, am0_d, amD_d, amP_d, amS_d, pairM_some, pairN_some, ptrD, slcD, decM, ndB, updM, bumpC, renV, renC, nmM, chO, memH, memO, am0_a, amD_a, amP_a, amS_a, am0_m, amD_m, amP_m, amS_m, dropTake, take_len, bq_nn, bq_cn, bq_nc, bq_cc, UInt8.reduceToNat, Nat.sub_zero, dec_T, dec_F, specD_f, specD_fn, specR_f, specR_fn, spFnH_some, ahS_d, ah0_d, ahS_e, ah0_e, pairF_some, CodH_d, CodH_e, cSl_d, cSl_e, slR, slD, decL, decL_map, toD, toDs, toDss, List.length_map, Int.toNat_natCast, Int.natCast_nonneg, acS_d, ac0_d, acS_e, ac0_e, pairO_some, spFn_some, cIntY_d, cBoolY_d, cIntY_e, cBoolY_e, dInt, dBool, bsel_true, bsel_false,
    Option.map_some, Option.getD_some, Option.getD_none, Option.map_none, Option.bind_some, List.all_cons, List.all_nil, Bool.and_true, Bool.true_and, Bool.and_self, Bool.not_not, true_and, and_true, and_self, ↓reduceIte, Nat.reduceEqDiff, Nat.reduceLT, Nat.reduceAdd, Nat.reduceMul, Nat.reduceMod, Nat.reduceLeDiff, forall_const, true_implies, imp_self, implies_true, List.getElem?_cons_zero, List.getElem?_cons_succ, List.getElem?_toArray, List.length_cons, List.length_nil, List.map_cons, List.map_nil,
    List.set_cons_zero, List.set_cons_succ, List.length_set, List.drop_zero, List.drop_succ_cons, List.take_succ_cons, List.take_zero, List.getD_cons_zero, List.getD_cons_succ, ne_eq, not_false_eq_true, Nat.reduceSub, Nat.le_refl, Int.toNat_zero, Int.reduceLT, Int.reduceLE, Int.reduceToNat, Nat.zero_mul, Nat.zero_add, Nat.add_zero, Nat.one_mul, reduceCtorEq, Bool.false_eq_true, Bool.not_false, Bool.not_true, Bool.or_false, Bool.false_or, Bool.or_true, Bool.true_or, Bool.and_false, Bool.false_and, Bool.not_eq_false', Bool.not_eq_true', Bool.or_self, wrap_i64, wrap_u64, wrap_u8, Int.natCast_zero, Int.natCast_one, Int.cast_ofNat_Int, Int.lt_irrefl, decide_false, decide_true, Nat.lt_irrefl, Int.reduceAdd, Int.reduceSub, Int.reduceMul, Int.reduceNeg, Int.reduceEq, Int.reduceNe, Int.reduceBEq, Int.reduceBNe, Nat.reduceBEq, Nat.lt_add_one, Int.toNat_one, List.take_nil, List.drop_nil, List.flatMap_cons, List.flatMap_nil, List.append_nil, List.nil_append, List.cons_append, List.append_eq, List.any_nil, List.any_cons, List.contains_cons, List.contains_nil, C.names, SV.names, pNames, List.mem_cons, List.not_mem_nil, or_false, forall_eq, forall_eq_or_imp, and_imp, false_implies, List.mem_singleton, not_true_eq_false, if_true, if_false, ya3, ys3, yby3, yz3, yi3, ya4, ys4, yby4, yz4, yb4, ya5, ys5, yby5, yz5, yi5, ya9, ys9, yby9, yz9, yst9, ya21, ys21, yby21, yz21, yi21, ya23, ys23, yby23, yz23, ye23, ya24, ys24, yby24, yz24, yi24, ya31, ys31, yby31, yz31, ye31, ya32, ys32, yby32, yz32, ye32, ya33, ys33, yby33, yz33, yf33_0, yf33_1, yf33_2, yp33, ya34, ys34, yby34, yz34, yf34_0, yf34_1, yf34_2, yp34, yq34, ya36, ys36, yby36, yz36, yi36, ya53, ys53, yby53, yz53, ypt53, e_ret0, e_RES, yr_LexBytes]; first | done | (simp only [*, if_true, if_false, Bool.false_eq_true, Bool.true_or, Bool.or_true, Bool.false_or, Bool.or_false, Bool.and_false, Bool.false_and, Bool.true_and, Bool.and_true, Bool.not_true, Bool.not_false, Bool.or_self, Bool.and_self, Int.reduceEq, Int.reduceNeg, Nat.reduceEqDiff, reduceCtorEq, dec_T, dec_F]; done) | (simp_all; done))
    | omega
    | (simp_all; done)
    | (simp_all; omega)
    | trace_state
theorem yn_LexBytes : ∀ p : (Int × Unit), ((fun p : (Int × Unit) => yr_LexBytes p.1) p).names = [] := by intro p; first | rfl | simp [SV.names, C.names]
def yp_LexBytes : Sy.Spec Tryd.prog := specD 7 Tryd.call7 (acS (cInt .u8) ac0) (fun p : (Int × Unit) => yc_LexBytes p.1) (fun p : (Int × Unit) => yr_LexBytes p.1) yn_LexBytes y_LexBytes
theorem c_LexBytes (c : Int) (hc : (Lit.int .u8 c).wf = true) (w : World) : Calls Tryd.prog 7 #[.int .u8 c] w (fun e w' => e = .returned (.bool true) ∧ Below w.heap.size w w') :=
  to_plain y_LexBytes (c, ()) w trivial [.int .u8 c] (.bool true) rfl (fun j v x h1 h2 => by
    match j with
    | 0 => simp only [List.getElem?_cons_zero, Option.some.injEq, acS_e] at h1 h2; subst h1; subst h2; exact sd_ofV (x := .int .u8 c) rfl
    | j + 1 => simp at h2) rfl
end Go.Proofs.YtkbclcnbfahhkaaDoor
