/- IvalLattice, walked. No conditions but those in each statement. -/
import Derived.Test.YtbkhkbfjfblbjaaDoorIv10
set_option linter.unusedVariables false
set_option linter.unusedSimpArgs false
namespace Go.Proofs.YtbkhkbfjfblbjaaDoor
open Go Go.Sy Go.RowKit

theorem lat_facts {a b c : Iv} (ha : wIv a) (hb : wIv b) (hc : wIv c) (n : Int) : ∃ (js : Bool) (jl jh : Int) (ms : Bool) (ml mh : Int) (us : Bool) (ul uh : Int) (ps : Bool) (pl ph : Int) (vs : Bool) (vl vh : Int) (qs : Bool) (ql qh : Int) (ws : Bool) (wl wh : Int),
    jL noIv [a, b] = ⟨js, jl, jh⟩ ∧ jL noIv [b, a] = ⟨js, jl, jh⟩ ∧ mL topIv [a, b] = ⟨ms, ml, mh⟩ ∧ mL topIv [b, a] = ⟨ms, ml, mh⟩ ∧ jL noIv [⟨js, jl, jh⟩, c] = ⟨us, ul, uh⟩ ∧ jL noIv [b, c] = ⟨ps, pl, ph⟩ ∧ jL noIv [a, ⟨ps, pl, ph⟩] = ⟨us, ul, uh⟩ ∧
    mL topIv [⟨ms, ml, mh⟩, c] = ⟨vs, vl, vh⟩ ∧ mL topIv [b, c] = ⟨qs, ql, qh⟩ ∧ mL topIv [a, ⟨qs, ql, qh⟩] = ⟨vs, vl, vh⟩ ∧ wdI a b = ⟨ws, wl, wh⟩ ∧
    leqB a ⟨js, jl, jh⟩ = true ∧ leqB b ⟨js, jl, jh⟩ = true ∧ leqB ⟨ms, ml, mh⟩ a = true ∧ leqB ⟨ms, ml, mh⟩ b = true ∧ (leqB a c && leqB b c && !leqB ⟨js, jl, jh⟩ c) = false ∧ (leqB c a && leqB c b && !leqB c ⟨ms, ml, mh⟩) = false ∧
    (hasB ⟨ms, ml, mh⟩ n == (hasB a n && hasB b n)) = true ∧ (hasB ⟨js, jl, jh⟩ n || (!hasB a n && !hasB b n)) = true ∧ leqB ⟨js, jl, jh⟩ ⟨ws, wl, wh⟩ = true := by
  have na := nm_gd ha
  have nb := nm_gd hb
  have nc := nm_gd hc
  have gj := J2_gd na nb
  have gm := M2_gd na nb
  have gw := W2_gd na nb
  have gp := J2_gd nb nc
  have gq := M2_gd nb nc
  have h := latB_gd na nb nc n
  have e1 : jL noIv [a, b] = J2 (nmI a) (nmI b) := jL_two a b
  have e2 : jL noIv [b, a] = J2 (nmI a) (nmI b) := by rw [jL_two, J2_comm nb na]
  have e3 : mL topIv [a, b] = M2 (nmI a) (nmI b) := mL_two ha
  have e4 : mL topIv [b, a] = M2 (nmI a) (nmI b) := by rw [mL_two hb, M2_comm nb na]
  have e5 : jL noIv [J2 (nmI a) (nmI b), c] = J2 (J2 (nmI a) (nmI b)) (nmI c) := by rw [jL_two, nm_of_gd gj]
  have e6 : jL noIv [b, c] = J2 (nmI b) (nmI c) := jL_two b c
  have e7 : jL noIv [a, J2 (nmI b) (nmI c)] = J2 (J2 (nmI a) (nmI b)) (nmI c) := by rw [jL_two, nm_of_gd gp, J2_assoc na nb nc]
  have e8 : mL topIv [M2 (nmI a) (nmI b), c] = M2 (M2 (nmI a) (nmI b)) (nmI c) := by rw [mL_two (gd_w gm), nm_of_gd gm]
  have e9 : mL topIv [b, c] = M2 (nmI b) (nmI c) := mL_two hb
  have e10 : mL topIv [a, M2 (nmI b) (nmI c)] = M2 (M2 (nmI a) (nmI b)) (nmI c) := by rw [mL_two ha, nm_of_gd gq, M2_assoc na nb nc]
  have e11 : wdI a b = W2 (nmI a) (nmI b) := wdI_two ha
  have l1 : leqB a (J2 (nmI a) (nmI b)) = leqB (nmI a) (J2 (nmI a) (nmI b)) := by rw [leq_nm, nm_of_gd gj]
  have l2 : leqB b (J2 (nmI a) (nmI b)) = leqB (nmI b) (J2 (nmI a) (nmI b)) := by rw [leq_nm, nm_of_gd gj]
  have l3 : leqB (M2 (nmI a) (nmI b)) a = leqB (M2 (nmI a) (nmI b)) (nmI a) := by rw [leq_nm, nm_of_gd gm]
  have l4 : leqB (M2 (nmI a) (nmI b)) b = leqB (M2 (nmI a) (nmI b)) (nmI b) := by rw [leq_nm, nm_of_gd gm]
  have l5 : leqB (J2 (nmI a) (nmI b)) c = leqB (J2 (nmI a) (nmI b)) (nmI c) := by rw [leq_nm, nm_of_gd gj]
  have l6 : leqB c (M2 (nmI a) (nmI b)) = leqB (nmI c) (M2 (nmI a) (nmI b)) := by rw [leq_nm, nm_of_gd gm]
  unfold latB at h
  rw [← l1, ← l2, ← l3, ← l4, ← l5, ← l6, ← leq_nm a c, ← leq_nm b c, ← leq_nm c a, ← leq_nm c b, ← has_nm a, ← has_nm b] at h
  clear l1 l2 l3 l4 l5 l6
  generalize J2 (J2 (nmI a) (nmI b)) (nmI c) = u at *
  generalize M2 (M2 (nmI a) (nmI b)) (nmI c) = v at *
  generalize J2 (nmI a) (nmI b) = j at *
  generalize M2 (nmI a) (nmI b) = m at *
  generalize J2 (nmI b) (nmI c) = p at *
  generalize M2 (nmI b) (nmI c) = q at *
  generalize W2 (nmI a) (nmI b) = w at *
  simp only [Bool.and_eq_true] at h
  obtain ⟨⟨⟨⟨⟨⟨⟨⟨h1, h2⟩, h3⟩, h4⟩, h5⟩, h6⟩, h7⟩, h8⟩, h9⟩ := h
  have hn : ∀ x : Bool, (!x) = true → x = false := by decide
  exact ⟨j.s, j.lo, j.hi, m.s, m.lo, m.hi, u.s, u.lo, u.hi, p.s, p.lo, p.hi, v.s, v.lo, v.hi, q.s, q.lo, q.hi, w.s, w.lo, w.hi, e1, e2, e3, e4, e5, e6, e7, e8, e9, e10, e11, h1, h2, h3, h4, hn _ h5, hn _ h6, h7, h8, h9⟩
abbrev yc_IvalLattice (a : Iv) (b : Iv) (c : Iv) (n : Int) : Prop := wIv a ∧ wIv b ∧ wIv c
abbrev yr_IvalLattice (a : Iv) (b : Iv) (c : Iv) (n : Int) : SV := SV.one (.v (.bool true))
set_option maxRecDepth 20000 in set_option maxHeartbeats 4000000 in
theorem y_IvalLattice : CallsG Tryd.prog 6 powT (acS (yI) (acS (yI) (acS (yI) (acS (cInt .i64) ac0)))) (fun p : (Iv × (Iv × (Iv × (Int × Unit)))) => yc_IvalLattice p.1 p.2.1 p.2.2.1 p.2.2.2.1) (fun p : (Iv × (Iv × (Iv × (Int × Unit)))) => yr_IvalLattice p.1 p.2.1 p.2.2.1 p.2.2.2.1) := by
  rintro ⟨a, b, c, n, _u⟩ w fz xs hT hc hfz hl hx
  have hG := stays_clX (fz := fz) (T := powT) powT_kept hT
  refine calls_to Tryd.func6 rfl w fz [yp_known hG, yp_Join, yp_Meet, yp_Leq, yp_Has, yp_Widen] [] (acS (yI) (acS (yI) (acS (yI) (acS (cInt .i64) ac0)))) (fun p : (Iv × (Iv × (Iv × (Int × Unit)))) => yr_IvalLattice p.1 p.2.1 p.2.2.1 p.2.2.2.1) _ xs hfz hl hx (Nat.le_of_ble_eq_true rfl) ?_
  clear hx hl hfz xs
  simp only [Tryd.f6]
  obtain ⟨js, jl, jh, ms, ml, mh, us, ul, uh, ps, pl, ph, vs, vl, vh, qs, ql, qh, ws, wl, wh, e1, e2, e3, e4, e5, e6, e7, e8, e9, e10, e11, f1, f2, f3, f4, f5, f6, f7, f8, f9⟩ := lat_facts hc.1 hc.2.1 hc.2.2 n
  all_goals simp only [↓e_nil, ↓e_cons, ↓e_text, ↓e_draw, ↓e_seq, ↓e_block, ↓e_then1, ↓e_then2, ↓e_then3, ↓e_in1, ↓e_in2, ↓e_in3, ↓e_nrmK, ↓e_drawK, ↓e_seqK, ↓e_ret, ↓e_skip, ↓e_label, ↓e_exit, ↓e_cond, ↓e_loop, ↓e_impBt, ↓e_impBf, ↓e_impNt, ↓e_impNf, e_step, e_gh, e_condK, e_retQ1, e_retQ2, e_ex, e_guard0, gh_nil, ghOf, run_nil, runCs,
    argE, opG, guarded, slotOf, dstLt, guardOf, opS, fresh, rV, opMove, opPick, opAlloc, opBox, opBuild, opBuildSlice, opMakeSlice, opLoad, opStore, ptrG, ptrA, opFieldAddr, opField, opIndexAddr, opIndex, boI, opSlice, opExtract, opConvert, opConvB, rowsN, getP, inP, setP, nilC, nilBin, opBin, unV, opUn, okPtr, opNil, lenC, srcR, srcZ, opAppend, opBuiltin, opCall, opCallV, fnSV, okCap, findS, reads, readG, readA, readAG, readO, readOG, fillC, setAll, chop, repl, anyN, ldc, ldV, clC, clL, clos, oD, binV, eqL, eqC, cmpI, arI, strI, rdv, rdg, okV, lkp, St.app, addL, addS, ofV, SV.tupB, SV.cells, C.stor, C.flat, oneV, resAll, resOne, resV, noTup, toP, updH, capN,
    mk_bs, bs_toList, cStr_d, cStr_e, dStr, specM_f, specM_fn, spM_some, am0_d, amD_d, amP_d, amS_d, pairM_some, pairN_some, ptrD, slcD, decM, ndB, updM, bumpC, renV, renC, nmM, chO, memH, memO, am0_a, amD_a, amP_a, amS_a, am0_m, amD_m, amP_m, amS_m, dropTake, take_len, bq_nn, bq_cn, bq_nc, bq_cc, UInt8.reduceToNat, Nat.sub_zero, dec_T, dec_F, specD_f, specD_fn, specG_f, specG_fn, specR_f, specR_fn, spFnH_some, ahS_d, ah0_d, ahS_e, ah0_e, pairF_some, CodH_d, CodH_e, cSl_d, cSl_e, slR, slD, decL, decL_map, toD, toDs, toDss, List.length_map, Int.toNat_natCast, Int.natCast_nonneg, acS_d, ac0_d, acS_e, ac0_e, pairO_some, spFn_some, cIntY_d, cBoolY_d, cIntY_e, cBoolY_e, dInt, dBool, bsel_true, bsel_false,
    Option.map_some, Option.getD_some, Option.getD_none, Option.map_none, Option.bind_some, List.all_cons, List.all_nil, Bool.and_true, Bool.true_and, Bool.and_self, Bool.not_not, true_and, and_true, and_self, ↓reduceIte, Nat.reduceEqDiff, Nat.reduceLT, Nat.reduceAdd, Nat.reduceMul, Nat.reduceMod, Nat.reduceLeDiff, forall_const, true_implies, imp_self, implies_true, List.getElem?_cons_zero, List.getElem?_cons_succ, List.getElem?_toArray, List.length_cons, List.length_nil, List.map_cons, List.map_nil,
    List.set_cons_zero, List.set_cons_succ, List.length_set, List.drop_zero, List.drop_succ_cons, List.take_succ_cons, List.take_zero, List.getD_cons_zero, List.getD_cons_succ, ne_eq, not_false_eq_true, Nat.reduceSub, Nat.le_refl, Int.toNat_zero, Int.reduceLT, Int.reduceLE, Int.reduceToNat, Nat.zero_mul, Nat.zero_add, Nat.add_zero, Nat.one_mul, reduceCtorEq, Bool.false_eq_true, Bool.not_false, Bool.not_true, Bool.or_false, Bool.false_or, Bool.or_true, Bool.true_or, Bool.and_false, Bool.false_and, Bool.not_eq_false', Bool.not_eq_true', Bool.or_self, wrap_i64, wrap_u64, wrap_u8, Int.natCast_zero, Int.natCast_one, Int.cast_ofNat_Int, Int.lt_irrefl, decide_false, decide_true, Nat.lt_irrefl, Int.reduceAdd, Int.reduceSub, Int.reduceMul, Int.reduceNeg, Int.reduceEq, Int.reduceNe, Int.reduceBEq, Int.reduceBNe, Nat.reduceBEq, Nat.lt_add_one, Int.toNat_one, List.take_nil, List.drop_nil, List.flatMap_cons, List.flatMap_nil, List.append_nil, List.nil_append, List.cons_append, List.append_eq, List.any_nil, List.any_cons, List.contains_cons, List.contains_nil, C.names, SV.names, pNames, List.mem_cons, List.not_mem_nil, or_false, forall_eq, forall_eq_or_imp, and_imp, false_implies, List.mem_singleton, not_true_eq_false, if_true, if_false, ya2, ys2, yby2, yz2, yi2, ya3, ys3, yby3, yz3, yi3, ya4, ys4, yby4, yz4, yb4, ya9, ys9, yby9, yz9, yst9, ya22, ys22, yby22, yz22, ye22, ya24, ys24, yby24, yz24, yf24_0, yf24_1, yf24_2, yp24, ya25, ys25, yby25, yz25, yf25_0, yf25_1, yf25_2, yp25, yq25, yp_known, yp_Join, yp_Meet, yp_Leq, yp_Has, yp_Widen, yI_d, yI_e, yIv, ydIv, iv_eta, rIv_d, rIv_e, rIv_z, rwIv, rIv_of, pV, yr_Join, yr_Meet, yr_Widen, e1, e2, e3, e4, e5, e6, e7, e8, e9, e10, e11, f1, f2, f3, f4, f5, f6, f7, f8, f9, beq_self_eq_true, bne_self_eq_false]
  all_goals
    try simp only [impB, impN]
    repeat' (first | exact chk_ok (by kernel_rfl) | apply And.intro | intro _)
    all_goals first
      | (refine ret_with [] ?_; simp only [↓e_nil, ↓e_cons, ↓e_text, ↓e_draw, ↓e_seq, ↓e_block, ↓e_then1, ↓e_then2, ↓e_then3, ↓e_in1, ↓e_in2, ↓e_in3, ↓e_nrmK, ↓e_drawK, ↓e_seqK, ↓e_ret, ↓e_skip, ↓e_label, ↓e_exit, ↓e_cond, ↓e_loop, ↓e_impBt, ↓e_impBf, ↓e_impNt, ↓e_impNf, e_step, e_gh, e_condK, e_retQ1, e_retQ2, e_ex, e_guard0, gh_nil, ghOf, run_nil, runCs,
      argE, opG, guarded, slotOf, dstLt, guardOf, opS, fresh, rV, opMove, opPick, opAlloc, opBox, opBuild, opBuildSlice, opMakeSlice, opLoad, opStore, ptrG, ptrA, opFieldAddr, opField, opIndexAddr, opIndex, boI, opSlice, opExtract, opConvert, opConvB, rowsN, getP, inP, setP, nilC, nilBin, opBin, unV, opUn, okPtr, opNil, lenC, srcR, srcZ, opAppend, opBuiltin, opCall, opCallV, fnSV, okCap, findS, reads, readG, readA, readAG, readO, readOG, fillC, setAll, chop, repl, anyN, ldc, ldV, clC, clL, clos, oD, binV, eqL, eqC, cmpI, arI, strI, rdv, rdg, okV, lkp, St.app, addL, addS, ofV, SV.tupB, SV.cells, C.stor, C.flat, oneV, resAll, resOne, resV, noTup, toP, updH, capN,
      mk_bs, bs_toList, cStr_d, cStr_e, dStr, specM_f, specM_fn, spM_some, am0_d, amD_d, amP_d, amS_d, pairM_some, pairN_some, ptrD, slcD, decM, ndB, updM, bumpC, renV, renC, nmM, chO, memH, memO, am0_a, amD_a, amP_a, amS_a, am0_m, amD_m, amP_m, amS_m, dropTake, take_len, bq_nn, bq_cn, bq_nc, bq_cc, UInt8.reduceToNat, Nat.sub_zero, dec_T, dec_F, specD_f, specD_fn, specG_f, specG_fn, specR_f, specR_fn, spFnH_some, ahS_d, ah0_d, ahS_e, ah0_e, pairF_some, CodH_d, CodH_e, cSl_d, cSl_e, slR, slD, decL, decL_map, toD, toDs, toDss, List.length_map, Int.toNat_natCast, Int.natCast_nonneg, acS_d, ac0_d, acS_e, ac0_e, pairO_some, spFn_some, cIntY_d, cBoolY_d, cIntY_e, cBoolY_e, dInt, dBool, bsel_true, bsel_false,
      Option.map_some, Option.getD_some, Option.getD_none, Option.map_none, Option.bind_some, List.all_cons, List.all_nil, Bool.and_true, Bool.true_and, Bool.and_self, Bool.not_not, true_and, and_true, and_self, ↓reduceIte, Nat.reduceEqDiff, Nat.reduceLT, Nat.reduceAdd, Nat.reduceMul, Nat.reduceMod, Nat.reduceLeDiff, forall_const, true_implies, imp_self, implies_true, List.getElem?_cons_zero, List.getElem?_cons_succ, List.getElem?_toArray, List.length_cons, List.length_nil, List.map_cons, List.map_nil,
      List.set_cons_zero, List.set_cons_succ, List.length_set, List.drop_zero, List.drop_succ_cons, List.take_succ_cons, List.take_zero, List.getD_cons_zero, List.getD_cons_succ, ne_eq, not_false_eq_true, Nat.reduceSub, Nat.le_refl, Int.toNat_zero, Int.reduceLT, Int.reduceLE, Int.reduceToNat, Nat.zero_mul, Nat.zero_add, Nat.add_zero, Nat.one_mul, reduceCtorEq, Bool.false_eq_true, Bool.not_false, Bool.not_true, Bool.or_false, Bool.false_or, Bool.or_true, Bool.true_or, Bool.and_false, Bool.false_and, Bool.not_eq_false', Bool.not_eq_true', Bool.or_self, wrap_i64, wrap_u64, wrap_u8, Int.natCast_zero, Int.natCast_one, Int.cast_ofNat_Int, Int.lt_irrefl, decide_false, decide_true, Nat.lt_irrefl, Int.reduceAdd, Int.reduceSub, Int.reduceMul, Int.reduceNeg, Int.reduceEq, Int.reduceNe, Int.reduceBEq, Int.reduceBNe, Nat.reduceBEq, Nat.lt_add_one, Int.toNat_one, List.take_nil, List.drop_nil, List.flatMap_cons, List.flatMap_nil, List.append_nil, List.nil_append, List.cons_append, List.append_eq, List.any_nil, List.any_cons, List.contains_cons, List.contains_nil, C.names, SV.names, pNames, List.mem_cons, List.not_mem_nil, or_false, forall_eq, forall_eq_or_imp, and_imp, false_implies, List.mem_singleton, not_true_eq_false, if_true, if_false, ya2, ys2, yby2, yz2, yi2, ya3, ys3, yby3, yz3, yi3, ya4, ys4, yby4, yz4, yb4, ya9, ys9, yby9, yz9, yst9, ya22, ys22, yby22, yz22, ye22, ya24, ys24, yby24, yz24, yf24_0, yf24_1, yf24_2, yp24, ya25, ys25, yby25, yz25, yf25_0, yf25_1, yf25_2, yp25, yq25, e_ret0, e_RES, yr_IvalLattice]; first | done | (simp only [*, if_true, if_false, Bool.false_eq_true, Bool.true_or, Bool.or_true, Bool.false_or, Bool.or_false, Bool.and_false, Bool.false_and, Bool.true_and, Bool.and_true, Bool.not_true, Bool.not_false, Bool.or_self, Bool.and_self, Int.reduceEq, Int.reduceNeg, Nat.reduceEqDiff, reduceCtorEq, dec_T, dec_F]; done) | (simp_all; done))
      | omega
      | (simp_all; done)
      | (simp_all; omega)
      | trace_state
theorem yn_IvalLattice : ∀ p : (Iv × (Iv × (Iv × (Int × Unit)))), ((fun p : (Iv × (Iv × (Iv × (Int × Unit)))) => yr_IvalLattice p.1 p.2.1 p.2.2.1 p.2.2.2.1) p).names = [] := by intro p; first | rfl | simp [SV.names, C.names]
def yp_IvalLattice {X : Ctx} {w0 : World} (hG : Stays X w0 powT) : Sy.Spec Tryd.prog X w0 := specG 6 Tryd.call6 powT (acS (yI) (acS (yI) (acS (yI) (acS (cInt .i64) ac0)))) (fun p : (Iv × (Iv × (Iv × (Int × Unit)))) => yc_IvalLattice p.1 p.2.1 p.2.2.1 p.2.2.2.1) (fun p : (Iv × (Iv × (Iv × (Int × Unit)))) => yr_IvalLattice p.1 p.2.1 p.2.2.1 p.2.2.2.1) yn_IvalLattice y_IvalLattice hG
end Go.Proofs.YtbkhkbfjfblbjaaDoor
