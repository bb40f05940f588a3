/- The statements' functions on intervals, walked, fifth part. No conditions but those in each statement. -/
import Derived.Test.YtbkhkbfjfblbjaaLw
import Derived.Test.YtbkhkbfjfblbjaaPl4
set_option linter.unusedVariables false
set_option linter.unusedSimpArgs false
namespace Go.Proofs.Ytbkhkbfjfblbjaa
open Go Go.Sx Go.RowKit

set_option maxRecDepth 20000 in
theorem c_ArithSound (a : Iv) (b : Iv) (n : Int) (m : Int) (hc : wfIv a ∧ wfIv b ∧ (0 ≤ n ∧ n ≤ 18446744073709551615) ∧ (0 ≤ m ∧ m ≤ 18446744073709551615)) (w : World) :
    Calls Try.prog 8 #[((cIv).e a).den fun _ => 0, ((cIv).e b).den fun _ => 0, ((cInt .u64).e n).den fun _ => 0, ((cInt .u64).e m).den fun _ => 0] w (fun e w' => e = .returned ((SV.one (.v (.bool true))).den fun _ => 0) ∧ Below w.heap.size w w') := by
  refine calls_to Try.func8 rfl [sp_known, sp_rNorm, sp_in, sp_Add, sp_Sub, sp_Mul, sp_Neg, sp_Div, sp_Mod, sp_rHas] [(cIv).e a, (cIv).e b, (cInt .u64).e n, (cInt .u64).e m] _ _ (by intro v hv; simp only [List.mem_cons, List.not_mem_nil, or_false] at hv; rcases hv with rfl | rfl | rfl | rfl <;> apply Cod.n) rfl w (Nat.le_of_ble_eq_true rfl) ?_
  simp only [Try.f8]
  simp only [↓e_nil, ↓e_cons, ↓e_text, ↓e_draw, ↓e_seq, ↓e_block, ↓e_then1, ↓e_then2, ↓e_then3, ↓e_in1, ↓e_in2, ↓e_in3, ↓e_nrmK, ↓e_drawK, ↓e_seqK, ↓e_ret, ↓e_skip, ↓e_label, ↓e_exit, ↓e_cond, ↓e_loop, ↓e_impBt, ↓e_impBf, ↓e_impNt, ↓e_impNf, e_step, e_condK, e_ret1, e_ret2, e_ex, e_guard0,
    argE, opG, guardOf, opS, opMove, opPick, opAlloc, opBox, opBuild, opBuildSlice, opLoad, opStore, opBin, opUn, opFieldAddr, opField, opIndexAddr, opExtract, opConvert, opBuiltin, opCall, opCallV, fnSV, fnV_f, List.append_eq, List.cons_append, findS, reads, readG, readA, readAG, fillC, setAll, rng, unV, binV, eqL, eqC, cmpI, arI, outWr, addFp, rdv, rdg, lkp, St.app, ofV, SV.cells, C.one, oneV, resAll, resOne, resV, clos, closC, closL,
    SV.den, C.den, spec0_f, spec1_f, spec2_f, spec3_f, spec0_fn, spec1_fn, spec2_fn, spec3_fn, spFn1, spFn2, spFn3, cInt_d, cBool_d, cInt_e, cBool_e, dInt, dBool, bsel_true, bsel_false,
    Option.map_some, Option.getD_some, Option.map_none, Option.bind_some, List.all_cons, List.all_nil, Bool.and_true, Bool.true_and, Bool.and_self, Bool.not_not, true_and, and_true, and_self, ↓reduceIte, Nat.reduceEqDiff, Nat.reduceLT, Nat.reduceAdd, Nat.reduceMul, Nat.reduceMod, Nat.reduceLeDiff, forall_const, true_implies, imp_self, implies_true, List.getElem?_cons_zero, List.getElem?_cons_succ, List.getElem?_toArray, List.length_cons, List.length_nil, List.map_cons, List.map_nil,
    List.set_cons_zero, List.set_cons_succ, List.length_set, List.drop_zero, List.drop_succ_cons, List.take_succ_cons, List.take_zero, List.getD_cons_zero, List.getD_cons_succ, Option.toList_some, Option.toList_none, ne_eq, not_false_eq_true, Nat.reduceSub, Nat.le_refl, Int.toNat_zero, Int.reduceLT, Int.reduceLE, Int.reduceToNat, Nat.zero_mul, Nat.zero_add, Nat.add_zero, Nat.one_mul, reduceCtorEq, Bool.false_eq_true, Bool.not_false, Bool.not_true, Bool.or_false, Bool.false_or, Bool.or_true, Bool.true_or, Bool.and_false, Bool.false_and, Bool.not_eq_false', Bool.not_eq_true', Bool.or_self, wrap_i64, wrap_u64, wrap_u8, Int.natCast_zero, Int.natCast_one, Int.cast_ofNat_Int, Int.lt_irrefl, decide_false, decide_true, Nat.lt_irrefl, Int.reduceAdd, Int.reduceSub, Int.reduceMul, Int.reduceNeg, Int.reduceEq, Int.reduceNe, Int.reduceBEq, Int.reduceBNe, Nat.reduceBEq, Nat.lt_add_one, Int.toNat_one, List.take_nil, List.drop_nil, List.flatMap_cons, List.flatMap_nil, List.append_nil, List.nil_append, List.any_nil, List.any_cons, List.contains_cons, List.contains_nil, C.names, SV.names, e_rounds, e_rndK, purge, purgeE, purgeH, cleanH, e_retH1, e_retH2, List.mem_cons, List.not_mem_nil, or_false, forall_eq, ta0, ts0, ta1, ts1, tz1, ta2, ts2, tz2, ti2, ta3, ts3, tz3, ti3, ta4, ts4, tz4, tb4, ta5, ts5, tz5, ti5, ta6, ts6, tz6, ti6, ta7, ts7, tz7, tf7_0, tf7_1, tf7_2, tf7_3, tp7, ta8, ts8, tz8, ta9, ts9, tz9, tst9, ta10, ts10, tz10, tst10, ta11, ts11, tz11, tst11, ta12, ts12, tz12, ti12, ta13, ts13, tz13, tf13_0, tf13_1, tp13, ta14, ts14, tz14, ta15, ts15, tz15, ta16, ts16, tz16, ta17, ts17, tz17, ta18, ts18, tz18, tf18_0, tp18, ta19, ts19, tz19, ta20, ts20, tz20, ta21, ts21, tz21, ti21, ta22, ts22, tz22, tf22_0, tf22_1, tf22_2, tp22, ta23, ts23, tz23, tf23_0, tf23_1, tf23_2, tp23, tq23, ta24, ts24, tz24, ti24, ta25, ts25, tz25, ta26, ts26, tz26, ta27, ts27, ta28, ts28, tz28, ta29, ts29, tz29, ta30, ts30, tz30, ta31, ts31, tz31, ta32, ts32, tz32, ta33, ts33, tz33, ta34, ts34, tz34, te34, ta35, ts35, tz35, ta36, ts36, tz36, ta37, ts37, tz37, ta38, ts38, tz38, ta39, ts39, tz39, ta40, ts40, ta41, ts41, tz41, ta42, ts42, tz42, ta43, ts43, tz43, ta44, ts44, tz44, ta45, ts45, tz45, ta46, ts46, tz46, ta47, ts47, tz47, te47, ta48, ts48, tz48, ta49, ts49, ta50, ts50, tz50, ta51, ts51, tz51, ta52, ts52, tz52, ta53, ts53, ta54, ts54, tz54, ta55, ts55, tz55, ta56, ts56, tz56, ta57, ts57, tz57, ta58, ts58, tz58, ta59, ts59, tz59, ta60, ts60, tz60, te60, ta61, ts61, tz61, ta62, ts62, tz62, tf62_0, tf62_1, tf62_2, tf62_3, tp62, ta63, ts63, tz63, ta64, ts64, tz64, ta65, ts65, tz65, tf65_0, tp65, ta66, ts66, tz66, ta67, ts67, tz67, ta68, ts68, tz68, ti68, ta69, ts69, tz69, ti69, ta70, ts70, tz70, ti70, ta71, ts71, tz71, ta72, ts72, tz72, ta73, ts73, tz73, ti73, ta74, ts74, tz74, ti74, ta75, ts75, tz75, tf75_0, tf75_1, tf75_2, tf75_3, tf75_4, tf75_5, tf75_6, tf75_7, tf75_8, tf75_9, tf75_10, tp75, ta76, ts76, tz76, ta77, ts77, tz77, sp_known, sp_rNorm, sp_in, sp_Add, sp_Sub, sp_Mul, sp_Neg, sp_Div, sp_Mod, sp_rHas, cIv_d, cIv_e, ivS, dIv, iv_eta, noIv, topIv, ivV]
  repeat refine And.intro (chk_ok (by kernel_rfl)) ?_
  try exact chk_ok (by kernel_rfl)
  obtain ⟨ha, hb, hn, hm⟩ := hc
  have tA := nrm_told a ha
  have tB := nrm_told b hb
  refine ⟨fun _ => trivial, fun h => ⟨chk_ok (by kernel_rfl), ?_⟩⟩
  simp only [Bool.or_eq_false_iff, Bool.not_eq_false'] at h
  obtain ⟨g1, g2⟩ := h
  have gA : Good (nrm a) := tA.resolve_left fun q => by rw [q] at g1; cases g1
  have gB : Good (nrm b) := tB.resolve_left fun q => by rw [q] at g2; cases g2
  obtain ⟨i1, i2⟩ := in_ok gA hn
  obtain ⟨i3, i4⟩ := in_ok gB hm
  generalize inI (nrm a) n = x at *
  generalize inI (nrm b) m = y at *
  have s1 : rHas (addI (nrm a) (nrm b)) (IntKind.i64.wrap (x + y)) = true := add_sound gA gB i1 i2 i3 i4
  have s2 : rHas (subI (nrm a) (nrm b)) (IntKind.i64.wrap (x - y)) = true := sub_sound gA gB i1 i2 i3 i4
  have s3 : rHas (mulI (nrm a) (nrm b)) (IntKind.i64.wrap (x * y)) = true := mul_sound gA gB i1 i2 i3 i4
  have s4 : rHas (subI (Of 0 0) (nrm a)) (IntKind.i64.wrap (0 - x)) = true := sub_sound (A := Of 0 0) (of_good (by omega) (by unfold Rg; omega) (by unfold Rg; omega)).1 gA (x := 0) (by decide) (by decide) i1 i2
  simp only [s1, s2, s3, s4, Bool.not_true, Bool.or_self, e_impBf, e_impNf, true_and]
  refine ⟨fun h0 => ?_, fun h0 => ?_⟩
  · obtain rfl : y = 0 := by simpa using h0
    obtain ⟨z1, z2⟩ := div_zero gA gB i3 i4
    rw [z1, z2]; rfl
  · have n0 : ¬ y = 0 := by simpa using h0
    have s5 : rHas (divI (nrm a) (nrm b)).1 (IntKind.i64.wrap (x.tdiv y)) = true := div_sound gA gB i1 i2 i3 i4 n0
    have s6 : rHas (modI (nrm a) (nrm b)).1 (x.tmod y) = true := at_has (mod_at gA gB i1 i2 i3 i4 n0)
    exact ⟨n0, fun _ => ⟨s5, s5, n0⟩, chk_ok (by kernel_rfl), by rw [s5, s6]; rfl⟩
end Go.Proofs.Ytbkhkbfjfblbjaa
