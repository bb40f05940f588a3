/- The parser on texts that are put together. No conditions but those in each statement. -/
import Derived.Test.YtiipmaoonnjlpaaSh1
import Derived.Test.YtiipmaoonnjlpaaFe0
set_option linter.unusedVariables false
set_option linter.unusedSimpArgs false
namespace Go.Proofs.Ytiipmaoonnjlpaa
open Go Go.Sy Go.RowKit

abbrev Kt := Int × List UInt8
/-- the tokens that are left -/
structure Sfx (p : Pr) (ts : List Kt) : Prop where
  ok : okP p
  e : p.e = 0
  t : (p.l.drop p.i.toNat).map kt = ts
section
variable {p : Pr} {k : Int} {t : List UInt8} {ts : List Kt}
theorem Sfx.lt (h : Sfx p ((k, t) :: ts)) : p.i < (p.l.length : Int) := by
  have := congrArg List.length h.t
  simp only [List.length_map, List.length_drop, List.length_cons] at this
  have := h.ok.1
  omega
theorem Sfx.hd (h : Sfx p ((k, t) :: ts)) : (tk p).k = k ∧ (tk p).t = t := by
  have hlt := h.lt
  have h0 := h.ok.1
  have hi : p.i.toNat < p.l.length := by omega
  have e := h.t
  rw [List.drop_eq_getElem_cons hi, List.map_cons] at e
  have e1 := (List.cons.inj e).1
  have e2 : tk p = p.l[p.i.toNat] := by simp [tk, List.getD, hi]
  rw [e2]
  exact ⟨congrArg Prod.fst e1, congrArg Prod.snd e1⟩
theorem Sfx.adv (h : Sfx p ((k, t) :: ts)) : Sfx (adv p) ts := by
  have hlt := h.lt
  have h0 := h.ok.1
  have hi : p.i.toNat < p.l.length := by omega
  refine ⟨(adv_nx h.ok hlt h.e).ok, h.e, ?_⟩
  have e := h.t
  rw [List.drop_eq_getElem_cons hi, List.map_cons] at e
  have ei : (Go.Proofs.Ytiipmaoonnjlpaa.adv p).i.toNat = p.i.toNat + 1 := by rw [adv_i h.ok hlt]; omega
  show (p.l.drop (Go.Proofs.Ytiipmaoonnjlpaa.adv p).i.toNat).map kt = ts
  rw [ei]
  exact (List.cons.inj e).2
theorem Sfx.isT (h : Sfx p ((k, t) :: ts)) (u : List UInt8) : isT u p = (k != 1 && t == u) := by
  obtain ⟨h1, h2⟩ := h.hd
  have h3 := h.lt
  have h4 := h.e
  unfold Go.Proofs.Ytiipmaoonnjlpaa.isT
  rw [h1, h2, h4]
  simp [h3]
theorem Sfx.nameB (h : Sfx p ((k, t) :: ts)) : nameB p = (k == 0 && !wordB t) := by
  obtain ⟨h1, h2⟩ := h.hd
  have h3 := h.lt
  have h4 := h.e
  unfold Go.Proofs.Ytiipmaoonnjlpaa.nameB
  rw [h1, h2, h4]
  simp [h3]
theorem Sfx.outB (h : Sfx p ((k, t) :: ts)) : outB p = false := by
  have h3 := h.lt
  unfold Go.Proofs.Ytiipmaoonnjlpaa.outB
  rw [h.e]
  simp; omega
theorem Sfx.wan (h : Sfx p ((k, t) :: ts)) (hk : (k != 1) = true) : wanP t p = Go.Proofs.Ytiipmaoonnjlpaa.adv p := by
  unfold wanP
  rw [if_pos (by rw [h.isT, hk]; simp)]
theorem Sfx.nam (h : Sfx p ((0, t) :: ts)) (hw : wordB t = false) : namP p = Go.Proofs.Ytiipmaoonnjlpaa.adv p := by
  unfold namP
  rw [if_pos (by rw [h.nameB, hw]; rfl)]
theorem Sfx.nil (h : Sfx p []) : p.i = (p.l.length : Int) := by
  have := congrArg List.length h.t
  simp only [List.length_map, List.length_drop, List.length_nil] at this
  have := h.ok.1
  have := h.ok.2.1
  omega
theorem Sfx.len (h : Sfx p ts) : (ts.length : Int) = (p.l.length : Int) - p.i := by
  have := congrArg List.length h.t
  simp only [List.length_map, List.length_drop] at this
  have := h.ok.1
  have := h.ok.2.1
  omega
end
/-- no operator of a sum -/
def noOp (a : Kt) : Prop := ∀ u ∈ ([[42], [47], [37], [45], [43]] : List (List UInt8)), (a.1 != 1 && a.2 == u) = false
theorem prodL_no {u : Pr → R Ex} {p : Pr} {a : Kt} {ts : List Kt} (h : Sfx p (a :: ts)) (ho : noOp a) (e : Ex) : ∀ k, prodL u k e p = (e, p)
  | 0 => rfl
  | k + 1 => by
    simp only [prodL]
    rw [if_pos (by rw [h.e]; rfl), if_neg (by rw [h.isT, ho [42] (by decide)]; decide), if_neg (by rw [h.isT, ho [47] (by decide)]; decide), if_neg (by rw [h.isT, ho [37] (by decide)]; decide)]
theorem sumL_no {u : Pr → R Ex} {p : Pr} {a : Kt} {ts : List Kt} (h : Sfx p (a :: ts)) (ho : noOp a) (e : Ex) : ∀ k, sumL u k e p = (e, p)
  | 0 => rfl
  | k + 1 => by
    simp only [sumL]
    rw [if_pos (by rw [h.e]; rfl), if_neg (by rw [h.isT, ho [45] (by decide)]; decide), if_neg (by rw [h.isT, ho [43] (by decide)]; decide)]
theorem un_x {p : Pr} {ts : List Kt} (h : Sfx p ((0, [120]) :: ts)) (f : Nat) : unF (f + 1) p = (.mk 1 0 (namS p) .nil .nil, adv p) := by
  simp only [unF]
  rw [if_neg (by rw [h.outB]; decide), if_neg (by rw [h.isT]; decide), if_neg (by rw [h.isT]; decide), if_neg (by rw [h.hd.1]; decide), if_pos (by rw [h.nameB]; decide), h.nam (by decide)]
theorem un_n' {p : Pr} {d : List UInt8} {ts : List Kt} (h : Sfx p ((1, d) :: ts)) (f : Nat) : unF (f + 1) p = (.mk 0 (numW (tk p).t 0) [] .nil .nil, adv p) := by
  simp only [unF]
  rw [if_neg (by rw [h.outB]; decide), if_neg (by rw [h.isT]; simp), if_neg (by rw [h.isT]; simp), if_pos (by rw [h.hd.1]; decide)]
theorem exS_x {p : Pr} {a : Kt} {ts : List Kt} (h : Sfx p ((0, [120]) :: a :: ts)) (ho : noOp a) : (exS p).2 = adv p := by
  show (sumL (unF 41) p.l.length (prodW (unF 41) p).1 (prodW (unF 41) p).2).2 = _
  have e1 : prodW (unF 41) p = (.mk 1 0 (namS p) .nil .nil, adv p) := by
    unfold prodW; rw [un_x h 40, prodL_no h.adv ho]
  rw [e1, sumL_no h.adv ho]
theorem exS_n' {p : Pr} {d : List UInt8} {a : Kt} {ts : List Kt} (h : Sfx p ((1, d) :: a :: ts)) (ho : noOp a) : (exS p).2 = adv p := by
  show (sumL (unF 41) p.l.length (prodW (unF 41) p).1 (prodW (unF 41) p).2).2 = _
  have e1 : prodW (unF 41) p = (.mk 0 (numW (tk p).t 0) [] .nil .nil, adv p) := by
    unfold prodW; rw [un_n' h 40, prodL_no h.adv ho]
  rw [e1, sumL_no h.adv ho]
theorem no_lt : noOp (2, [60]) := by intro u hu; revert hu; revert u; decide
theorem no_cl : noOp (2, [41]) := by intro u hu; revert hu; revert u; decide
theorem no_se : noOp (2, [59]) := by intro u hu; revert hu; revert u; decide
theorem null_no {p : Pr} {a b c : Kt} {ts : List Kt} (h : Sfx p (a :: b :: c :: ts)) (hc : (c.2 == [110, 117, 108, 108]) = false) : nullB p = false := by
  have h2 := h.adv.adv
  have hl := h.len
  simp only [List.length_cons] at hl
  obtain ⟨o1, o2, o3, _⟩ := h.ok
  have e2 : w64i (p.i + 2) = p.i + 2 := by unfold w64i; rw [wrap_i64 (by omega) (by omega)]
  have e3 : (tkA p (p.i + 2)).t = c.2 := by
    have h3 := h2.hd.2
    have i1 := adv_i h.ok h.lt
    have i2 := adv_i h.adv.ok h.adv.lt
    have : tk (adv (adv p)) = tkA p (p.i + 2) := by
      show p.l.getD (adv (adv p)).i.toNat tk0 = p.l.getD (p.i + 2).toNat tk0
      rw [i2, i1, show p.i + 1 + 1 = p.i + 2 by omega]
    rw [← this]; exact h3
  unfold nullB
  rw [e2, e3, hc]
  simp
/-- x < 1, in parentheses -/
theorem cd_x {p : Pr} {ts : List Kt} (h : Sfx p ((0, [120]) :: (2, [60]) :: (1, [49]) :: (2, [41]) :: ts)) : Sfx (cdS p).2 ((2, [41]) :: ts) := by
  have e1 : (exS p).2 = adv p := exS_x h no_lt
  have h1 := h.adv
  have h2 := h1.adv
  have h3 := h2.adv
  have e2 : (exS (adv (adv p))).2 = adv (adv (adv p)) := exS_n' h2 no_cl
  have e3 : (notF 41 p).2 = adv (adv (adv p)) := by
    show (notF (40 + 1) p).2 = _
    simp only [notF]
    rw [if_neg (by rw [h.isT]; decide), if_neg (by rw [h.isT]; decide), if_neg (by rw [null_no h (by decide)]; decide), e1]
    show (cmpF (adv p) _ [[61, 61], [33, 61], [60], [60, 61], [62], [62, 61]] 0).2 = _
    simp only [cmpF]
    rw [if_neg (by rw [h1.isT]; decide), if_neg (by rw [h1.isT]; decide), if_pos (by rw [h1.isT]; decide)]
    exact e2
  have e4 : ∀ k c, (andL (notF 41) k c (adv (adv (adv p)))) = (c, adv (adv (adv p))) := by
    intro k c
    cases k with
    | zero => rfl
    | succ k => simp only [andL]; rw [if_neg (by rw [h3.isT]; decide)]
  have e5 : (andW (notF 41) p).2 = adv (adv (adv p)) := by unfold andW; rw [e3, e4]
  have e6 : ∀ k c, (conL (notF 41) k c (adv (adv (adv p)))) = (c, adv (adv (adv p))) := by
    intro k c
    cases k with
    | zero => rfl
    | succ k => simp only [conL]; rw [if_neg (by rw [h3.isT]; decide)]
  show Sfx (conL (notF 41) p.l.length (andW (notF 41) p).1 (andW (notF 41) p).2).2 _
  rw [e5, e6]; exact h3
theorem nxt_s {p : Pr} {ts : List Kt} (h : Sfx p ts) : Sfx (nxt p) ts := ⟨h.ok, h.e, h.t⟩
theorem opn_s {p : Pr} {ts : List Kt} (h : Sfx p ts) (hd : p.deep < 40) : opnB p = true ∧ Sfx (opnP p) ts ∧ (opnP p).deep = p.deep + 1 := by
  have hb : opnB p = true := by unfold opnB; rw [h.e]; simp; omega
  obtain ⟨_, _, h3⟩ := opn_e h.ok hb
  exact ⟨hb, ⟨opn_ok h.ok hb, by rw [h3]; exact h.e, by rw [h3]; exact h.t⟩, by rw [h3]⟩
theorem fail_no {p : Pr} (hn : p.n < 200) : ¬ (knoB p && decide (200 ≤ p.n)) = true := by
  have : decide (200 ≤ p.n) = false := by simp; omega
  rw [this]; simp
/-- x = .. ; -/
theorem st_as {p : Pr} {d : List UInt8} {ts : List Kt} (f : Nat) (h : Sfx p ((0, [120]) :: (2, [61]) :: (1, d) :: (2, [59]) :: ts)) (hn : p.n < 200) : Sfx (stmF (f + 1) p).2 ts ∧ (stmF (f + 1) p).1.k = 0 := by
  have h' := nxt_s h
  have h1 := h'.adv
  have h2 := h1.adv
  have h3 := h2.adv
  have n1 : namP (nxt p) = adv (nxt p) := h'.nam (by decide)
  have n2 : wanP [61] (adv (nxt p)) = adv (adv (nxt p)) := h1.wan (by decide)
  have ah : ∀ u, ahB u (adv (adv (nxt p))) = false := by intro u; unfold ahB; rw [h2.nameB]; simp
  have n3 : valF (adv (adv (nxt p))) = (⟨0, [], (exS (adv (adv (nxt p)))).1, none⟩, (exS (adv (adv (nxt p)))).2) := by
    unfold valF
    rw [if_neg (by rw [h2.isT]; simp), if_neg (by rw [h2.isT]; simp), if_neg (by rw [h2.isT]; simp), if_neg (by rw [ah]; decide), if_neg (by rw [ah]; decide)]
  have n4 : (exS (adv (adv (nxt p)))).2 = adv (adv (adv (nxt p))) := exS_n' h2 no_se
  have n5 : wanP [59] (adv (adv (adv (nxt p)))) = adv (adv (adv (adv (nxt p)))) := h3.wan (by decide)
  have hS : stmF (f + 1) p = (.mk (valF (adv (adv (nxt p)))).1.k (namS (nxt p)) (valF (adv (adv (nxt p)))).1.y (valF (adv (adv (nxt p)))).1.e .nil .nil ((valF (adv (adv (nxt p)))).1.a.getD []) [] [] p.n, wanP [59] (valF (adv (adv (nxt p)))).2) := by
    simp only [stmF]
    rw [if_neg (fail_no hn)]
    unfold stmB
    rw [if_neg (by rw [h'.isT]; decide), if_neg (by rw [h'.isT]; decide), if_neg (by rw [h'.isT]; decide), if_neg (by rw [h'.isT]; decide), if_neg (by rw [h'.isT]; decide), n1, if_neg (by rw [h1.isT]; decide), if_neg (by rw [h1.isT]; decide), n2]
  rw [hS, n3, n4, n5]
  exact ⟨h3.adv, rfl⟩
/-- return x; -/
theorem st_re {p : Pr} {ts : List Kt} (f : Nat) (h : Sfx p ((0, [114, 101, 116, 117, 114, 110]) :: (0, [120]) :: (2, [59]) :: ts)) (hn : p.n < 200) : Sfx (stmF (f + 1) p).2 ts ∧ (stmF (f + 1) p).1.k = 9 := by
  have h' := nxt_s h
  have h1 := h'.adv
  have h2 := h1.adv
  have n4 : (exS (adv (nxt p))).2 = adv (adv (nxt p)) := exS_x h1 no_se
  have n5 : wanP [59] (adv (adv (nxt p))) = adv (adv (adv (nxt p))) := h2.wan (by decide)
  have hS : stmF (f + 1) p = (.mk 9 [] [] (exS (adv (nxt p))).1 .nil .nil [] [] [] p.n, wanP [59] (exS (adv (nxt p))).2) := by
    simp only [stmF]
    rw [if_neg (fail_no hn)]
    unfold stmB
    rw [if_pos (by rw [h'.isT]; decide)]
  rw [hS, n4, n5]
  exact ⟨h2.adv, rfl⟩
/-- a head with its condition: the block's place -/
theorem if_c {p : Pr} {w : List UInt8} {ts : List Kt} (h : Sfx p ((0, w) :: (2, [40]) :: (0, [120]) :: (2, [60]) :: (1, [49]) :: (2, [41]) :: (2, [123]) :: ts)) : Sfx (wanP [41] (ifC p).2) ((2, [123]) :: ts) ∧ (wanP [41] (ifC p).2).deep = p.deep ∧ (wanP [41] (ifC p).2).n = p.n ∧ (wanP [41] (ifC p).2).l = p.l ∧ p.i ≤ (wanP [41] (ifC p).2).i := by
  have h1 := h.adv
  have e1 : wanP [40] (adv p) = adv (adv p) := h1.wan (by decide)
  have h2 := cd_x h1.adv
  have e2 : (ifC p).2 = (cdS (adv (adv p))).2 := by unfold ifC; rw [e1]
  have e3 : wanP [41] (cdS (adv (adv p))).2 = adv (cdS (adv (adv p))).2 := h2.wan (by decide)
  have g := cdS_nx h1.adv.ok
  have i1 := adv_i h.ok h.lt
  have i2 := adv_i h1.ok h1.lt
  have i3 := adv_i h2.ok h2.lt
  rw [e2, e3]
  exact ⟨h2.adv, g.d, by rw [adv_n, cdS_n]; rfl, g.l, by have := g.i; omega⟩
/-- the statements of a shape -/
inductive Shp : List Nat → List Sm → Prop where
  | nil : Shp [] []
  | wh {t : List Nat} {s : Sm} (hk : s.k = 11) (ht : Shp t s.th) : Shp (0 :: t) [s]
  | ite {t : List Nat} {s e : Sm} (hk : s.k = 10) (ht : Shp t s.th) (he : s.el = [e]) (hk2 : e.k = 0) : Shp (1 :: t) [s]
  | asg {t : List Nat} {s : Sm} {r : List Sm} (hk : s.k = 0) (ht : Shp t r) : Shp (2 :: t) (s :: r)
  | re {k : Nat} {t : List Nat} {s : Sm} {r : List Sm} (hk : s.k = 9) (ht : Shp t r) : Shp ((k + 3) :: t) (s :: r)
/-- one statement more -/
theorem stL_step {st : Pr → R Sm} {p : Pr} {a : Kt} {ts : List Kt} (h : Sfx p (a :: ts)) (ha : (a.1 != 1 && a.2 == [125]) = false) (k : Nat) (acc : List Sm) : stmtsL st (k + 1) acc p = stmtsL st k (acc ++ [(st p).1]) (st p).2 := by
  have hlt := h.lt
  simp only [stmtsL]
  rw [if_pos (by rw [h.e]; rfl), if_neg (by rw [h.isT, ha]; decide), if_neg (by simp; omega)]
theorem stL_end {st : Pr → R Sm} {p : Pr} {ts : List Kt} (h : Sfx p ((2, [125]) :: ts)) (k : Nat) (acc : List Sm) : stmtsL st (k + 1) acc p = (acc, adv p) := by
  simp only [stmtsL]
  rw [if_pos (by rw [h.e]; rfl), if_pos (by rw [h.isT]; rfl)]
end Go.Proofs.Ytiipmaoonnjlpaa
