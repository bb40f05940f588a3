/- Shapes are read as what they are. No conditions but those in each statement. -/
import Derived.Test.YtiipmaoonnjlpaaSh2
set_option linter.unusedVariables false
set_option linter.unusedSimpArgs false
namespace Go.Proofs.Ytiipmaoonnjlpaa
open Go Go.Sy Go.RowKit

/-- where a shape is read: numbers and depth -/
structure Pl (p : Pr) (f d : Nat) : Prop where
  f : 41 ≤ p.deep + (f : Int)
  d : p.deep + (d : Int) ≤ 40
  n0 : 0 ≤ p.n
  n : p.n ≤ p.i
  l : p.l.length ≤ 195
theorem Pl.n2 {p : Pr} {f d : Nat} (h : Pl p f d) (ho : okP p) : p.n < 200 := by
  have := h.n; have := h.l; have := ho.2.1; omega
/-- a block is read as its statements are -/
theorem blk_s {f d : Nat} {p : Pr} {ts : List Kt} (h : Sfx p ((2, [123]) :: ts)) (hp : Pl p (f + 1) (d + 1)) : Sfx (adv (opnP p)) ts ∧ Pl (adv (opnP p)) f d ∧ blkW (stmF f) p = ((stmtsW (stmF f) (adv (opnP p))).1, shut (stmtsW (stmF f) (adv (opnP p))).2) ∧ (adv (opnP p)).i = p.i + 1 ∧ (adv (opnP p)).n = p.n ∧ (adv (opnP p)).l = p.l := by
  obtain ⟨h1, h2, h3⟩ := opn_s h (by have := hp.d; omega)
  have e3 := opn_l h.ok h1
  have e4 := adv_i h2.ok h2.lt
  have e5 : (adv (opnP p)).n = p.n := by rw [adv_n, opn_n]
  have e6 : (adv (opnP p)).l = p.l := e3.2.1
  have e7 : (adv (opnP p)).deep = p.deep + 1 := h3
  refine ⟨h2.adv, ⟨by have := hp.f; omega, by have := hp.d; omega, by rw [e5]; exact hp.n0, by have := hp.n; omega, by rw [e6]; exact hp.l⟩, ?_, by omega, e5, e6⟩
  unfold blkW
  rw [if_pos (by rw [h.isT]; rfl), if_pos h1]
theorem shut_s {f : Nat} {p : Pr} {ts : List Kt} (hp : okP p) (h : Sfx (stmtsW (stmF f) (adv (opnP p))).2 ts) (hb : blkW (stmF f) p = ((stmtsW (stmF f) (adv (opnP p))).1, shut (stmtsW (stmF f) (adv (opnP p))).2)) : Sfx (blkW (stmF f) p).2 ts := by
  have hn := blkW_nx (stm_nx f) hp
  refine ⟨hn.ok, ?_, ?_⟩
  · rw [hb]; exact h.e
  · rw [hb]; exact h.t
theorem stW_k {f : Nat} {p : Pr} : stmtsW (stmF f) p = stmtsL (stmF f) (p.l.length + 1) [] p := rfl
theorem nxt_n {p : Pr} (hp : okP p) (h : p.n < 200) (h0 : 0 ≤ p.n) : (nxt p).n = p.n + 1 := by
  show w64i (p.n + 1) = _
  unfold w64i; rw [wrap_i64 (by omega) (by omega)]
/-- a statement's step in numbers -/
theorem Pl.stm {p : Pr} {f d : Nat} (h : Pl p f d) (ho : okP p) (he : (stmF f p).2.e = 0) : Pl (stmF f p).2 f d := by
  have g := stm_nx f p ho
  obtain ⟨a1, a2, a3, a4⟩ := stm_hn f p ho h.f h.n0 h.n he
  exact ⟨by rw [g.d]; exact h.f, by rw [g.d]; exact h.d, by have := h.n0; omega, by have := h.n; omega, by rw [g.l]; exact h.l⟩
/-- the blocks of a statement with a head -/
theorem head_s {f d : Nat} {p : Pr} {w : List UInt8} {ts : List Kt} (h : Sfx p ((0, w) :: (2, [40]) :: (0, [120]) :: (2, [60]) :: (1, [49]) :: (2, [41]) :: (2, [123]) :: ts)) (hp : Pl p (f + 1) (d + 1)) : Sfx (wanP [41] (ifC (nxt p)).2) ((2, [123]) :: ts) ∧ Pl (wanP [41] (ifC (nxt p)).2) (f + 1) (d + 1) := by
  obtain ⟨h1, h2, h3, h4, h5⟩ := if_c (nxt_s h)
  have hn := nxt_n h.ok (hp.n2 h.ok) hp.n0
  have i1 := adv_i h.ok h.lt
  have h6 : p.i + 1 ≤ (wanP [41] (ifC (nxt p)).2).i := by
    have g1 := (nxt_s h).adv
    have e1 : wanP [40] (adv (nxt p)) = adv (adv (nxt p)) := g1.wan (by decide)
    have g2 := wan_nx (t := [40]) g1.ok
    have g3 := cdS_nx g2.ok
    have g4 := wan_nx (t := [41]) g3.ok
    have g5 := ((g2.trans g3).trans g4).i
    have i2 := adv_i (nxt_s h).ok (nxt_s h).lt
    have : (nxt p).i = p.i := rfl
    have : (wanP [41] (ifC (nxt p)).2).i = (wanP [41] (cdS (wanP [40] (adv (nxt p)))).2).i := rfl
    omega
  refine ⟨h1, ⟨?_, ?_, ?_, ?_, ?_⟩⟩
  · rw [h2]; exact hp.f
  · rw [h2]; exact hp.d
  · rw [h3, hn]; have := hp.n0; omega
  · rw [h3, hn]; have := hp.n; omega
  · rw [h4]; exact hp.l
theorem st_wh {p : Pr} {f : Nat} {ts : List Kt} (h : Sfx p ((0, tWhi) :: ts)) (hn : p.n < 200) : stmF (f + 1) p = (.mk 11 [] [] .nil .nil (ifC (nxt p)).1 [] (ifB (blkW (stmF f)) (nxt p)).1 [] p.n, (ifB (blkW (stmF f)) (nxt p)).2) := by
  have h' := nxt_s h
  simp only [stmF]
  rw [if_neg (fail_no hn)]
  unfold stmB
  rw [if_neg (by rw [h'.isT]; decide), if_neg (by rw [h'.isT]; decide), if_pos (by rw [h'.isT]; decide)]
theorem st_if {p : Pr} {f : Nat} {ts : List Kt} (h : Sfx p ((0, tIf) :: ts)) (hn : p.n < 200) (he : isT tElse (ifB (blkW (stmF f)) (nxt p)).2 = true) : stmF (f + 1) p = (.mk 10 [] [] .nil .nil (ifC (nxt p)).1 [] (ifB (blkW (stmF f)) (nxt p)).1 (blkW (stmF f) (adv (ifB (blkW (stmF f)) (nxt p)).2)).1 p.n, (blkW (stmF f) (adv (ifB (blkW (stmF f)) (nxt p)).2)).2) := by
  have h' := nxt_s h
  simp only [stmF]
  rw [if_neg (fail_no hn)]
  unfold stmB
  rw [if_neg (by rw [h'.isT]; decide), if_neg (by rw [h'.isT]; decide), if_neg (by rw [h'.isT]; decide), if_pos (by rw [h'.isT]; decide), if_pos he]
theorem bK_no : ∀ (l : List Nat) (a : Kt) (ts : List Kt), bK l = a :: ts → (a.1 != 1 && a.2 == [125]) = false
  | [], a, ts, h => by simp [bK] at h
  | 0 :: t, a, ts, h => by simp only [bK, kWh, List.cons_append, List.cons.injEq] at h; rw [← h.1]; decide
  | 1 :: t, a, ts, h => by simp only [bK, kIf, List.cons_append, List.cons.injEq] at h; rw [← h.1]; decide
  | 2 :: t, a, ts, h => by simp only [bK, kAs, List.cons_append, List.cons.injEq] at h; rw [← h.1]; decide
  | (k + 3) :: t, a, ts, h => by simp only [bK, kRe, List.cons_append, List.cons.injEq] at h; rw [← h.1]; decide
/-- what is read of a shape -/
theorem PB : ∀ (l : List Nat) (f : Nat) (p : Pr) (ts : List Kt) (k : Nat) (acc : List Sm), Sfx p (bK l ++ (2, [125]) :: ts) → Pl p f (l.length + 1) → (bK l).length + 1 ≤ k →
    ∃ r q, stmtsL (stmF f) k acc p = (acc ++ r, q) ∧ Shp l r ∧ Sfx q ts
  | [], f, p, ts, k, acc, h, hp, hk => by
    obtain ⟨k', rfl⟩ : ∃ k', k = k' + 1 := ⟨k - 1, by omega⟩
    refine ⟨[], adv p, ?_, .nil, h.adv⟩
    rw [stL_end h, List.append_nil]
  | 0 :: t, f, p, ts, k, acc, h, hp, hk => by
    obtain ⟨f', rfl⟩ : ∃ f', f = f' + 1 := ⟨f - 1, by have := hp.f; have := hp.d; simp only [List.length_cons] at *; omega⟩
    obtain ⟨k', rfl⟩ : ∃ k', k = k' + 1 + 1 := ⟨k - 2, by simp only [bK, kWh, List.length_append, List.length_cons] at hk; omega⟩
    have h0 : Sfx p ((0, tWhi) :: (2, [40]) :: (0, [120]) :: (2, [60]) :: (1, [49]) :: (2, [41]) :: (2, [123]) :: (bK t ++ (2, [125]) :: (2, [125]) :: ts)) := by
      have e : bK (0 :: t) ++ (2, [125]) :: ts = (0, tWhi) :: (2, [40]) :: (0, [120]) :: (2, [60]) :: (1, [49]) :: (2, [41]) :: (2, [123]) :: (bK t ++ (2, [125]) :: (2, [125]) :: ts) := by
        simp only [bK, kWh, kEn, List.cons_append, List.append_assoc, List.nil_append]
      rw [← e]; exact h
    obtain ⟨h1, p1⟩ := head_s h0 hp
    obtain ⟨h2, p2, e2, i2, n2, l2⟩ := blk_s h1 p1
    obtain ⟨r, q, hr, hs, hq⟩ := PB t f' _ ((2, [125]) :: ts) ((adv (opnP (wanP [41] (ifC (nxt p)).2))).l.length + 1) [] h2 p2 (by
      have q1 := h2.len; have q2 := h2.ok.1; simp only [List.length_append, List.length_cons] at q1; omega)
    rw [← stW_k] at hr
    have hsq : Sfx (blkW (stmF f') (wanP [41] (ifC (nxt p)).2)).2 ((2, [125]) :: ts) := shut_s h1.ok (by rw [hr]; exact hq) e2
    have hst := st_wh (f := f') h0 (hp.n2 h.ok)
    refine ⟨[(stmF (f' + 1) p).1], adv (stmF (f' + 1) p).2, ?_, ?_, ?_⟩
    · rw [stL_step h0 (by decide)]
      have : Sfx (stmF (f' + 1) p).2 ((2, [125]) :: ts) := by rw [hst]; exact hsq
      rw [stL_end this]
    · rw [hst]
      refine .wh rfl ?_
      show Shp t (blkW (stmF f') (wanP [41] (ifC (nxt p)).2)).1
      rw [e2, hr]; exact hs
    · rw [hst]; exact hsq.adv
  | 1 :: t, f, p, ts, k, acc, h, hp, hk => by
    obtain ⟨f', rfl⟩ : ∃ f', f = f' + 1 + 1 := ⟨f - 2, by have := hp.f; have := hp.d; simp only [List.length_cons] at *; omega⟩
    obtain ⟨k', rfl⟩ : ∃ k', k = k' + 1 + 1 := ⟨k - 2, by simp only [bK, kIf, List.length_append, List.length_cons] at hk; omega⟩
    have h0 : Sfx p ((0, tIf) :: (2, [40]) :: (0, [120]) :: (2, [60]) :: (1, [49]) :: (2, [41]) :: (2, [123]) :: (bK t ++ (2, [125]) :: (0, tElse) :: (2, [123]) :: (0, [120]) :: (2, [61]) :: (1, [50]) :: (2, [59]) :: (2, [125]) :: (2, [125]) :: ts)) := by
      have e : bK (1 :: t) ++ (2, [125]) :: ts = (0, tIf) :: (2, [40]) :: (0, [120]) :: (2, [60]) :: (1, [49]) :: (2, [41]) :: (2, [123]) :: (bK t ++ (2, [125]) :: (0, tElse) :: (2, [123]) :: (0, [120]) :: (2, [61]) :: (1, [50]) :: (2, [59]) :: (2, [125]) :: (2, [125]) :: ts) := by
        simp only [bK, kIf, kEl, List.cons_append, List.append_assoc, List.nil_append]
      rw [← e]; exact h
    obtain ⟨h1, p1⟩ := head_s h0 hp
    obtain ⟨h2, p2, e2, i2, n2, l2⟩ := blk_s h1 p1
    obtain ⟨r, q, hr, hs, hq⟩ := PB t (f' + 1) _ _ ((adv (opnP (wanP [41] (ifC (nxt p)).2))).l.length + 1) [] h2 p2 (by
      have q1 := h2.len; have q2 := h2.ok.1; simp only [List.length_append, List.length_cons] at q1; omega)
    rw [← stW_k] at hr
    have hsq : Sfx (blkW (stmF (f' + 1)) (wanP [41] (ifC (nxt p)).2)).2 ((0, tElse) :: (2, [123]) :: (0, [120]) :: (2, [61]) :: (1, [50]) :: (2, [59]) :: (2, [125]) :: (2, [125]) :: ts) := shut_s h1.ok (by rw [hr]; exact hq) e2
    have hel : isT tElse (ifB (blkW (stmF (f' + 1))) (nxt p)).2 = true := by
      show isT tElse (blkW (stmF (f' + 1)) (wanP [41] (ifC (nxt p)).2)).2 = true
      rw [hsq.isT]; decide
    have hst := st_if (f := f' + 1) h0 (hp.n2 h.ok) hel
    have hn1 := blkW_nx (stm_nx (f' + 1)) h1.ok
    obtain ⟨b1, b2, b3, b4⟩ := blkW_hs (stm_nx (f' + 1)) (stm_hn (f' + 1)) h1.ok p1.f p1.n0 p1.n hsq.e
    have h3 := hsq.adv
    have i3 := adv_i hsq.ok hsq.lt
    have p3 : Pl (adv (blkW (stmF (f' + 1)) (wanP [41] (ifC (nxt p)).2)).2) (f' + 1 + 1) (t.length + 1 + 1) := by
      refine ⟨?_, ?_, ?_, ?_, ?_⟩
      · show 41 ≤ (blkW (stmF (f' + 1)) (wanP [41] (ifC (nxt p)).2)).2.deep + _; rw [hn1.d]; exact p1.f
      · show (blkW (stmF (f' + 1)) (wanP [41] (ifC (nxt p)).2)).2.deep + _ ≤ _; rw [hn1.d]; exact p1.d
      · rw [adv_n]; have := p1.n0; omega
      · rw [adv_n]; have := p1.n; omega
      · show (blkW (stmF (f' + 1)) (wanP [41] (ifC (nxt p)).2)).2.l.length ≤ _; rw [hn1.l]; exact p1.l
    obtain ⟨h4, p4, e4, i4, n4, l4⟩ := blk_s h3 p3
    obtain ⟨s1, s2⟩ := st_as f' h4 (p4.n2 h4.ok)
    have hb2 : stmtsW (stmF (f' + 1)) (adv (opnP (adv (blkW (stmF (f' + 1)) (wanP [41] (ifC (nxt p)).2)).2))) = ([(stmF (f' + 1) (adv (opnP (adv (blkW (stmF (f' + 1)) (wanP [41] (ifC (nxt p)).2)).2)))).1], adv (stmF (f' + 1) (adv (opnP (adv (blkW (stmF (f' + 1)) (wanP [41] (ifC (nxt p)).2)).2)))).2) := by
      rw [stW_k, stL_step h4 (by decide)]
      obtain ⟨m, hm⟩ : ∃ m, (adv (opnP (adv (blkW (stmF (f' + 1)) (wanP [41] (ifC (nxt p)).2)).2))).l.length = m + 1 := ⟨(adv (opnP (adv (blkW (stmF (f' + 1)) (wanP [41] (ifC (nxt p)).2)).2))).l.length - 1, by have q1 := h4.len; have q2 := h4.ok.1; simp only [List.length_cons] at q1; omega⟩
      rw [hm, stL_end s1]; rfl
    have hsq2 : Sfx (blkW (stmF (f' + 1)) (adv (blkW (stmF (f' + 1)) (wanP [41] (ifC (nxt p)).2)).2)).2 ((2, [125]) :: ts) := shut_s h3.ok (by rw [hb2]; exact s1.adv) e4
    refine ⟨[(stmF (f' + 1 + 1) p).1], adv (stmF (f' + 1 + 1) p).2, ?_, ?_, ?_⟩
    · rw [stL_step h0 (by decide)]
      have : Sfx (stmF (f' + 1 + 1) p).2 ((2, [125]) :: ts) := by rw [hst]; exact hsq2
      rw [stL_end this]
    · rw [hst]
      refine .ite (e := (stmF (f' + 1) (adv (opnP (adv (blkW (stmF (f' + 1)) (wanP [41] (ifC (nxt p)).2)).2)))).1) rfl ?_ ?_ s2
      · show Shp t (blkW (stmF (f' + 1)) (wanP [41] (ifC (nxt p)).2)).1
        rw [e2, hr]; exact hs
      · show (blkW (stmF (f' + 1)) (adv (blkW (stmF (f' + 1)) (wanP [41] (ifC (nxt p)).2)).2)).1 = _
        rw [e4, hb2]
    · rw [hst]; exact hsq2.adv
  | 2 :: t, f, p, ts, k, acc, h, hp, hk => by
    obtain ⟨f', rfl⟩ : ∃ f', f = f' + 1 := ⟨f - 1, by have := hp.f; have := hp.d; simp only [List.length_cons] at *; omega⟩
    obtain ⟨k', rfl⟩ : ∃ k', k = k' + 1 := ⟨k - 1, by omega⟩
    have h0 : Sfx p ((0, [120]) :: (2, [61]) :: (1, [49]) :: (2, [59]) :: (bK t ++ (2, [125]) :: ts)) := by
      have e : bK (2 :: t) ++ (2, [125]) :: ts = (0, [120]) :: (2, [61]) :: (1, [49]) :: (2, [59]) :: (bK t ++ (2, [125]) :: ts) := by
        simp only [bK, kAs, List.cons_append, List.append_assoc, List.nil_append]
      rw [← e]; exact h
    obtain ⟨s1, s2⟩ := st_as f' h0 (hp.n2 h.ok)
    have p1 := hp.stm h.ok s1.e
    obtain ⟨r, q, hr, hs, hq⟩ := PB t (f' + 1) _ ts k' (acc ++ [(stmF (f' + 1) p).1]) s1 ⟨p1.f, by have := p1.d; simp only [List.length_cons] at this; omega, p1.n0, p1.n, p1.l⟩ (by
      simp only [bK, kAs, List.length_append, List.length_cons] at hk; omega)
    refine ⟨(stmF (f' + 1) p).1 :: r, q, ?_, .asg s2 hs, hq⟩
    rw [stL_step h0 (by decide), hr, List.append_assoc]; rfl
  | (j + 3) :: t, f, p, ts, k, acc, h, hp, hk => by
    obtain ⟨f', rfl⟩ : ∃ f', f = f' + 1 := ⟨f - 1, by have := hp.f; have := hp.d; simp only [List.length_cons] at *; omega⟩
    obtain ⟨k', rfl⟩ : ∃ k', k = k' + 1 := ⟨k - 1, by omega⟩
    have h0 : Sfx p ((0, [114, 101, 116, 117, 114, 110]) :: (0, [120]) :: (2, [59]) :: (bK t ++ (2, [125]) :: ts)) := by
      have e : bK ((j + 3) :: t) ++ (2, [125]) :: ts = (0, [114, 101, 116, 117, 114, 110]) :: (0, [120]) :: (2, [59]) :: (bK t ++ (2, [125]) :: ts) := by
        simp only [bK, kRe, List.cons_append, List.append_assoc, List.nil_append]
      rw [← e]; exact h
    obtain ⟨s1, s2⟩ := st_re f' h0 (hp.n2 h.ok)
    have p1 := hp.stm h.ok s1.e
    obtain ⟨r, q, hr, hs, hq⟩ := PB t (f' + 1) _ ts k' (acc ++ [(stmF (f' + 1) p).1]) s1 ⟨p1.f, by have := p1.d; simp only [List.length_cons] at this; omega, p1.n0, p1.n, p1.l⟩ (by
      simp only [bK, kRe, List.length_append, List.length_cons] at hk; omega)
    refine ⟨(stmF (f' + 1) p).1 :: r, q, ?_, .re s2 hs, hq⟩
    rw [stL_step h0 (by decide), hr, List.append_assoc]; rfl
theorem bK_len : ∀ l : List Nat, (bK l).length ≤ 15 * l.length
  | [] => Nat.le_refl _
  | 0 :: t => by have := bK_len t; simp only [bK, kWh, kEn, List.length_append, List.length_cons, List.length_nil]; omega
  | 1 :: t => by have := bK_len t; simp only [bK, kIf, kEl, List.length_append, List.length_cons, List.length_nil]; omega
  | 2 :: t => by have := bK_len t; simp only [bK, kAs, List.length_append, List.length_cons, List.length_nil]; omega
  | (k + 3) :: t => by have := bK_len t; simp only [bK, kRe, List.length_append, List.length_cons, List.length_nil]; omega
theorem bT_len : ∀ l : List Nat, (bT l).length ≤ 31 * l.length
  | [] => Nat.le_refl _
  | 0 :: t => by have := bT_len t; simp only [bT, pWh, pEn, List.length_append, List.length_cons, List.length_nil]; omega
  | 1 :: t => by have := bT_len t; simp only [bT, pIf, pEl, List.length_append, List.length_cons, List.length_nil]; omega
  | 2 :: t => by have := bT_len t; simp only [bT, pAs, List.length_append, List.length_cons, List.length_nil]; omega
  | (k + 3) :: t => by have := bT_len t; simp only [bT, pRe, List.length_append, List.length_cons, List.length_nil]; omega
theorem locB_no : ∀ (l : List Nat) {p : Pr}, Sfx p (bK l ++ [(2, [125])]) → locB p = false
  | [], p, h => by
    have h : Sfx p ((2, [125]) :: []) := h
    unfold locB; rw [h.isT, h.isT]; decide
  | 0 :: t, p, h => by
    simp only [bK, kWh, List.cons_append] at h
    unfold locB; rw [h.isT, h.isT]; decide
  | 1 :: t, p, h => by
    simp only [bK, kIf, List.cons_append] at h
    unfold locB; rw [h.isT, h.isT]; decide
  | 2 :: t, p, h => by
    simp only [bK, kAs, List.cons_append] at h
    unfold locB; rw [h.isT, h.isT]; decide
  | (k + 3) :: t, p, h => by
    simp only [bK, kRe, List.cons_append] at h
    unfold locB; rw [h.isT, h.isT]; decide
/-- the law's text is read, and as its shape says -/
theorem fun_s (l : List Nat) (hl : l.length ≤ 12) : (funF (fT l)).2.2 = 0 ∧ Shp l (funF (fT l)).1.body := by
  have hbl := bT_len l
  have hkl := bK_len l
  have hft : (fT l).length ≤ 4096 := by
    simp only [fT, pHd, pCl, List.length_append, List.length_cons, List.length_nil]; omega
  obtain ⟨T, e1, e2⟩ := rx_f l hft
  have hT : (rxT (fT l)).1 = T := by rw [e1]
  have hokp := p0_ok (fT l) ((fT l).length : Int)
  rw [hT] at hokp
  have hTl : T.length ≤ 195 := by
    have := congrArg List.length e2
    simp only [List.length_map, fK, kHd, List.length_append, List.length_cons, List.length_nil] at this
    omega
  have a0 : Sfx (p0 T ((fT l).length : Int)) ((0, tFn) :: (0, [102]) :: (2, [40]) :: (0, [120]) :: (2, [41]) :: (2, [123]) :: (bK l ++ [(2, [125])])) := ⟨hokp, rfl, by
    show (T.drop 0).map kt = _
    rw [List.drop_zero, e2]; rfl⟩
  have b1 : hdP T ((fT l).length : Int) = adv (p0 T ((fT l).length : Int)) := a0.wan (by decide)
  have a1 := a0.adv
  rw [← b1] at a1
  have b2 : namP (hdP T ((fT l).length : Int)) = adv (hdP T ((fT l).length : Int)) := a1.nam (by decide)
  have a2 := a1.adv
  have b3 : hd2 T ((fT l).length : Int) = adv (adv (hdP T ((fT l).length : Int))) := by
    unfold hd2; rw [b2]; exact a2.wan (by decide)
  have a3 := a2.adv
  rw [← b3] at a3
  have b4 : takP [42] (hd2 T ((fT l).length : Int)) = hd2 T ((fT l).length : Int) := by unfold takP; rw [if_neg (by rw [a3.isT]; decide)]
  have b5 : morP [] 6 (hd2 T ((fT l).length : Int)) = adv (hd2 T ((fT l).length : Int)) := by
    unfold morP morB; rw [if_neg (by rw [a3.nameB]; decide)]; exact a3.nam (by decide)
  have a4 := a3.adv
  have b6 : (fp3 T ((fT l).length : Int)).2 = adv (adv (hd2 T ((fT l).length : Int))) := by
    unfold fp3 parW
    rw [if_neg (by rw [a3.isT]; decide)]
    simp only [parL]
    rw [b4, b5, if_pos (by rw [a3.e]; rfl), if_pos (by rw [a4.isT]; decide)]
  have a5 := a4.adv
  rw [← b6] at a5
  have dp5 : (fp3 T ((fT l).length : Int)).2.deep = 0 := by rw [b6, b3, b1]; rfl
  have n5 : (fp3 T ((fT l).length : Int)).2.n = 0 := by rw [b6, b3, b1]; rfl
  have l5 : (fp3 T ((fT l).length : Int)).2.l = T := by rw [b6, b3, b1]; rfl
  obtain ⟨c1, c2, c3⟩ := opn_s a5 (by rw [dp5]; decide)
  have b7 : opeP (fp3 T ((fT l).length : Int)).2 = adv (opnP (fp3 T ((fT l).length : Int)).2) := by
    unfold opeP; rw [if_pos (by rw [a5.isT]; decide), if_pos c1]
  have a6 : Sfx (opeP (fp3 T ((fT l).length : Int)).2) (bK l ++ [(2, [125])]) := by rw [b7]; exact c2.adv
  have e6 := opn_l a5.ok c1
  have dp6 : (opeP (fp3 T ((fT l).length : Int)).2).deep = 1 := by rw [b7]; show (opnP (fp3 T ((fT l).length : Int)).2).deep = 1; rw [c3, dp5]; rfl
  have n6 : (opeP (fp3 T ((fT l).length : Int)).2).n = 0 := by rw [ope_n, n5]
  have l6 : (opeP (fp3 T ((fT l).length : Int)).2).l = T := by rw [b7]; exact e6.2.1.trans l5
  have b8 : (fp4 T ((fT l).length : Int)).2 = opeP (fp3 T ((fT l).length : Int)).2 := by
    have hno := locB_no l a6
    unfold fp4 locW
    cases (opeP (fp3 T ((fT l).length : Int)).2).l.length with
    | zero => rfl
    | succ k => simp only [locL]; rw [if_neg (by rw [hno]; decide)]
  have i0 : (opeP (fp3 T ((fT l).length : Int)).2).i ≥ 0 := a6.ok.1
  have hpl : Pl (opeP (fp3 T ((fT l).length : Int)).2) 41 (l.length + 1) := ⟨by rw [dp6]; decide, by rw [dp6]; omega, by rw [n6]; decide, by rw [n6]; exact i0, by rw [l6]; exact hTl⟩
  obtain ⟨r, q, hr, hs, hq⟩ := PB l 41 _ [] ((opeP (fp3 T ((fT l).length : Int)).2).l.length + 1) [] a6 hpl (by
    have q1 := a6.len
    simp only [List.length_append, List.length_cons, List.length_nil] at q1; omega)
  have b9 : fp5 T ((fT l).length : Int) = (r, q) := by
    unfold fp5; rw [b8]; exact hr
  have b10 : (fp6 T ((fT l).length : Int)) = q := by
    unfold fp6 endP
    rw [b9, if_neg]
    have := hq.nil
    simp; omega
  have hE : funF (fT l) = (⟨namS (hdP T ((fT l).length : Int)), (fp3 T ((fT l).length : Int)).1, (fp4 T ((fT l).length : Int)).1, r⟩, 0, 0) := by
    unfold funF
    rw [e1]
    dsimp only
    rw [if_neg (by decide), b10, if_neg (by rw [hq.e]; decide), b9]
  rw [hE]
  exact ⟨rfl, hs⟩
end Go.Proofs.Ytiipmaoonnjlpaa
