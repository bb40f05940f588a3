/- The tokens of words with blanks behind them. No conditions but those in each statement. -/
import Derived.Test.YtkbclcnbfahhkaaDoorLp4
set_option linter.unusedVariables false
set_option linter.unusedSimpArgs false
namespace Go.Proofs.YtkbclcnbfahhkaaDoor
open Go Go.Sy Go.RowKit

/-- the lexer, on what is left of the text -/
def lxS : Nat → Nat → List UInt8 → List Tok → List Tok × Int × Int
  | 0, _, _, out => (out, 0, 0)
  | f + 1, p, l, out =>
    if l.length = 0 then (out, 0, 0)
    else if decide (0 < blkI l) = true then lxS f (p + (blkI l).toNat) (l.drop (blkI l).toNat) out
    else if (!(tkE l == 0)) = true then ([], (p : Int), tkE l)
    else lxS f (p + (tkL l).toNat) (l.drop (tkL l).toNat) (out ++ [⟨tkK l, l.take (tkL l).toNat, (p : Int)⟩])
theorem lxF_lxS (s : List UInt8) : ∀ (n i nx f : Nat) (out : List Tok), s.length - i = n → i ≤ nx → nx ≤ s.length → s.length - nx ≤ f → lxF s n i nx out = lxS f nx (s.drop nx) out := by
  intro n
  induction n with
  | zero =>
    intro i nx f out h1 h2 h3 h4
    simp only [lxF]
    cases f with
    | zero => rfl
    | succ f => simp only [lxS]; rw [if_pos (by simp; omega)]
  | succ n ih =>
    intro i nx f out h1 h2 h3 h4
    simp only [lxF]
    by_cases hx : i < nx
    · rw [if_pos hx]; exact ih (i + 1) nx f out (by omega) hx h3 h4
    · obtain rfl : i = nx := by omega
      rw [if_neg hx]
      obtain ⟨f, rfl⟩ : ∃ g, f = g + 1 := ⟨f - 1, by omega⟩
      simp only [lxS]
      have hl : 0 < (s.drop i).length := by simp; omega
      have hlen : (s.drop i).length = s.length - i := List.length_drop ..
      rw [if_neg (show ¬ (s.drop i).length = 0 by omega)]
      obtain ⟨b1, b2⟩ := blk_le hl
      obtain ⟨t1, t2⟩ := tkL_le hl
      cases hb : decide (0 < blkI (s.drop i)) with
      | true =>
        have hb : 0 < blkI (s.drop i) := of_decide_eq_true hb
        simp only [↓reduceIte, List.drop_drop]
        exact ih (i + 1) (i + (blkI (s.drop i)).toNat) f out (by omega) (by omega) (by omega) (by omega)
      | false =>
        simp only [↓reduceIte, Bool.false_eq_true]
        cases he : (!(tkE (s.drop i) == 0)) with
        | true => simp only [↓reduceIte]
        | false =>
          have h0 := tkL_pos hl (by simpa using he)
          simp only [↓reduceIte, Bool.false_eq_true, List.drop_drop]
          exact ih (i + 1) (i + (tkL (s.drop i)).toNat) f _ (by omega) (by omega) (by omega) (by omega)
theorem lx_lxS (s : List UInt8) (h : s.length ≤ 4096) : lxT s = lxS s.length 0 s [] := by
  unfold lxT
  rw [if_neg (by simp; omega), lxF_lxS s s.length 0 0 s.length [] (by omega) (Nat.le_refl _) (Nat.zero_le _) (by omega), List.drop_zero]

abbrev wNames : List (List UInt8) := [[97], [98, 49], [95], [102, 110]]
abbrev wNums : List (List UInt8) := [[48], [49, 55]]
abbrev wOps : List (List UInt8) := [[61], [61, 61], [33, 61], [33], [60], [60, 61], [38], [38, 38], [124, 124], [40], [93], [44], [59], [42], [37]]
abbrev wBl : List UInt8 := [32, 10, 9]
theorem w_name : ∀ w ∈ wNames, ∀ c ∈ wBl, ∀ tl : List UInt8, blkI (w ++ c :: tl) = 0 ∧ tkE (w ++ c :: tl) = 0 ∧ tkK (w ++ c :: tl) = 0 ∧ tkL (w ++ c :: tl) = (w.length : Int) := by
  intro w hw c hc tl
  simp only [wNames, wBl, List.mem_cons, List.not_mem_nil, or_false] at hw hc
  rcases hw with rfl | rfl | rfl | rfl <;> rcases hc with rfl | rfl | rfl <;> exact ⟨rfl, rfl, rfl, rfl⟩
theorem numE_bl {l : List UInt8} (h1 : (decide (19 < ((numT l).length : Int)) || (((numT l).length : Int) == 19 && !(Op.bytesLess (numT l) great || numT l == great))) = false) (h2 : letB (chI l (numN l)) = false) (h3 : (chI l 0 == 48 && decide (1 < ((numN l : Nat) : Int))) = false) : numE l = 0 := by
  unfold numE
  rw [h1, h2, h3, Bool.and_false, Bool.or_false, if_neg (by decide), if_neg (by decide)]
theorem w_num : ∀ w ∈ wNums, ∀ c ∈ wBl, ∀ tl : List UInt8, blkI (w ++ c :: tl) = 0 ∧ tkE (w ++ c :: tl) = 0 ∧ tkK (w ++ c :: tl) = 1 ∧ tkL (w ++ c :: tl) = (w.length : Int) := by
  intro w hw c hc tl
  have key : ∀ l : List UInt8, letB (chI l 0) = false → digB (chI l 0) = true → numE l = 0 → (numN l : Int) = (w.length : Int) → tkE l = 0 ∧ tkK l = 1 ∧ tkL l = (w.length : Int) := fun l h1 h2 h3 h4 => by
    unfold tkE tkK tkL numK numL
    rw [h1, h2, h3]
    exact ⟨rfl, rfl, by simpa using h4⟩
  simp only [wNums, wBl, List.mem_cons, List.not_mem_nil, or_false] at hw hc
  rcases hw with rfl | rfl <;> rcases hc with rfl | rfl | rfl <;> exact ⟨rfl, key _ rfl rfl (numE_bl rfl rfl rfl) rfl⟩
def twoL (t : List UInt8) : Bool := t == [61, 61] || t == [33, 61] || t == [60, 61] || t == [62, 61] || t == [38, 38] || t == [124, 124]
theorem opI_len {l : List UInt8} (h : 2 ≤ l.length) : opI l = if twoL (l.take 2) = true then 2 else if decide (0 ≤ Lib.indexByte [61, 60, 62, 43, 45, 42, 47, 37, 38, 33, 40, 41, 123, 125, 91, 93, 44, 59] (chI l 0).toNat.toUInt8) = true then 1 else 0 := by
  unfold opI twoL
  rw [show decide (2 ≤ (l.length : Int)) = true by simp; omega, Bool.true_and]
def opV (t2 : List UInt8) (b0 : UInt8) : Int := if twoL t2 = true then 2 else if decide (0 ≤ Lib.indexByte [61, 60, 62, 43, 45, 42, 47, 37, 38, 33, 40, 41, 123, 125, 91, 93, 44, 59] ((b0.toNat : Int).toNat.toUInt8)) = true then 1 else 0
theorem w_op : ∀ w ∈ wOps, ∀ c ∈ wBl, ∀ tl : List UInt8, blkI (w ++ c :: tl) = 0 ∧ tkE (w ++ c :: tl) = 0 ∧ tkK (w ++ c :: tl) = 2 ∧ tkL (w ++ c :: tl) = (w.length : Int) := by
  intro w hw c hc tl
  have key : ∀ (l t2 : List UInt8) (b0 : UInt8), l.take 2 = t2 → l.getD 0 0 = b0 → 2 ≤ l.length → letB (b0.toNat : Int) = false → digB (b0.toNat : Int) = false → opV t2 b0 = (w.length : Int) → 0 < w.length → tkE l = 0 ∧ tkK l = 2 ∧ tkL l = (w.length : Int) := fun l t2 b0 e1 e2 h3 h1 h2 h4 h5 => by
    have h6 : opI l = (w.length : Int) := (opI_len h3).trans (by rw [e1, show chI l 0 = (b0.toNat : Int) by unfold chI; rw [e2]]; exact h4)
    have h1 : letB (chI l 0) = false := by unfold chI; rw [e2]; exact h1
    have h2 : digB (chI l 0) = false := by unfold chI; rw [e2]; exact h2
    unfold tkE tkK tkL
    rw [h1, h2, h6, show ((w.length : Int) == 0) = false by rw [beq_eq_false_iff_ne]; omega]
    exact ⟨rfl, rfl, rfl⟩
  simp only [wOps, wBl, List.mem_cons, List.not_mem_nil, or_false] at hw hc
  rcases hw with rfl | rfl | rfl | rfl | rfl | rfl | rfl | rfl | rfl | rfl | rfl | rfl | rfl | rfl | rfl <;> rcases hc with rfl | rfl | rfl <;> exact ⟨rfl, key _ _ _ rfl rfl (by simp) (by kernel_rfl) (by kernel_rfl) (by kernel_rfl) (by decide)⟩
def wrds : List (List UInt8) := [[97], [98, 49], [95], [48], [49, 55], [61], [61, 61], [33, 61], [33], [60], [60, 61], [38], [38, 38], [124, 124], [40], [93], [44], [59], [102, 110], [42], [37]]
def blks : List (List UInt8) := [[32], [10], [9, 13, 32], [32, 35, 32, 120, 32, 61, 32, 49, 10], [32, 32]]
def wd (a : Nat) : List UInt8 := wrds.getD a []
def bl (b : Nat) : List UInt8 := blks.getD b []
def kd (w : List UInt8) : Int := if (decide (48 ≤ chI w 0) && decide (chI w 0 ≤ 57)) = true then 1 else if (decide (97 ≤ chI w 0) && decide (chI w 0 ≤ 122) || chI w 0 == 95) = true then 0 else 2
theorem w_at : ∀ a, a < 21 → ∀ c ∈ wBl, ∀ tl : List UInt8, blkI (wd a ++ c :: tl) = 0 ∧ tkE (wd a ++ c :: tl) = 0 ∧ tkK (wd a ++ c :: tl) = kd (wd a) ∧ tkL (wd a ++ c :: tl) = ((wd a).length : Int) := by
  intro a ha c hc tl
  have h : ((wd a ∈ wNames ∧ kd (wd a) = 0) ∨ (wd a ∈ wNums ∧ kd (wd a) = 1)) ∨ (wd a ∈ wOps ∧ kd (wd a) = 2) := by
    revert a
    decide
  rcases h with (⟨h, e⟩ | ⟨h, e⟩) | ⟨h, e⟩
  · rw [e]; exact w_name _ h c hc tl
  · rw [e]; exact w_num _ h c hc tl
  · rw [e]; exact w_op _ h c hc tl
theorem bl_head : ∀ b, b < 5 → ∃ c ∈ wBl, ∃ t, bl b = c :: t := by
  intro b hb
  match b with
  | 0 => exact ⟨32, by decide, _, rfl⟩
  | 1 => exact ⟨10, by decide, _, rfl⟩
  | 2 => exact ⟨9, by decide, _, rfl⟩
  | 3 => exact ⟨32, by decide, _, rfl⟩
  | 4 => exact ⟨32, by decide, _, rfl⟩
  | n + 5 => omega
theorem lxS_blank {c : UInt8} (hc : blkI [c] = 1) (hc' : ∀ r, blkI (c :: r) = blkI [c]) {f p : Nat} {r : List UInt8} {out : List Tok} (hf : (c :: r).length ≤ f) : ∃ g, r.length ≤ g ∧ lxS f p (c :: r) out = lxS g (p + 1) r out := by
  obtain ⟨g, rfl⟩ : ∃ g, f = g + 1 := ⟨f - 1, by simp at hf; omega⟩
  refine ⟨g, by simpa using hf, ?_⟩
  simp only [lxS]
  rw [if_neg (by simp), hc' r, hc, if_pos (by decide)]
  rfl
theorem bl_at : ∀ b, b < 5 → ∀ (f p : Nat) (r : List UInt8) (out : List Tok), (bl b ++ r).length ≤ f → ∃ g, r.length ≤ g ∧ lxS f p (bl b ++ r) out = lxS g (p + (bl b).length) r out := by
  intro b hb f p r out hf
  have h32 : blkI [32] = 1 := rfl
  match b with
  | 0 => exact lxS_blank rfl (fun _ => rfl) hf
  | 1 => exact lxS_blank rfl (fun _ => rfl) hf
  | 2 =>
    obtain ⟨g, g1, g2⟩ := lxS_blank (c := 9) (r := 13 :: 32 :: r) (p := p) (out := out) rfl (fun _ => rfl) hf
    obtain ⟨h, h1, h2⟩ := lxS_blank (c := 13) (r := 32 :: r) (p := p + 1) (out := out) rfl (fun _ => rfl) g1
    obtain ⟨k, k1, k2⟩ := lxS_blank (c := 32) (r := r) (p := p + 1 + 1) (out := out) rfl (fun _ => rfl) h1
    exact ⟨k, k1, g2.trans (h2.trans k2)⟩
  | 3 =>
    obtain ⟨g, g1, g2⟩ := lxS_blank (c := 32) (r := 35 :: 32 :: 120 :: 32 :: 61 :: 32 :: 49 :: 10 :: r) (p := p) (out := out) rfl (fun _ => rfl) hf
    obtain ⟨h, rfl⟩ : ∃ h, g = h + 1 := ⟨g - 1, by simp at g1; omega⟩
    have h2 : lxS (h + 1) (p + 1) (35 :: 32 :: 120 :: 32 :: 61 :: 32 :: 49 :: 10 :: r) out = lxS h (p + 1 + 7) (10 :: r) out := by
      simp only [lxS]
      have e : blkI (35 :: 32 :: 120 :: 32 :: 61 :: 32 :: 49 :: 10 :: r) = 7 := rfl
      rw [if_neg (by simp), e, if_pos (by decide)]
      rfl
    obtain ⟨k, k1, k2⟩ := lxS_blank (c := 10) (r := r) (p := p + 1 + 7) (out := out) (f := h) rfl (fun _ => rfl) (by simp at g1 ⊢; omega)
    exact ⟨k, k1, g2.trans (h2.trans k2)⟩
  | 4 =>
    obtain ⟨g, g1, g2⟩ := lxS_blank (c := 32) (r := 32 :: r) (p := p) (out := out) rfl (fun _ => rfl) hf
    obtain ⟨k, k1, k2⟩ := lxS_blank (c := 32) (r := r) (p := p + 1) (out := out) rfl (fun _ => rfl) g1
    exact ⟨k, k1, g2.trans k2⟩
  | n + 5 => omega

def sLB (q : List (Nat × Nat)) : List UInt8 := q.flatMap fun x => wd x.1 ++ bl x.2
def tks : Nat → List (Nat × Nat) → List Tok
  | _, [] => []
  | p, x :: q => ⟨kd (wd x.1), wd x.1, (p : Int)⟩ :: tks (p + (wd x.1).length + (bl x.2).length) q
abbrev okQ (q : List (Nat × Nat)) : Prop := ∀ x ∈ q, x.1 < 21 ∧ x.2 < 5
theorem wd_len : ∀ a, a < 21 → 1 ≤ (wd a).length ∧ (wd a).length ≤ 2 := by decide
theorem bl_len : ∀ b, b < 5 → 1 ≤ (bl b).length ∧ (bl b).length ≤ 9 := by decide
theorem lxS_words : ∀ (q : List (Nat × Nat)) (f p : Nat) (out : List Tok), okQ q → (sLB q).length ≤ f → lxS f p (sLB q) out = (out ++ tks p q, 0, 0)
  | [], f, p, out, _, _ => by
    simp only [tks, List.append_nil, sLB, List.flatMap_nil]
    cases f with
    | zero => rfl
    | succ f => simp only [lxS]; rw [if_pos List.length_nil]
  | x :: q, f, p, out, hq, hf => by
    obtain ⟨hx1, hx2⟩ := hq x (List.mem_cons_self ..)
    have hq' : okQ q := fun y hy => hq y (List.mem_cons_of_mem _ hy)
    have e0 : sLB (x :: q) = wd x.1 ++ (bl x.2 ++ sLB q) := by simp [sLB]
    rw [e0] at hf ⊢
    obtain ⟨c, hc, t, ht⟩ := bl_head x.2 hx2
    obtain ⟨h1, h2, h3, h4⟩ := w_at x.1 hx1 c hc (t ++ sLB q)
    have e1 : wd x.1 ++ (bl x.2 ++ sLB q) = wd x.1 ++ c :: (t ++ sLB q) := by rw [ht]; rfl
    obtain ⟨l1, l2⟩ := wd_len x.1 hx1
    simp only [List.length_append] at hf
    obtain ⟨g, rfl⟩ : ∃ g, f = g + 1 := ⟨f - 1, by omega⟩
    simp only [lxS]
    rw [e1, if_neg (by simp), h1, if_neg (by decide), h2, if_neg (by decide), h3, h4, Int.toNat_natCast, ← e1, List.drop_left, List.take_left]
    obtain ⟨k, k1, k2⟩ := bl_at x.2 hx2 g (p + (wd x.1).length) (sLB q) (out ++ [⟨kd (wd x.1), wd x.1, (p : Int)⟩]) (by simp only [List.length_append]; omega)
    rw [k2, lxS_words q k _ _ hq' k1]
    simp [tks]
theorem sLB_len : ∀ (q : List (Nat × Nat)), okQ q → (sLB q).length ≤ 11 * q.length
  | [], _ => Nat.le_refl _
  | x :: q, hq => by
    obtain ⟨hx1, hx2⟩ := hq x (List.mem_cons_self ..)
    have h1 := wd_len x.1 hx1
    have h2 := bl_len x.2 hx2
    have h3 := sLB_len q fun y hy => hq y (List.mem_cons_of_mem _ hy)
    have e0 : sLB (x :: q) = wd x.1 ++ (bl x.2 ++ sLB q) := by simp [sLB]
    rw [e0]; simp only [List.length_append, List.length_cons]; omega
theorem lx_words (q : List (Nat × Nat)) (h : okQ q) (hl : q.length ≤ 60) : lxT (sLB q) = (tks 0 q, 0, 0) := by
  have := sLB_len q h
  rw [lx_lxS _ (by omega), lxS_words q _ 0 [] h (Nat.le_refl _)]
  rfl
theorem tks_len : ∀ (q : List (Nat × Nat)) (p : Nat), (tks p q).length = q.length
  | [], _ => rfl
  | x :: q, p => by simp only [tks, List.length_cons, tks_len q]
theorem tks_at : ∀ (q : List (Nat × Nat)) (p j : Nat) (x : Nat × Nat), q[j]? = some x → (tks p q)[j]? = some ⟨kd (wd x.1), wd x.1, ((p + (sLB (q.take j)).length : Nat) : Int)⟩
  | [], _, _, _, h => by simp at h
  | y :: q, p, 0, x, h => by
    obtain rfl : y = x := by simpa using h
    rfl
  | y :: q, p, j + 1, x, h => by
    simp only [List.getElem?_cons_succ] at h
    simp only [tks, List.getElem?_cons_succ, List.take_succ_cons]
    rw [tks_at q _ j x h]
    have e0 : sLB (y :: q.take j) = wd y.1 ++ (bl y.2 ++ sLB (q.take j)) := by simp [sLB]
    rw [e0]
    simp only [List.length_append]
    congr 2
    omega
/-- where the j-th word stands -/
theorem sLB_at (q : List (Nat × Nat)) (j : Nat) (x : Nat × Nat) (h : q[j]? = some x) : (sLB q).drop (sLB (q.take j)).length = wd x.1 ++ (bl x.2 ++ sLB (q.drop (j + 1))) ∧ sLB (q.take (j + 1)) = sLB (q.take j) ++ wd x.1 ++ bl x.2 := by
  have e1 : sLB q = sLB (q.take j) ++ sLB (q.drop j) := by
    show q.flatMap _ = (q.take j).flatMap _ ++ (q.drop j).flatMap _
    rw [← List.flatMap_append, List.take_append_drop]
  have e2 : sLB (q.drop j) = wd x.1 ++ (bl x.2 ++ sLB (q.drop (j + 1))) := by rw [drop_get h]; simp [sLB]
  refine ⟨by rw [e1, List.drop_left, e2], ?_⟩
  obtain ⟨hj, hx⟩ := List.getElem?_eq_some_iff.1 h
  rw [List.take_add_one, h]
  simp [sLB]
end Go.Proofs.YtkbclcnbfahhkaaDoor
