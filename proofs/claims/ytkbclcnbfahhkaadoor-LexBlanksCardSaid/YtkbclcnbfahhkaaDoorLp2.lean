/- Plain laws of the lexers: both read alike. No conditions but those in each statement. -/
import Derived.Test.YtkbclcnbfahhkaaDoorLp1
set_option linter.unusedVariables false
set_option linter.unusedSimpArgs false
namespace Go.Proofs.YtkbclcnbfahhkaaDoor
open Go Go.Sy Go.RowKit

theorem chI_drop (s : List UInt8) (i j : Nat) : chI (s.drop i) j = chI s (i + j) := by
  unfold chI; simp [List.getD, List.getElem?_drop]
theorem ixB_span : ∀ l : List UInt8, (Lib.indexByte l (Nat.toUInt8 10) = -1 ∧ spanN nlB l = l.length) ∨ Lib.indexByte l (Nat.toUInt8 10) = (spanN nlB l : Nat)
  | [] => .inl ⟨rfl, rfl⟩
  | b :: r => by
    have e : (b == Nat.toUInt8 10) = ((b.toNat : Int) == 10) := by
      rw [Bool.eq_iff_iff, beq_iff_eq, beq_iff_eq]
      constructor
      · rintro rfl; rfl
      · intro h; apply UInt8.toNat_inj.1; have : b.toNat = 10 := by omega
        rw [this]; rfl
    show (if (b == Nat.toUInt8 10) = true then 0 else if (Lib.indexByte r (Nat.toUInt8 10) == -1) = true then -1 else Lib.indexByte r (Nat.toUInt8 10) + 1) = -1 ∧ (if (!((b.toNat : Int) == 10)) = true then spanN nlB r + 1 else 0) = r.length + 1 ∨ (if (b == Nat.toUInt8 10) = true then 0 else if (Lib.indexByte r (Nat.toUInt8 10) == -1) = true then -1 else Lib.indexByte r (Nat.toUInt8 10) + 1) = ((if (!((b.toNat : Int) == 10)) = true then spanN nlB r + 1 else 0 : Nat) : Int)
    rw [e]
    generalize ((b.toNat : Int) == 10) = X
    cases X with
    | true => simp
    | false =>
      simp only [if_false, Bool.not_false, if_true, Bool.false_eq_true]
      rcases ixB_span r with ⟨h1, h2⟩ | h1
      · left; rw [h1, h2]; exact ⟨rfl, rfl⟩
      · right
        rw [h1]
        rw [if_neg (by rw [beq_iff_eq]; omega)]
        rfl
theorem blk_cases (l : List UInt8) (h : 0 < l.length) : (blB (chI l 0) = true ∧ blkI l = 1) ∨ (blB (chI l 0) = false ∧ (chI l 0 == 35) = true ∧ blkI l = (spanN nlB l : Nat) ∧ 0 < spanN nlB l) ∨ (blB (chI l 0) = false ∧ (chI l 0 == 35) = false ∧ blkI l = 0) := by
  unfold blkI
  cases h1 : blB (chI l 0) with
  | true => left; unfold blB at h1; rw [if_pos h1]; exact ⟨rfl, rfl⟩
  | false =>
    right
    unfold blB at h1
    rw [if_neg (by rw [h1]; decide)]
    cases h2 : (chI l 0 == 35) with
    | false => right; exact ⟨rfl, rfl, by simp⟩
    | true =>
      left
      refine ⟨rfl, rfl, ?_⟩
      rw [if_pos rfl]
      have hp : 0 < spanN nlB l := by
        have := spanN_at nlB h
        rw [List.drop_zero] at this
        have hc : ((l.getD 0 0).toNat : Int) = 35 := beq_iff_eq.1 h2
        rw [if_pos (show nlB _ = true by show (!(((l.getD 0 0).toNat : Int) == 10)) = true; rw [hc]; rfl)] at this
        omega
      rcases ixB_span l with ⟨h3, h4⟩ | h3
      · rw [h3, if_neg (by decide), h4]
        exact ⟨rfl, by omega⟩
      · rw [h3, if_pos (by simp)]
        exact ⟨rfl, hp⟩
theorem span_head (p : Int → Bool) {l : List UInt8} (h : 0 < l.length) (hp : p (chI l 0) = true) : spanN p l = 1 + spanN p (l.drop 1) := by
  have := spanN_at p h
  rw [List.drop_zero, if_pos hp, Nat.zero_add] at this
  omega
theorem signs_eq (c : Int) (h0 : 0 ≤ c) (h1 : c < 256) : decide (0 ≤ Lib.indexByte signs c.toNat.toUInt8) = oneB signs c := by
  obtain ⟨n, rfl⟩ := Int.eq_ofNat_of_zero_le h0
  have hn : n < 256 := by omega
  have key : ∀ l : List UInt8, decide (0 ≤ Lib.indexByte l ((n : Int).toNat.toUInt8)) = oneB l (n : Int) := by
    intro l
    induction l with
    | nil => rfl
    | cons b r ih =>
      have e : (b == (n : Int).toNat.toUInt8) = ((b.toNat : Int) == (n : Int)) := by
        rw [Int.toNat_natCast, Bool.eq_iff_iff, beq_iff_eq, beq_iff_eq]
        constructor
        · rintro rfl; simp [Nat.toUInt8, UInt8.toNat_ofNat']; omega
        · intro h; apply UInt8.toNat_inj.1
          have : b.toNat = n := by omega
          simp [Nat.toUInt8, UInt8.toNat_ofNat']; omega
      simp only [Lib.indexByte, oneB, List.any_cons, e]
      by_cases h : ((b.toNat : Int) == (n : Int)) = true
      · simp [h]
      · simp only [h, if_false, Bool.false_or]
        rw [← show oneB r (n : Int) = r.any fun b => ((b.toNat : Nat) : Int) == (n : Int) from rfl, ← ih]
        have := Lib.indexByte_ge r ((n : Int).toNat.toUInt8)
        by_cases h2 : (Lib.indexByte r ((n : Int).toNat.toUInt8) == -1) = true
        · rw [if_pos h2]
          simp only [beq_iff_eq] at h2
          rw [h2]; rfl
        · rw [if_neg h2]
          simp only [beq_iff_eq] at h2
          rw [Bool.eq_iff_iff]; simp only [decide_eq_true_eq]; omega
  exact key signs
theorem ch_rg (l : List UInt8) (i : Nat) : 0 ≤ chI l i ∧ chI l i < 256 := by
  have := (l.getD i 0).toNat_lt
  unfold chI; omega
theorem let_not_dig {c : Int} (h : letB c = true) : digB c = false := by
  unfold letB at h; unfold digB
  simp only [Bool.or_eq_true, Bool.and_eq_true, decide_eq_true_eq, beq_iff_eq] at h
  rw [← Bool.not_eq_true]
  simp only [Bool.and_eq_true, decide_eq_true_eq]
  omega
theorem numE_eq (l : List UInt8) (h : 0 < l.length) (hd : digB (chI l 0) = true) : numN l = spanN digB l ∧ numE l = if greB l = true then 53 else if (decide (((numN l : Nat) : Int) < (l.length : Int)) && letB (chI l (numN l)) || (chI l 0 == 48 && decide (1 < ((numN l : Nat) : Int)))) = true then 50 else 0 := by
  have hN : numN l = spanN digB l := by rw [span_head digB h hd]; rfl
  refine ⟨hN, ?_⟩
  unfold numE
  have hg : (decide (19 < ((numT l).length : Int)) || (((numT l).length : Int) == 19 && !(Op.bytesLess (numT l) great || numT l == great))) = greB l := by
    unfold numT greB
    have hdg : ∀ b ∈ l.take (numN l), dig b := by
      intro b hb
      rw [hN] at hb
      exact (dig_iff b).1 (span_all digB l b hb)
    rw [great_eq _ hdg]
    have := dgF_val (l.take (numN l)) 0 false hdg (by omega)
    rw [Bool.false_or] at this
    rw [← this]
    show gre _ = gre (dgF l 0 false)
    rw [dgF_span l, hN]; rfl
  rw [hg]
theorem opI_two (s : List UInt8) (i : Nat) (h : i < s.length) : opI (s.drop i) = if twoB s i = true then 2 else if oneB signs (chI s i) = true then 1 else 0 := by
  unfold opI twoB
  have e : decide (2 ≤ ((s.drop i).length : Int)) = decide (((i + 2 : Nat) : Int) ≤ (s.length : Int)) := by
    rw [List.length_drop, Bool.eq_iff_iff]; simp only [decide_eq_true_eq]; omega
  have hr := ch_rg (s.drop i) 0
  rw [e, signs_eq _ hr.1 hr.2, chI_drop]
  rfl
theorem lx_rx_at (s : List UInt8) : ∀ (n i nx f : Nat) (out : List Tok), s.length - i = n → i ≤ nx → nx ≤ s.length → s.length - nx ≤ f → lxF s n i nx out = rxF s f nx out := by
  intro n
  induction n with
  | zero =>
    intro i nx f out h1 h2 h3 h4
    simp only [lxF]
    cases f with
    | zero => rfl
    | succ f => simp only [rxF]; rw [if_pos (by omega)]
  | succ n ih =>
    intro i nx f out h1 h2 h3 h4
    simp only [lxF]
    by_cases hx : i < nx
    · rw [if_pos hx]; exact ih (i + 1) nx f out (by omega) hx h3 h4
    · obtain rfl : i = nx := by omega
      rw [if_neg hx]
      obtain ⟨f, rfl⟩ : ∃ g, f = g + 1 := ⟨f - 1, by omega⟩
      simp only [rxF]
      have hlt : i < s.length := by omega
      rw [if_neg (show ¬ s.length ≤ i by omega)]
      have hl : 0 < (s.drop i).length := by simp; omega
      have e0 : chI s i = chI (s.drop i) 0 := by rw [chI_drop]; rfl
      have hlen : (s.drop i).length = s.length - i := List.length_drop ..
      rcases blk_cases (s.drop i) hl with ⟨b1, b2⟩ | ⟨b1, b2, b3, b4⟩ | ⟨b1, b2, b3⟩
      · rw [b2, if_pos (by decide), if_pos (show blB (chI s i) = true by rw [e0]; exact b1)]
        exact ih (i + 1) (i + 1) f out (by omega) (by omega) (by omega) (by omega)
      · have hk := spanN_le nlB (s.drop i)
        rw [b3, if_pos (by simp; omega), if_neg (show ¬ blB (chI s i) = true by rw [e0, b1]; decide), if_pos (show (chI s i == 35) = true by rw [e0]; exact b2), Int.toNat_natCast]
        exact ih (i + 1) _ f out (by omega) (by omega) (by omega) (by omega)
      · rw [b3, if_neg (by decide), if_neg (show ¬ blB (chI s i) = true by rw [e0, b1]; decide), if_neg (show ¬ (chI s i == 35) = true by rw [e0, b2]; decide)]
        cases hL : letB (chI s i) with
        | true =>
          have hL' : letB (chI (s.drop i) 0) = true := by rw [← e0]; exact hL
          have hN : idN (s.drop i) = spanN idB (s.drop i) := by rw [span_head idB hl (show (letB _ || digB _) = true by rw [hL']; rfl)]; rfl
          have hk := spanN_le idB (s.drop i)
          have hp : 0 < spanN idB (s.drop i) := by rw [← hN]; unfold idN; omega
          have t1 : tkE (s.drop i) = if decide (32 < ((spanN idB (s.drop i) : Nat) : Int)) = true then 53 else 0 := by unfold tkE; rw [if_pos hL', hN]
          have t2 : tkK (s.drop i) = 0 := by unfold tkK; rw [if_pos hL']
          have t3 : tkL (s.drop i) = if decide (32 < ((spanN idB (s.drop i) : Nat) : Int)) = true then 0 else ((spanN idB (s.drop i) : Nat) : Int) := by unfold tkL; rw [if_pos hL', hN]
          rw [if_pos rfl, t1, t2, t3]
          cases hg : decide (32 < ((spanN idB (s.drop i) : Nat) : Int)) with
          | true => rfl
          | false =>
            show lxF s n (i + 1) (i + (((spanN idB (s.drop i) : Nat) : Int)).toNat) (out ++ [⟨0, (s.drop i).take (((spanN idB (s.drop i) : Nat) : Int)).toNat, (i : Int)⟩]) = rxF s f (i + spanN idB (s.drop i)) (out ++ [⟨0, (s.drop i).take (spanN idB (s.drop i)), (i : Int)⟩])
            rw [Int.toNat_natCast]
            exact ih (i + 1) _ f _ (by omega) (by omega) (by omega) (by omega)
        | false =>
          have hL' : letB (chI (s.drop i) 0) = false := by rw [← e0]; exact hL
          rw [if_neg Bool.false_ne_true]
          cases hD : digB (chI s i) with
          | true =>
            have hD' : digB (chI (s.drop i) 0) = true := by rw [← e0]; exact hD
            obtain ⟨hN, hE⟩ := numE_eq (s.drop i) hl hD'
            have hk := spanN_le digB (s.drop i)
            have hp : 0 < spanN digB (s.drop i) := by rw [← hN]; unfold numN; omega
            have t1 : tkE (s.drop i) = numE (s.drop i) := by unfold tkE; rw [if_neg (by rw [hL']; decide), if_pos hD']
            have t2 : tkK (s.drop i) = numK (s.drop i) := by unfold tkK; rw [if_neg (by rw [hL']; decide), if_pos hD']
            have t3 : tkL (s.drop i) = numL (s.drop i) := by unfold tkL; rw [if_neg (by rw [hL']; decide), if_pos hD']
            have e1 : (decide (((numN (s.drop i) : Nat) : Int) < ((s.drop i).length : Int)) && letB (chI (s.drop i) (numN (s.drop i))) || (chI (s.drop i) 0 == 48 && decide (1 < ((numN (s.drop i) : Nat) : Int)))) = (decide (((i + spanN digB (s.drop i) : Nat) : Int) < (s.length : Int)) && letB (chI s (i + spanN digB (s.drop i))) || (chI s i == 48 && decide (1 < ((spanN digB (s.drop i) : Nat) : Int)))) := by
              rw [hN, chI_drop, chI_drop, Nat.add_zero, hlen]
              congr 2
              rw [Bool.eq_iff_iff]; simp only [decide_eq_true_eq]; omega
            rw [e1] at hE
            rw [if_pos rfl, t1, t2, t3]
            unfold numK numL
            rw [hE, hN]
            cases hg : greB (s.drop i) with
            | true => rfl
            | false =>
              generalize (decide (((i + spanN digB (s.drop i) : Nat) : Int) < (s.length : Int)) && letB (chI s (i + spanN digB (s.drop i))) || (chI s i == 48 && decide (1 < ((spanN digB (s.drop i) : Nat) : Int)))) = z
              cases z with
              | true => rfl
              | false =>
                show lxF s n (i + 1) (i + (((spanN digB (s.drop i) : Nat) : Int)).toNat) (out ++ [⟨1, (s.drop i).take (((spanN digB (s.drop i) : Nat) : Int)).toNat, (i : Int)⟩]) = rxF s f (i + spanN digB (s.drop i)) (out ++ [⟨1, (s.drop i).take (spanN digB (s.drop i)), (i : Int)⟩])
                rw [Int.toNat_natCast]
                exact ih (i + 1) _ f _ (by omega) (by omega) (by omega) (by omega)
          | false =>
            have hD' : digB (chI (s.drop i) 0) = false := by rw [← e0]; exact hD
            have t1 : tkE (s.drop i) = if (opI (s.drop i) == 0) = true then 50 else 0 := by unfold tkE; rw [if_neg (by rw [hL']; decide), if_neg (by rw [hD']; decide)]
            have t2 : tkK (s.drop i) = if (opI (s.drop i) == 0) = true then 0 else 2 := by unfold tkK; rw [if_neg (by rw [hL']; decide), if_neg (by rw [hD']; decide)]
            have t3 : tkL (s.drop i) = opI (s.drop i) := by unfold tkL; rw [if_neg (by rw [hL']; decide), if_neg (by rw [hD']; decide)]
            rw [if_neg Bool.false_ne_true, t1, t2, t3, opI_two s i hlt]
            cases hT : twoB s i with
            | true =>
              have h2 : i + 2 ≤ s.length := by
                have := and_l hT
                simp only [decide_eq_true_eq] at this
                omega
              show lxF s n (i + 1) (i + 2) (out ++ [⟨2, (s.drop i).take 2, (i : Int)⟩]) = rxF s f (i + 2) (out ++ [⟨2, (s.drop i).take 2, (i : Int)⟩])
              exact ih (i + 1) _ f _ (by omega) (by omega) (by omega) (by omega)
            | false =>
              cases hO : oneB signs (chI s i) with
              | true =>
                show lxF s n (i + 1) (i + 1) (out ++ [⟨2, (s.drop i).take 1, (i : Int)⟩]) = rxF s f (i + 1) (out ++ [⟨2, (s.drop i).take 1, (i : Int)⟩])
                exact ih (i + 1) _ f _ (by omega) (by omega) (by omega) (by omega)
              | false => rfl
theorem lx_rx (s : List UInt8) : lxT s = rxT s := by
  unfold lxT rxT
  split
  · rfl
  · exact lx_rx_at s s.length 0 0 s.length [] (by omega) (by omega) (by omega) (by omega)
end Go.Proofs.YtkbclcnbfahhkaaDoor
