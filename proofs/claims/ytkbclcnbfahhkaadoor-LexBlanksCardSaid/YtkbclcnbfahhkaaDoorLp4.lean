/- The tokens of one number, of one long name, of blanks. No conditions but those in each statement. -/
import Derived.Test.YtkbclcnbfahhkaaDoorLp3
import Derived.Test.YtkbclcnbfahhkaaDoorLx10
set_option linter.unusedVariables false
set_option linter.unusedSimpArgs false
namespace Go.Proofs.YtkbclcnbfahhkaaDoor
open Go Go.Sy Go.RowKit

theorem lxF_skip (s : List UInt8) : ∀ (n i nx : Nat) (out : List Tok), i + n ≤ nx → lxF s n i nx out = (out, 0, 0)
  | 0, _, _, _, _ => rfl
  | n + 1, i, nx, out, h => by
    simp only [lxF]
    rw [if_pos (by omega)]
    exact lxF_skip s n (i + 1) nx out (by omega)
theorem lxF_blank (s : List UInt8) (hA : ∀ k, k < s.length → s.getD k 0 = 32) : ∀ (n i nx : Nat) (out : List Tok), i + n ≤ s.length → i ≤ nx → nx ≤ s.length → lxF s n i nx out = (out, 0, 0)
  | 0, _, _, _, _, _, _ => rfl
  | n + 1, i, nx, out, h, hi, hx => by
    simp only [lxF]
    split
    · exact lxF_blank s hA n (i + 1) nx out (by omega) (by omega) hx
    · have hg : (s.drop i).getD 0 0 = 32 := by rw [← hA i (by omega)]; simp [List.getD, List.getElem?_drop]
      have hb : blkI (s.drop i) = 1 := by unfold blkI chI; rw [hg]; rfl
      rw [hb, if_pos (by decide)]
      exact lxF_blank s hA n (i + 1) _ out (by omega) (by show i + 1 ≤ i + 1; omega) (by show i + 1 ≤ _; omega)
theorem lx_blank (m : Nat) : lxT (List.replicate m 32) = if decide (4096 < (m : Int)) = true then ([], 0, 53) else ([], 0, 0) := by
  unfold lxT
  rw [List.length_replicate]
  split
  · rfl
  · exact lxF_blank _ (fun k hk => by simp [List.getD] at hk ⊢; simp [List.getElem?_replicate, hk]) _ 0 0 [] (by simp) (Nat.le_refl _) (Nat.zero_le _)
theorem lx_name : ∀ k, k < 6 → lxT (32 :: List.replicate (29 + k) 120) = if 32 < 29 + k then ([], 1, 53) else ([⟨0, List.replicate (29 + k) 120, 1⟩], 0, 0)
  | 0, _ => by rfl
  | 1, _ => by rfl
  | 2, _ => by rfl
  | 3, _ => by rfl
  | 4, _ => by rfl
  | 5, _ => by rfl
  | n + 6, h => by omega

theorem val_snoc (b : UInt8) : ∀ (l : List UInt8) (n : Nat), val (l ++ [b]) n = 10 * val l n + (b.toNat - 48)
  | [], n => rfl
  | c :: l, n => val_snoc b l _
theorem dch_nat {n : Nat} (h : n < 10) : (dch n).toNat = 48 + n := by unfold dch; simp; omega
theorem dgs_val : ∀ (f n : Nat), n < 10 ^ (f + 1) → val (dgs f n) 0 = n
  | 0, n, h => by
    have h : n < 10 := by simpa using h
    simp only [dgs, val, dch_nat h]; omega
  | f + 1, n, h => by
    simp only [dgs]
    split
    · rename_i h; simp only [val, dch_nat h]; omega
    · rw [val_snoc, dgs_val f (n / 10) (by rw [Nat.div_lt_iff_lt_mul (by decide)]; rw [Nat.pow_succ] at h; exact h), dch_nat (Nat.mod_lt _ (by decide))]
      omega
theorem dgs_dig : ∀ (f n : Nat), n < 10 ^ (f + 1) → ∀ b ∈ dgs f n, dig b
  | 0, n, h, b, hb => by
    have h : n < 10 := by simpa using h
    obtain rfl := List.mem_singleton.1 hb
    unfold dig; rw [dch_nat h]; omega
  | f + 1, n, h, b, hb => by
    simp only [dgs] at hb
    split at hb
    · rename_i h
      obtain rfl := List.mem_singleton.1 hb
      unfold dig; rw [dch_nat h]; omega
    · rcases List.mem_append.1 hb with hb | hb
      · exact dgs_dig f (n / 10) (by rw [Nat.div_lt_iff_lt_mul (by decide)]; rw [Nat.pow_succ] at h; exact h) b hb
      · obtain rfl := List.mem_singleton.1 hb
        have : n % 10 < 10 := Nat.mod_lt _ (by decide)
        unfold dig; rw [dch_nat this]; omega
/-- the first digit is not 0 but in the number 0 -/
theorem dgs_head : ∀ (f n : Nat), n < 10 ^ (f + 1) → 0 < n → (dgs f n).getD 0 0 ≠ 48
  | 0, n, h, h0 => by
    have h : n < 10 := by simpa using h
    intro e
    have e : (dch n).toNat = (48 : UInt8).toNat := congrArg UInt8.toNat e
    rw [dch_nat h] at e
    have : (48 : UInt8).toNat = 48 := rfl
    omega
  | f + 1, n, h, h0 => by
    simp only [dgs]
    split
    · rename_i h
      intro e
      have e : (dch n).toNat = (48 : UInt8).toNat := congrArg UInt8.toNat e
      rw [dch_nat h] at e
      have : (48 : UInt8).toNat = 48 := rfl
      omega
    · have := dgs_head f (n / 10) (by rw [Nat.div_lt_iff_lt_mul (by decide)]; rw [Nat.pow_succ] at h; exact h) (by omega)
      have hl : 0 < (dgs f (n / 10)).length := by cases f <;> simp only [dgs] <;> (try split) <;> simp
      rw [List.getD, List.getElem?_append_left hl]
      exact this
theorem dgs_pos (f n : Nat) : 0 < (dgs f n).length := by cases f <;> simp only [dgs] <;> (try split) <;> simp
theorem span_full (p : Int → Bool) : ∀ l : List UInt8, (∀ b ∈ l, p (b.toNat : Int) = true) → spanN p l = l.length
  | [], _ => rfl
  | b :: l, h => by
    simp only [spanN, h b (List.mem_cons_self ..), if_true, List.length_cons]
    rw [span_full p l fun c hc => h c (List.mem_cons_of_mem _ hc)]
theorem lx_num (s : List UInt8) (h0 : 0 < s.length) (hl : s.length ≤ 4096) (hd : ∀ b ∈ s, dig b) (hz : s.getD 0 0 ≠ 48 ∨ s.length = 1) : lxT s = if 9223372036854775807 < val s 0 then ([], 0, 53) else ([⟨1, s, 0⟩], 0, 0) := by
  have hall : ∀ b ∈ s, digB (b.toNat : Int) = true := fun b hb => (dig_iff b).2 (hd b hb)
  have h1 : digB (chI s 0) = true := by
    have : s.getD 0 0 ∈ s := by simp only [List.getD, List.getElem?_eq_getElem h0, Option.getD_some]; exact List.getElem_mem h0
    exact hall _ this
  obtain ⟨e1, e2⟩ := numE_eq s h0 h1
  rw [span_full _ _ hall] at e1
  have h2 : letB (chI s 0) = false := by
    cases h : letB (chI s 0) with
    | false => rfl
    | true => rw [let_not_dig h] at h1; cases h1
  have hg : greB s = decide (9223372036854775807 < val s 0) := by
    have := dgF_val s 0 false hd (by omega)
    rw [Bool.false_or] at this
    rw [← this]; rfl
  have hb : blkI s = 0 := by
    unfold digB at h1
    simp only [Bool.and_eq_true, decide_eq_true_eq] at h1
    unfold blkI
    rw [if_neg, if_neg]
    · simp only [beq_iff_eq]; omega
    · simp only [Bool.or_eq_true, beq_iff_eq]; omega
  rw [hg, e1] at e2
  have e3 : (decide ((s.length : Int) < (s.length : Int)) && letB (chI s s.length) || (chI s 0 == 48 && decide (1 < (s.length : Int)))) = false := by
    rw [show decide ((s.length : Int) < (s.length : Int)) = false by simp, Bool.false_and, Bool.false_or]
    rcases hz with hz | hz
    · rw [show (chI s 0 == 48) = false from ?_]; · rfl
      rw [beq_eq_false_iff_ne]
      intro h
      apply hz
      unfold chI at h
      have : (s.getD 0 0).toNat = 48 := by omega
      rw [← UInt8.toNat_inj]; exact this
    · rw [hz]; simp
  rw [e3, if_neg (by decide : ¬ false = true)] at e2
  unfold lxT
  rw [if_neg (by simp; omega)]
  obtain ⟨n, hn⟩ : ∃ n, s.length = n + 1 := ⟨s.length - 1, by omega⟩
  rw [hn]
  simp only [lxF]
  rw [if_neg (by omega), List.drop_zero, hb, if_neg (by decide)]
  have ht : tkE s = numE s := by unfold tkE; rw [h2, if_neg (by decide), h1, if_pos rfl]
  by_cases hv : 9223372036854775807 < val s 0
  · have e4 : numE s = 53 := by rw [e2, if_pos (by simpa using hv)]
    rw [ht, e4, if_pos (by decide), if_pos hv]; rfl
  · have e4 : numE s = 0 := by rw [e2, if_neg (by simpa using hv)]
    rw [ht, e4, if_neg (by decide), if_neg hv]
    have hk : tkK s = 1 := by unfold tkK; rw [h2, if_neg (by decide), h1, if_pos rfl]; unfold numK; rw [if_pos e4]
    have hL : tkL s = ((n + 1 : Nat) : Int) := by unfold tkL; rw [h2, if_neg (by decide), h1, if_pos rfl]; unfold numL; rw [if_pos e4, e1, hn]
    rw [hk, hL, Int.toNat_natCast, lxF_skip s n 1 _ _ (by omega), ← hn, List.take_length]
    rfl
theorem lx_dgs (n : Nat) (h : n < 18446744073709551616) : lxT (dgs 20 n) = if 9223372036854775807 < n then ([], 0, 53) else ([⟨1, dgs 20 n, 0⟩], 0, 0) := by
  have h20 : n < 10 ^ (20 + 1) := Nat.lt_trans h (by decide)
  have := lx_num (dgs 20 n) (dgs_pos 20 n) (Nat.le_trans (dgs_len 20 n) (by decide)) (dgs_dig 20 n h20) (by
    by_cases h0 : 0 < n
    · exact .inl (dgs_head 20 n h20 h0)
    · right
      rw [dgs_one 20 n (by omega)]; rfl)
  rw [dgs_val 20 n h20] at this
  exact this
end Go.Proofs.YtkbclcnbfahhkaaDoor
