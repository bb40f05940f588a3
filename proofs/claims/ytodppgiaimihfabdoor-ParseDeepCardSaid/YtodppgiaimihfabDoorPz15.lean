/- Texts that are nested deep, parsed. No conditions but those in each statement. -/
import Derived.Test.YtodppgiaimihfabDoorPp
set_option linter.unusedVariables false
set_option linter.unusedSimpArgs false
namespace Go.Proofs.YtodppgiaimihfabDoor
open Go Go.Sy Go.RowKit
def tmL (s : List UInt8) : Nat → List UInt8
  | 0 => []
  | n + 1 => tmL s n ++ s
theorem tmL_len (s : List UInt8) : ∀ n, (tmL s n).length = n * s.length
  | 0 => by simp [tmL]
  | n + 1 => by rw [tmL, List.length_append, tmL_len s n, Nat.succ_mul]
theorem tmL_le {s : List UInt8} {n : Nat} (h1 : s.length ≤ 20) (h2 : n ≤ 100) : (tmL s n).length ≤ 2000 := by
  rw [tmL_len]; exact Nat.le_trans (Nat.mul_le_mul h2 h1) (by decide)
/-- what is known of a text that is nested k deep -/
def dpB (a : Int) (t : List UInt8) (k : Nat) : Bool := decide (t.length ≤ 1000) && (if k + 1 > 40 then (funF t).2.2 == 52 && (funF t).2.1 == a else (funF t).2.2 == 0 && (funF t).1.body.length == 1)
theorem dp_len {a : Int} {t : List UInt8} {k : Nat} (h : dpB a t k = true) : smallB t := by
  unfold dpB at h
  simp only [Bool.and_eq_true, decide_eq_true_eq] at h
  unfold smallB
  have := h.1
  omega
theorem dp_bad {a : Int} {t : List UInt8} {k : Nat} (h : dpB a t k = true) (hk : 40 ≤ k) : (funF t).2.2 = 52 ∧ (funF t).2.1 = a := by
  unfold dpB at h
  rw [if_pos (show k + 1 > 40 by omega)] at h
  simp only [Bool.and_eq_true, decide_eq_true_eq, beq_iff_eq] at h
  exact h.2
theorem dp_good {a : Int} {t : List UInt8} {k : Nat} (h : dpB a t k = true) (hk : k < 40) : (funF t).2.2 = 0 ∧ (funF t).1.body.length = 1 := by
  unfold dpB at h
  rw [if_neg (show ¬ k + 1 > 40 by omega)] at h
  simp only [Bool.and_eq_true, decide_eq_true_eq, beq_iff_eq] at h
  exact h.2
def dT0 (k : Nat) : List UInt8 := [102, 110, 32, 102, 40, 41, 32, 123, 32, 120, 32, 61, 32] ++ tmL [40] k ++ [49] ++ tmL [41] k ++ [59, 32, 125]
theorem dp0_36 : dpB 52 (dT0 36) 36 = true := by kernel_rfl
theorem dp0_37 : dpB 52 (dT0 37) 37 = true := by kernel_rfl
theorem dp0_38 : dpB 52 (dT0 38) 38 = true := by kernel_rfl
theorem dp0_39 : dpB 52 (dT0 39) 39 = true := by kernel_rfl
theorem dp0_40 : dpB 52 (dT0 40) 40 = true := by kernel_rfl
theorem dp0_41 : dpB 52 (dT0 41) 41 = true := by kernel_rfl
theorem dp0_42 : dpB 52 (dT0 42) 42 = true := by kernel_rfl
theorem dp0_43 : dpB 52 (dT0 43) 43 = true := by kernel_rfl
theorem dp0 (k : Nat) (h1 : 36 ≤ k) (h2 : k ≤ 43) : dpB 52 (dT0 k) k = true := by
  obtain rfl | rfl | rfl | rfl | rfl | rfl | rfl | rfl : k = 36 ∨ k = 37 ∨ k = 38 ∨ k = 39 ∨ k = 40 ∨ k = 41 ∨ k = 42 ∨ k = 43 := by omega
  · exact dp0_36
  · exact dp0_37
  · exact dp0_38
  · exact dp0_39
  · exact dp0_40
  · exact dp0_41
  · exact dp0_42
  · exact dp0_43
theorem dT0_f (k : Nat) : 102 :: 110 :: 32 :: 102 :: 40 :: 41 :: 32 :: 123 :: 32 :: 120 :: 32 :: 61 :: 32 :: (tmL [40] k ++ [49] ++ tmL [41] k ++ [59, 32, 125]) = dT0 k := rfl
def dT1 (k : Nat) : List UInt8 := [102, 110, 32, 102, 40, 41, 32, 123, 32, 120, 32, 61, 32] ++ tmL [45] k ++ [49, 59, 32, 125]
theorem dp1_36 : dpB 52 (dT1 36) 36 = true := by kernel_rfl
theorem dp1_37 : dpB 52 (dT1 37) 37 = true := by kernel_rfl
theorem dp1_38 : dpB 52 (dT1 38) 38 = true := by kernel_rfl
theorem dp1_39 : dpB 52 (dT1 39) 39 = true := by kernel_rfl
theorem dp1_40 : dpB 52 (dT1 40) 40 = true := by kernel_rfl
theorem dp1_41 : dpB 52 (dT1 41) 41 = true := by kernel_rfl
theorem dp1_42 : dpB 52 (dT1 42) 42 = true := by kernel_rfl
theorem dp1_43 : dpB 52 (dT1 43) 43 = true := by kernel_rfl
theorem dp1 (k : Nat) (h1 : 36 ≤ k) (h2 : k ≤ 43) : dpB 52 (dT1 k) k = true := by
  obtain rfl | rfl | rfl | rfl | rfl | rfl | rfl | rfl : k = 36 ∨ k = 37 ∨ k = 38 ∨ k = 39 ∨ k = 40 ∨ k = 41 ∨ k = 42 ∨ k = 43 := by omega
  · exact dp1_36
  · exact dp1_37
  · exact dp1_38
  · exact dp1_39
  · exact dp1_40
  · exact dp1_41
  · exact dp1_42
  · exact dp1_43
theorem dT1_f (k : Nat) : 102 :: 110 :: 32 :: 102 :: 40 :: 41 :: 32 :: 123 :: 32 :: 120 :: 32 :: 61 :: 32 :: (tmL [45] k ++ [49, 59, 32, 125]) = dT1 k := rfl
def dT2 (k : Nat) : List UInt8 := [102, 110, 32, 102, 40, 41, 32, 123, 32, 97, 115, 115, 101, 114, 116, 32, 40] ++ tmL [33] k ++ [120, 32, 61, 61, 32, 49, 41, 59, 32, 125]
theorem dp2_36 : dpB 56 (dT2 36) 36 = true := by kernel_rfl
theorem dp2_37 : dpB 56 (dT2 37) 37 = true := by kernel_rfl
theorem dp2_38 : dpB 56 (dT2 38) 38 = true := by kernel_rfl
theorem dp2_39 : dpB 56 (dT2 39) 39 = true := by kernel_rfl
theorem dp2_40 : dpB 56 (dT2 40) 40 = true := by kernel_rfl
theorem dp2_41 : dpB 56 (dT2 41) 41 = true := by kernel_rfl
theorem dp2_42 : dpB 56 (dT2 42) 42 = true := by kernel_rfl
theorem dp2_43 : dpB 56 (dT2 43) 43 = true := by kernel_rfl
theorem dp2 (k : Nat) (h1 : 36 ≤ k) (h2 : k ≤ 43) : dpB 56 (dT2 k) k = true := by
  obtain rfl | rfl | rfl | rfl | rfl | rfl | rfl | rfl : k = 36 ∨ k = 37 ∨ k = 38 ∨ k = 39 ∨ k = 40 ∨ k = 41 ∨ k = 42 ∨ k = 43 := by omega
  · exact dp2_36
  · exact dp2_37
  · exact dp2_38
  · exact dp2_39
  · exact dp2_40
  · exact dp2_41
  · exact dp2_42
  · exact dp2_43
theorem dT2_f (k : Nat) : 102 :: 110 :: 32 :: 102 :: 40 :: 41 :: 32 :: 123 :: 32 :: 97 :: 115 :: 115 :: 101 :: 114 :: 116 :: 32 :: 40 :: (tmL [33] k ++ [120, 32, 61, 61, 32, 49, 41, 59, 32, 125]) = dT2 k := rfl
def dT3 (k : Nat) : List UInt8 := [102, 110, 32, 102, 40, 41, 32, 123, 32] ++ tmL [105, 102, 32, 40, 120, 32, 61, 61, 32, 49, 41, 32, 123, 32] k ++ tmL [125, 32] k ++ [125]
theorem dp3_36 : dpB 567 (dT3 36) 36 = true := by kernel_rfl
theorem dp3_37 : dpB 567 (dT3 37) 37 = true := by kernel_rfl
theorem dp3_38 : dpB 567 (dT3 38) 38 = true := by kernel_rfl
theorem dp3_39 : dpB 567 (dT3 39) 39 = true := by kernel_rfl
theorem dp3_40 : dpB 567 (dT3 40) 40 = true := by kernel_rfl
theorem dp3_41 : dpB 567 (dT3 41) 41 = true := by kernel_rfl
theorem dp3_42 : dpB 567 (dT3 42) 42 = true := by kernel_rfl
theorem dp3_43 : dpB 567 (dT3 43) 43 = true := by kernel_rfl
theorem dp3 (k : Nat) (h1 : 36 ≤ k) (h2 : k ≤ 43) : dpB 567 (dT3 k) k = true := by
  obtain rfl | rfl | rfl | rfl | rfl | rfl | rfl | rfl : k = 36 ∨ k = 37 ∨ k = 38 ∨ k = 39 ∨ k = 40 ∨ k = 41 ∨ k = 42 ∨ k = 43 := by omega
  · exact dp3_36
  · exact dp3_37
  · exact dp3_38
  · exact dp3_39
  · exact dp3_40
  · exact dp3_41
  · exact dp3_42
  · exact dp3_43
theorem dT3_f (k : Nat) : 102 :: 110 :: 32 :: 102 :: 40 :: 41 :: 32 :: 123 :: 32 :: (tmL [105, 102, 32, 40, 120, 32, 61, 61, 32, 49, 41, 32, 123, 32] k ++ tmL [125, 32] k ++ [125]) = dT3 k := rfl
end Go.Proofs.YtodppgiaimihfabDoor
