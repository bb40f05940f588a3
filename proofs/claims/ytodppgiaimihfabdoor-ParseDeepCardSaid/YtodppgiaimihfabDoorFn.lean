/- What does not count statements. No conditions but those in each statement. -/
import Derived.Test.YtodppgiaimihfabDoorPp
set_option linter.unusedVariables false
set_option linter.unusedSimpArgs false
namespace Go.Proofs.YtodppgiaimihfabDoor
open Go Go.Sy Go.RowKit
theorem fail_n (c : Int) (p : Pr) : (failP c p).n = p.n := (failP_e c p).2.2.2.2
theorem adv_n (p : Pr) : (adv p).n = p.n := rfl
theorem shut_n (p : Pr) : (shut p).n = p.n := rfl
theorem wan_n (t : List UInt8) (p : Pr) : (wanP t p).n = p.n := by unfold wanP; split; exact rfl; exact fail_n _ _
theorem tak_n (t : List UInt8) (p : Pr) : (takP t p).n = p.n := by unfold takP; split <;> rfl
theorem nam_n (p : Pr) : (namP p).n = p.n := by unfold namP; split; exact rfl; exact fail_n _ _
theorem opn_n (p : Pr) : (opnP p).n = p.n := by
  unfold opnP
  split
  · split
    · exact fail_n _ _
    · rfl
  · rfl
theorem prodL_n {u : Pr → R Ex} (hu : ∀ p, (u p).2.n = p.n) : ∀ (k : Nat) (a : Ex) (p : Pr), (prodL u k a p).2.n = p.n
  | 0, a, p => rfl
  | k + 1, a, p => by
    simp only [prodL]
    repeat' split
    all_goals first | rfl | (rw [prodL_n hu k, hu]; rfl)
theorem prodW_n {u : Pr → R Ex} (hu : ∀ p, (u p).2.n = p.n) (p : Pr) : (prodW u p).2.n = p.n := by unfold prodW; rw [prodL_n hu, hu]
theorem sumL_n {u : Pr → R Ex} (hu : ∀ p, (u p).2.n = p.n) : ∀ (k : Nat) (a : Ex) (p : Pr), (sumL u k a p).2.n = p.n
  | 0, a, p => rfl
  | k + 1, a, p => by
    simp only [sumL]
    repeat' split
    all_goals first | rfl | (rw [sumL_n hu k, prodW_n hu]; rfl)
theorem sumW_n {u : Pr → R Ex} (hu : ∀ p, (u p).2.n = p.n) (p : Pr) : (sumW u p).2.n = p.n := by unfold sumW; rw [sumL_n hu, prodW_n hu]
theorem un_n : ∀ (f : Nat) (p : Pr), (unF f p).2.n = p.n
  | 0, p => rfl
  | f + 1, p => by
    simp only [unF]
    repeat' split
    all_goals first
      | rfl
      | exact fail_n _ _
      | exact opn_n _
      | exact nam_n _
      | (rw [shut_n, un_n f, adv_n, opn_n])
      | (rw [shut_n, wan_n, sumW_n (un_n f), adv_n, opn_n])
theorem exS_n (p : Pr) : (exS p).2.n = p.n := sumW_n (un_n 41) p
theorem cmpF_n (a : Ex) : ∀ (l : List (List UInt8)) (k : Int) (q : Pr), (cmpF q a l k).2.n = q.n
  | [], k, q => fail_n _ _
  | t :: l, k, q => by
    simp only [cmpF]
    split
    · rw [exS_n, adv_n]
    · exact cmpF_n a l (k + 1) q
theorem andL_n {u : Pr → R Cd} (hu : ∀ p, (u p).2.n = p.n) : ∀ (k : Nat) (a : Cd) (p : Pr), (andL u k a p).2.n = p.n
  | 0, a, p => rfl
  | k + 1, a, p => by
    simp only [andL]
    split
    · rw [andL_n hu k, hu]; rfl
    · rfl
theorem andW_n {u : Pr → R Cd} (hu : ∀ p, (u p).2.n = p.n) (p : Pr) : (andW u p).2.n = p.n := by unfold andW; rw [andL_n hu, hu]
theorem conL_n {u : Pr → R Cd} (hu : ∀ p, (u p).2.n = p.n) : ∀ (k : Nat) (a : Cd) (p : Pr), (conL u k a p).2.n = p.n
  | 0, a, p => rfl
  | k + 1, a, p => by
    simp only [conL]
    split
    · rw [conL_n hu k, andW_n hu]; rfl
    · rfl
theorem conW_n {u : Pr → R Cd} (hu : ∀ p, (u p).2.n = p.n) (p : Pr) : (conW u p).2.n = p.n := by unfold conW; rw [conL_n hu, andW_n hu]
theorem not_n : ∀ (f : Nat) (p : Pr), (notF f p).2.n = p.n
  | 0, p => rfl
  | f + 1, p => by
    simp only [notF]
    repeat' split
    all_goals first
      | rfl
      | exact opn_n _
      | (rw [shut_n, not_n f, adv_n, opn_n])
      | (rw [shut_n, wan_n, conW_n (not_n f), adv_n, opn_n])
      | (rw [cmpF_n, exS_n])
theorem cdS_n (p : Pr) : (cdS p).2.n = p.n := conW_n (not_n 41) p
theorem argL_n : ∀ (k : Nat) (l : List Ar) (p : Pr), (argL k l p).2.n = p.n
  | 0, l, p => rfl
  | k + 1, l, p => by
    simp only [argL]
    repeat' split
    · rw [adv_n, exS_n]
    · rw [argL_n k, wan_n, exS_n]
    · rfl
theorem argW_n (p : Pr) : (argW p).2.n = p.n := by
  unfold argW
  split
  · rfl
  · exact argL_n _ _ _
theorem val_n (p : Pr) : (valF p).2.n = p.n := by
  unfold valF
  repeat' split
  all_goals first
    | rfl
    | (rw [nam_n, adv_n])
    | (rw [wan_n, exS_n, adv_n, nam_n])
    | (rw [argW_n, adv_n, nam_n])
    | exact exS_n _
theorem mor_n (l : List Vr) (m : Int) (p : Pr) : (morP l m p).n = p.n := by unfold morP; split; exact fail_n _ _; exact nam_n _
end Go.Proofs.YtodppgiaimihfabDoor
