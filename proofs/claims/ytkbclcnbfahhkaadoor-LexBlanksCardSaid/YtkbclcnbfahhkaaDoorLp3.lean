/- What the tokens of a text leave out. No conditions but those in each statement. -/
import Derived.Test.YtkbclcnbfahhkaaDoorLp2
set_option linter.unusedVariables false
set_option linter.unusedSimpArgs false
namespace Go.Proofs.YtkbclcnbfahhkaaDoor
open Go Go.Sy Go.RowKit

/-- from the place a on, the tokens lie one behind the other, with blanks alone between them; the last one ends at e -/
def cov (s : List UInt8) : Nat → List Tok → Nat → Prop
  | a, [], e => e = a
  | a, t :: r, e => ∃ p : Nat, t.p = (p : Int) ∧ a ≤ p ∧ p + t.t.length ≤ s.length ∧ (∀ k, a ≤ k → k < p → s.getD k 0 = 32) ∧ cov s (p + t.t.length) r e
theorem cov_snoc {s : List UInt8} {x : List UInt8} {kd : Int} {p : Nat} (hx : p + x.length ≤ s.length) : ∀ (r : List Tok) (a e : Nat), cov s a r e → e ≤ p → (∀ k, e ≤ k → k < p → s.getD k 0 = 32) → cov s a (r ++ [⟨kd, x, (p : Int)⟩]) (p + x.length)
  | [], a, e, h, he, hb => by
    have h : e = a := h
    subst h
    exact ⟨p, rfl, he, hx, hb, rfl⟩
  | t :: r, a, e, ⟨q, h1, h2, h3, h4, h5⟩, he, hb => ⟨q, h1, h2, h3, h4, cov_snoc hx r _ e h5 he hb⟩
def sgA (b : UInt8) : Bool := !(b == 9) && !(b == 10) && !(b == 13) && !(b == 35)
theorem blk_sg (l : List UInt8) (h : sgA (l.getD 0 0) = true) : (l.getD 0 0 = 32 ∧ blkI l = 1) ∨ blkI l = 0 := by
  unfold blkI chI
  revert h
  generalize l.getD 0 0 = b
  intro h
  have h9 : ∀ n : Nat, n < 256 → ((b.toNat : Int) == (n : Int)) = true → b = UInt8.ofNat n := fun n hn hb => by
    have hb : b.toNat = n := by have := beq_iff_eq.1 hb; omega
    rw [← hb]; simp
  cases e1 : ((b.toNat : Int) == 32) with
  | true => left; exact ⟨h9 32 (by omega) e1, by simp⟩
  | false =>
    cases e2 : ((b.toNat : Int) == 9) with
    | true => rw [h9 9 (by omega) e2] at h; cases h
    | false =>
      cases e3 : ((b.toNat : Int) == 13) with
      | true => rw [h9 13 (by omega) e3] at h; cases h
      | false =>
        cases e4 : ((b.toNat : Int) == 10) with
        | true => rw [h9 10 (by omega) e4] at h; cases h
        | false =>
          cases e5 : ((b.toNat : Int) == 35) with
          | true => rw [h9 35 (by omega) e5] at h; cases h
          | false => right; simp
theorem tkL_pos {l : List UInt8} (h0 : 0 < l.length) (h : tkE l = 0) : 0 < tkL l := by
  have ho := (opI_le h0).1
  have hi : 1 ≤ idN l := by unfold idN; omega
  have hn : 1 ≤ numN l := by unfold numN; omega
  unfold tkE at h
  unfold tkL
  cases h1 : letB (chI l 0) with
  | true =>
    rw [h1, if_pos rfl] at h
    rw [if_pos rfl]
    split at h
    · cases h
    · rename_i hh
      rw [if_neg hh]; omega
  | false =>
    rw [h1, if_neg (by decide)] at h
    rw [if_neg (by decide)]
    cases h2 : digB (chI l 0) with
    | true =>
      rw [h2, if_pos rfl] at h
      rw [if_pos rfl]
      unfold numL
      rw [if_pos h]; omega
    | false =>
      rw [h2, if_neg (by decide)] at h
      rw [if_neg (by decide)]
      split at h
      · cases h
      · rename_i hh
        simp only [beq_iff_eq] at hh
        omega
theorem lxF_cov (s : List UInt8) (hA : ∀ k, k < s.length → sgA (s.getD k 0) = true) : ∀ (n i nx : Nat) (out : List Tok) (e : Nat), i + n ≤ s.length → i ≤ nx → nx ≤ s.length → cov s 0 out e → e ≤ nx → (∀ k, e ≤ k → k < nx → s.getD k 0 = 32) →
    (lxF s n i nx out).1 = [] ∨ ∃ e', cov s 0 (lxF s n i nx out).1 e' ∧ e' ≤ s.length
  | 0, i, nx, out, e, _, _, hx, hc, he, _ => .inr ⟨e, hc, Nat.le_trans he hx⟩
  | n + 1, i, nx, out, e, hn, hi, hx, hc, he, hb => by
    have hd : 0 < (s.drop i).length := by simp; omega
    have hg : (s.drop i).getD 0 0 = s.getD i 0 := by simp [List.getD, List.getElem?_drop]
    simp only [lxF]
    split
    · exact lxF_cov s hA n (i + 1) nx out e (by omega) (by omega) hx hc he hb
    · rename_i hge
      obtain rfl : i = nx := by omega
      rcases blk_sg (s.drop i) (by rw [hg]; exact hA i (by omega)) with ⟨h1, h2⟩ | h2
      · rw [h2, if_pos (by decide)]
        refine lxF_cov s hA n (i + 1) (i + 1) out e (by omega) (Nat.le_refl _) (by omega) hc (by omega) fun k k1 k2 => ?_
        by_cases hk : k < i
        · exact hb k k1 hk
        · obtain rfl : k = i := by omega
          rw [← hg]; exact h1
      · rw [h2, if_neg (by decide)]
        split
        · exact .inl rfl
        · rename_i he0
          have h0 := tkL_pos hd (by simpa using he0)
          obtain ⟨t1, t2⟩ := tkL_le hd
          simp only [List.length_drop] at t2
          have hlen : ((s.drop i).take (tkL (s.drop i)).toNat).length = (tkL (s.drop i)).toNat := by simp; omega
          have := cov_snoc (kd := tkK (s.drop i)) (x := (s.drop i).take (tkL (s.drop i)).toNat) (p := i) (by rw [hlen]; omega) out 0 e hc he hb
          rw [hlen] at this
          exact lxF_cov s hA n (i + 1) (i + (tkL (s.drop i)).toNat) _ (i + (tkL (s.drop i)).toNat) (by omega) (by omega) (by omega) this (Nat.le_refl _) (fun k k1 k2 => by omega)
theorem rx_cov (s : List UInt8) (hA : ∀ k, k < s.length → sgA (s.getD k 0) = true) : (rxT s).1 = [] ∨ ∃ e, cov s 0 (rxT s).1 e ∧ e ≤ s.length := by
  rw [← lx_rx]
  unfold lxT
  split
  · exact .inl rfl
  · exact lxF_cov s hA s.length 0 0 [] 0 (by omega) (Nat.le_refl _) (Nat.zero_le _) rfl (Nat.le_refl _) (fun k k1 k2 => by omega)
end Go.Proofs.YtkbclcnbfahhkaaDoor
