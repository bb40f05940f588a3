/- Plain laws of the lexers: numbers. No conditions but those in each statement. -/
import Derived.Test.YtkbclcnbfahhkaaDoorLx5
set_option linter.unusedVariables false
set_option linter.unusedSimpArgs false
namespace Go.Proofs.YtkbclcnbfahhkaaDoor
open Go Go.Sy Go.RowKit

def dig (b : UInt8) : Prop := 48 ≤ b.toNat ∧ b.toNat ≤ 57
theorem dig_iff (b : UInt8) : digB (b.toNat : Int) = true ↔ dig b := by
  unfold digB dig
  simp only [Bool.and_eq_true, decide_eq_true_eq]
  omega
def val : List UInt8 → Nat → Nat
  | [], n => n
  | b :: r, n => val r (10 * n + (b.toNat - 48))
theorem val_ge : ∀ (l : List UInt8) (n : Nat), n ≤ val l n
  | [], n => Nat.le_refl _
  | b :: r, n => by
    have := val_ge r (10 * n + (b.toNat - 48))
    simp only [val]; omega
def gre (p : Int × Bool) : Bool := p.2 || decide (9223372036854775807 < p.1)
theorem gre_mk (n : Nat) (g : Bool) : gre ((n : Int), g) = (g || decide (9223372036854775807 < n)) := by
  unfold gre
  congr 1
  rw [Bool.eq_iff_iff]; simp only [decide_eq_true_eq]; omega
theorem dgF_val : ∀ (l : List UInt8) (n : Nat) (g : Bool), (∀ b ∈ l, dig b) → n ≤ 9223372036854775809 → gre (dgF l (n : Int) g) = (g || decide (9223372036854775807 < val l n))
  | [], n, g, _, _ => gre_mk n g
  | b :: r, n, g, hd, hn => by
    have hb := hd b (List.mem_cons_self ..)
    have hr : ∀ c ∈ r, dig c := fun c hc => hd c (List.mem_cons_of_mem _ hc)
    have e0 : dgF (b :: r) (n : Int) g = if decide (922337203685477580 < (n : Int)) = true then dgF r (n : Int) true else dgF r (IntKind.u64.wrap (IntKind.u64.wrap (10 * (n : Int)) + IntKind.u64.wrap (IntKind.u8.wrap ((b.toNat : Int) - 48)))) g := by
      simp only [dgF]
      rw [if_pos ((dig_iff b).2 hb)]
    rw [e0, show val (b :: r) n = val r (10 * n + (b.toNat - 48)) from rfl]
    unfold dig at hb
    by_cases h : 922337203685477580 < n
    · rw [if_pos (by simp; omega), dgF_val r n true hr hn]
      have := val_ge r (10 * n + (b.toNat - 48))
      rw [show decide (9223372036854775807 < val r (10 * n + (b.toNat - 48))) = true by simp; omega]
      simp
    · rw [if_neg (by simp; omega)]
      have e1 : IntKind.u8.wrap ((b.toNat : Int) - 48) = (b.toNat : Int) - 48 := wrap_u8 (by omega) (by omega)
      have e2 : IntKind.u64.wrap ((b.toNat : Int) - 48) = (b.toNat : Int) - 48 := wrap_u64 (by omega) (by omega)
      have e3 : IntKind.u64.wrap (10 * (n : Int)) = 10 * (n : Int) := wrap_u64 (by omega) (by omega)
      rw [e1, e2, e3, wrap_u64 (by omega) (by omega)]
      have e4 : 10 * (n : Int) + ((b.toNat : Int) - 48) = ((10 * n + (b.toNat - 48) : Nat) : Int) := by omega
      rw [e4, dgF_val r _ g hr (by omega)]
/-- only the digits at the beginning count -/
theorem dgF_span : ∀ (l : List UInt8) (n : Int) (g : Bool), dgF l n g = dgF (l.take (spanN digB l)) n g
  | [], n, g => rfl
  | b :: r, n, g => by
    simp only [dgF, spanN]
    cases h : digB (b.toNat : Int) with
    | true =>
      simp only [if_true, List.take_succ_cons, dgF, h]
      rw [dgF_span r n true, dgF_span r _ g]
    | false => simp [dgF]
theorem span_all (p : Int → Bool) : ∀ l : List UInt8, ∀ b ∈ l.take (spanN p l), p (b.toNat : Int) = true
  | [], b, h => by simp at h
  | c :: r, b, h => by
    simp only [spanN] at h
    split at h
    · rename_i hc
      simp only [List.take_succ_cons, List.mem_cons] at h
      rcases h with rfl | h
      · exact hc
      · exact span_all p r b h
    · simp at h
theorem val_trim : ∀ l : List UInt8, val (trimB 48 l) 0 = val l 0
  | [] => rfl
  | b :: r => by
    unfold trimB
    simp only [spanN]
    cases h : isC 48 (b.toNat : Int) with
    | true =>
      have hb : b.toNat = 48 := by simp only [isC, beq_iff_eq] at h; omega
      simp only [if_true, List.drop_succ_cons]
      have := val_trim r
      unfold trimB at this
      rw [this]
      simp only [val, hb]
    | false => rfl
theorem trim_head : ∀ l : List UInt8, trimB 48 l = [] ∨ ∃ b r, trimB 48 l = b :: r ∧ b.toNat ≠ 48
  | [] => .inl rfl
  | b :: r => by
    unfold trimB
    simp only [spanN]
    cases h : isC 48 (b.toNat : Int) with
    | true =>
      simp only [if_true, List.drop_succ_cons]
      exact trim_head r
    | false =>
      refine .inr ⟨b, r, rfl, fun e => ?_⟩
      rw [e] at h; exact absurd h (by decide)
theorem val_hi : ∀ (l : List UInt8) (n : Nat), (∀ b ∈ l, dig b) → val l n < (n + 1) * 10 ^ l.length
  | [], n, _ => by simp [val]
  | b :: r, n, hd => by
    have hb := hd b (List.mem_cons_self ..)
    have := val_hi r (10 * n + (b.toNat - 48)) fun c hc => hd c (List.mem_cons_of_mem _ hc)
    unfold dig at hb
    simp only [val, List.length_cons]
    refine Nat.lt_of_lt_of_le this ?_
    rw [Nat.pow_succ, ← Nat.mul_assoc, Nat.mul_right_comm]
    exact Nat.mul_le_mul_right _ (by omega)
theorem val_lo : ∀ (l : List UInt8) (n : Nat), n * 10 ^ l.length ≤ val l n
  | [], n => by simp [val]
  | b :: r, n => by
    have := val_lo r (10 * n + (b.toNat - 48))
    simp only [val, List.length_cons]
    refine Nat.le_trans ?_ this
    rw [Nat.pow_succ, ← Nat.mul_assoc, Nat.mul_right_comm]
    exact Nat.mul_le_mul_right _ (by omega)
theorem val_mono : ∀ (l : List UInt8) {m n : Nat}, m ≤ n → val l m ≤ val l n
  | [], m, n, h => h
  | b :: r, m, n, h => val_mono r (by omega)
/-- lists of as many digits are in order as their numbers are -/
theorem less_val : ∀ (a b : List UInt8) (n : Nat), a.length = b.length → (∀ c ∈ a, dig c) → (∀ c ∈ b, dig c) → (Op.bytesLess a b = true ↔ val a n < val b n) ∧ (a = b ↔ val a n = val b n)
  | [], [], n, _, _, _ => by simp [Op.bytesLess, val]
  | x :: a, y :: b, n, hl, ha, hb => by
    have hx := ha x (List.mem_cons_self ..)
    have hy := hb y (List.mem_cons_self ..)
    have ha' : ∀ c ∈ a, dig c := fun c hc => ha c (List.mem_cons_of_mem _ hc)
    have hb' : ∀ c ∈ b, dig c := fun c hc => hb c (List.mem_cons_of_mem _ hc)
    have hl' : a.length = b.length := by simpa using hl
    unfold dig at hx hy
    simp only [Op.bytesLess, val]
    have hlt : ∀ (u v : List UInt8) (p q : UInt8), u.length = v.length → (∀ c ∈ u, dig c) → 48 ≤ p.toNat → 48 ≤ q.toNat → p.toNat < q.toNat → val u (10 * n + (p.toNat - 48)) < val v (10 * n + (q.toNat - 48)) := by
      intro u v p q huv hu hp hq hpq
      refine Nat.lt_of_lt_of_le (val_hi u _ hu) ?_
      rw [huv]
      exact Nat.le_trans (Nat.mul_le_mul_right _ (by omega)) (val_lo v _)
    have hUlt : (x < y) ↔ x.toNat < y.toNat := UInt8.lt_iff_toNat_lt
    by_cases hxy : x.toNat < y.toNat
    · have h1 := hlt a b x y hl' ha' (by omega) (by omega) hxy
      refine ⟨⟨fun _ => h1, fun _ => by simp [hUlt.2 hxy]⟩, ⟨fun e => ?_, fun e => by omega⟩⟩
      simp only [List.cons.injEq] at e
      rw [e.1] at hxy; omega
    · by_cases hyx : y.toNat < x.toNat
      · have h1 := hlt b a y x hl'.symm hb' (by omega) (by omega) hyx
        have hne : x ≠ y := by rintro rfl; omega
        refine ⟨⟨fun h => ?_, fun h => by omega⟩, ⟨fun e => ?_, fun e => by omega⟩⟩
        · simp only [Bool.or_eq_true, decide_eq_true_eq, Bool.and_eq_true, beq_iff_eq, hUlt] at h
          rcases h with h | ⟨h, _⟩
          · omega
          · exact absurd h hne
        · simp only [List.cons.injEq] at e
          exact absurd e.1 hne
      · have e : x = y := UInt8.toNat_inj.1 (by omega)
        subst e
        obtain ⟨i1, i2⟩ := less_val a b (10 * n + (x.toNat - 48)) hl' ha' hb'
        refine ⟨?_, ?_⟩
        · rw [← i1]
          simp only [Bool.or_eq_true, decide_eq_true_eq, Bool.and_eq_true, beq_iff_eq, hUlt, true_and]
          exact ⟨fun h => h.resolve_left (by omega), .inr⟩
        · rw [← i2]; simp
theorem great_val : val great 0 = 9223372036854775807 := by decide
theorem great_dig : ∀ c ∈ great, dig c := by unfold dig; decide
/-- a number is too great for the program just where it is for the reference -/
theorem great_eq (ds : List UInt8) (hd : ∀ b ∈ ds, dig b) : (decide (19 < ((trimB 48 ds).length : Int)) || (((trimB 48 ds).length : Int) == 19 && !(Op.bytesLess (trimB 48 ds) great || trimB 48 ds == great))) = decide (9223372036854775807 < val ds 0) := by
  have ht : ∀ b ∈ trimB 48 ds, dig b := fun b hb => hd b (List.mem_of_mem_drop hb)
  rw [← val_trim ds]
  have hh := trim_head ds
  generalize trimB 48 ds = t at *
  rw [Bool.eq_iff_iff]
  simp only [Bool.or_eq_true, decide_eq_true_eq, Bool.and_eq_true, beq_iff_eq, Bool.not_eq_true', Bool.or_eq_false_iff]
  have hge : 10 ^ (t.length - 1) ≤ val t 0 ∨ t = [] := by
    rcases hh with rfl | ⟨b, r, rfl, hb⟩
    · exact .inr rfl
    · left
      have hb2 := ht b (List.mem_cons_self ..)
      unfold dig at hb2
      simp only [val, List.length_cons, Nat.add_sub_cancel]
      refine Nat.le_trans ?_ (val_lo r _)
      exact Nat.le_mul_of_pos_left _ (by omega)
  have hlt := val_hi t 0 ht
  rw [Nat.zero_add, Nat.one_mul] at hlt
  by_cases h20 : 20 ≤ t.length
  · have h1 : 10 ^ 19 ≤ val t 0 := by
      rcases hge with h | h
      · exact Nat.le_trans (Nat.pow_le_pow_right (by decide) (by omega)) h
      · subst h; simp at h20
    constructor
    · intro _; exact Nat.lt_of_lt_of_le (by decide) h1
    · intro _; left; omega
  · by_cases h19 : t.length = 19
    · obtain ⟨i1, i2⟩ := less_val t great 0 (by rw [h19]; rfl) ht great_dig
      rw [great_val] at i1 i2
      constructor
      · rintro (h | ⟨_, h1, h2⟩)
        · omega
        · have n1 : ¬ val t 0 < 9223372036854775807 := fun h => by rw [i1.2 h] at h1; cases h1
          have n2 : ¬ val t 0 = 9223372036854775807 := fun h => by rw [i2.2 h] at h2; simp at h2
          omega
      · intro h
        refine .inr ⟨by omega, ?_, ?_⟩
        · cases hq : Op.bytesLess t great with
          | false => rfl
          | true => have := i1.1 hq; omega
        · cases hq : (t == great) with
          | false => rfl
          | true => have := i2.1 (by simpa using hq); omega
    · have h1 : val t 0 < 10 ^ 18 := Nat.lt_of_lt_of_le hlt (Nat.pow_le_pow_right (by decide) (by omega))
      constructor
      · rintro (h | ⟨h, _⟩) <;> omega
      · intro h
        have : (10 : Nat) ^ 18 ≤ 9223372036854775807 := by decide
        omega
end Go.Proofs.YtkbclcnbfahhkaaDoor
