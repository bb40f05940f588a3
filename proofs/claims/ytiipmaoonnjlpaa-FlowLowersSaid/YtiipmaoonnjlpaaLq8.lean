/- What the nodes' statements are, of the function that the laws ask for. No conditions but those in each statement. -/
import Derived.Test.YtiipmaoonnjlpaaFe2
import Derived.Test.YtiipmaoonnjlpaaLq7
set_option linter.unusedVariables false
set_option linter.unusedSimpArgs false
namespace Go.Proofs.Ytiipmaoonnjlpaa
open Go Go.Sy Go.RowKit
theorem rsS_ok {n : Nat} {f : Fn} {s : Sm} (h : OkS n s) : OkS n (rsS f s).1 := by
  have h0 : 0 < n := Nat.lt_of_le_of_lt (Nat.zero_le _) h.e
  obtain ⟨k, x, y, e, g, cd, ar, th, el, no⟩ := s
  have hr : OkS n (.mk k x y e g cd (raL f ar) th el no) := by
    refine ⟨h.e, h.f, h.c, fun a ha => ?_, by simpa [raL, Sm.ar] using h.l⟩
    obtain ⟨b, hb, rfl⟩ := List.mem_map.1 ha
    unfold raS
    split
    · exact h.a b hb
    split
    · exact h0
    · exact h.a b hb
  simp only [rsS]
  repeat' split
  all_goals first | exact h | exact hr | exact ⟨h0, h0, h0, (fun a ha => by cases ha), Nat.zero_le _⟩
theorem wi_ok {n : Nat} {s : Sm} (a b : List Sm) (h : OkS n s) : OkS n (s.wi a b) := by cases s; exact ⟨h.e, h.f, h.c, h.a, h.l⟩
theorem rsW_okB {n m : Nat} {f : Fn} {h : List Sm → List Sm × Int} : ∀ (l out : List Sm), (∀ s ∈ out, OkS n s ∧ okB n m s.th ∧ okB n m s.el) → out.length + l.length ≤ 5000 →
    (∀ s ∈ l, OkS n s ∧ okB n m (h (rsS f s).1.th).1 ∧ okB n m (h (rsS f s).1.el).1) → okB n (m + 1) (rsW h f out l).1
  | [], out, ho, hl, _ => ⟨by simpa [rsW] using hl, ho⟩
  | s :: r, out, ho, hl, hs => by
    have h0 : okB n (m + 1) [] := ⟨Nat.zero_le _, fun s hs => by cases hs⟩
    simp only [rsW]
    split
    · split
      · exact h0
      split
      · exact h0
      · refine rsW_okB r _ ?_ (by simp only [List.length_append, List.length_cons, List.length_nil] at hl ⊢; omega) fun s' hs' => hs s' (List.mem_cons_of_mem _ hs')
        intro s' hs'
        rcases List.mem_append.1 hs' with h1 | h1
        · exact ho s' h1
        · obtain ⟨a1, a2, a3⟩ := hs s (List.mem_cons_self ..)
          rw [List.mem_singleton.1 h1, (wi_th _ _ _).1, (wi_th _ _ _).2]
          exact ⟨wi_ok _ _ (rsS_ok a1), a2, a3⟩
    · exact h0
theorem rsN_okB {n : Nat} {f : Fn} : ∀ (m : Nat) (l : List Sm), okB n m l → okB n m (rsN f m l).1
  | 0, l, h => h.elim
  | m + 1, l, h => rsW_okB l [] (fun s hs => by cases hs) (by simpa using h.1) fun s hs => by
    obtain ⟨h0, h1, h2⟩ := h.2 s hs
    have h3 := rsS_th f s
    refine ⟨h0, rsN_okB m _ ?_, rsN_okB m _ ?_⟩
    · rcases h3.1 with h | h <;> rw [h]
      · exact h1
      · exact okB_nil h1
    · rcases h3.2 with h | h <;> rw [h]
      · exact h2
      · exact okB_nil h2
theorem fnA_okB (s : Int) (b : List Int) : okB (dpN (txT s b)) (dpM (txT s b)) (fnA s b).body := by
  have h := dp_ok (txT s b)
  have h0 : okB (dpN (txT s b)) (dpM (txT s b)) [] := okB_nil h
  have hr := rsN_okB (f := (funF (txT s b)).1) _ _ h
  unfold fnA fnF pgF resF
  repeat' split
  all_goals first | exact h0 | exact hr
/-- a statement's parts are not too deep -/
def okP3 (n m : Nat) (s : Sm) : Prop := OkS n s ∧ okB n m s.th ∧ okB n m s.el
theorem tg_ok {n M : Nat} (hM : 0 < M) (hn : 0 < n) : ∀ (m m' : Nat) (l : List Sm), okB n m' l → m' ≤ M → ∀ t ∈ tgB m l, okP3 n M t.2.1
  | 0, m', l, _, _, t, ht => by cases ht
  | m + 1, 0, l, h, _, t, ht => h.elim
  | m + 1, m' + 1, l, h, hm, t, ht => by
    simp only [tgB, List.mem_flatMap] at ht
    obtain ⟨s, hs, ht⟩ := ht
    obtain ⟨h1, h2, h3⟩ := h.2 s hs
    have hS : okP3 n M s := ⟨h1, okB_mono (Nat.le_refl _) h2 (by omega), okB_mono (Nat.le_refl _) h3 (by omega)⟩
    have h0 : okP3 n M sm00 := by
      cases M with
      | zero => omega
      | succ M => exact ⟨⟨hn, hn, hn, (fun a ha => by cases ha), Nat.zero_le _⟩, ⟨Nat.zero_le _, fun s hs => by cases hs⟩, ⟨Nat.zero_le _, fun s hs => by cases hs⟩⟩
    unfold tgS at ht
    split at ht
    · simp only [List.mem_cons, List.mem_append, List.not_mem_nil, or_false] at ht
      rcases ht with rfl | (ht | ht) | rfl
      · exact hS
      · exact tg_ok hM hn m m' _ h2 (by omega) t ht
      · exact tg_ok hM hn m m' _ h3 (by omega) t ht
      · exact h0
    split at ht
    · simp only [List.mem_cons] at ht
      rcases ht with rfl | ht
      · exact hS
      · exact tg_ok hM hn m m' _ h2 (by omega) t ht
    · rw [List.mem_singleton.1 ht]; exact hS
/-- some depths do for all nodes -/
theorem low_st (s : Int) (b : List Int) : ∃ n m, ∀ x ∈ lowF (dpM (txT s b)) (fnA s b).body, okP3 n m x.s := by
  have h := fnA_okB s b
  have h1 : okB (dpN (txT s b) + 1) (dpM (txT s b) + 1) (fnA s b).body := okB_mono (Nat.le_succ _) h (Nat.le_succ _)
  have h0 : okP3 (dpN (txT s b) + 1) (dpM (txT s b) + 1) sm00 := ⟨⟨Nat.succ_pos _, Nat.succ_pos _, Nat.succ_pos _, (fun a ha => by cases ha), Nat.zero_le _⟩, ⟨Nat.zero_le _, fun s hs => by cases hs⟩, ⟨Nat.zero_le _, fun s hs => by cases hs⟩⟩
  refine ⟨dpN (txT s b) + 1, dpM (txT s b) + 1, fun x hx => ?_⟩
  have ht : tgOf x ∈ (lowF (dpM (txT s b)) (fnA s b).body).map tgOf := List.mem_map_of_mem hx
  rw [tags_low] at ht
  simp only [List.mem_cons, List.mem_append, List.not_mem_nil, or_false] at ht
  rcases ht with e | ht | e
  · rw [show x.s = sm00 from congrArg (fun t : Tg => t.2.1) e]; exact h0
  · exact tg_ok (Nat.succ_pos _) (Nat.succ_pos _) _ _ _ h1 (Nat.le_refl _) _ ht
  · rw [show x.s = sm00 from congrArg (fun t : Tg => t.2.1) e]; exact h0
end Go.Proofs.Ytiipmaoonnjlpaa
