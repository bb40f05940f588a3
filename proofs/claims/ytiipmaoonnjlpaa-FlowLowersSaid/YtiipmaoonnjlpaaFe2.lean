/- The function that the laws ask for: its statements' numbers. No conditions but those in each statement. -/
import Derived.Test.YtiipmaoonnjlpaaKn1
import Derived.Test.YtiipmaoonnjlpaaFe0
set_option linter.unusedVariables false
set_option linter.unusedSimpArgs false
namespace Go.Proofs.Ytiipmaoonnjlpaa
open Go Go.Sy Go.RowKit
theorem alS_e (s : Sm) : alS s = s.no :: (alB s.th ++ alB s.el) := by cases s; simp [alS, Sm.no, Sm.th, Sm.el]
theorem nsS_e (s : Sm) : nsS s ↔ (s.k ≠ 10 → s.el = []) ∧ (s.k ≠ 10 → s.k ≠ 11 → s.th = []) ∧ nsB s.th ∧ nsB s.el := by cases s; exact Iff.rfl
theorem nsB_mem : ∀ {l : List Sm}, nsB l → ∀ s ∈ l, nsS s
  | [], _, s, h => by cases h
  | a :: l, h, s, hs => by
    rcases List.mem_cons.1 hs with rfl | hs
    · exact h.1
    · exact nsB_mem h.2 s hs
theorem wi_all (s : Sm) (a b : List Sm) : (s.wi a b).th = a ∧ (s.wi a b).el = b ∧ (s.wi a b).k = s.k ∧ (s.wi a b).no = s.no := by cases s; exact ⟨rfl, rfl, rfl, rfl⟩
/-- what the resolver leaves of a statement -/
theorem rsS_same (f : Fn) (s : Sm) : (rsS f s).1.no = s.no ∧ (((rsS f s).1.k = s.k ∧ (rsS f s).1.th = s.th ∧ (rsS f s).1.el = s.el) ∨ (s.k = 0 ∧ (rsS f s).1.k = 2 ∧ (rsS f s).1.th = [] ∧ (rsS f s).1.el = [])) := by
  obtain ⟨k, x, y, e, g, cd, ar, th, el, no⟩ := s
  simp only [rsS]
  by_cases k0 : (k == 0) = true
  · rw [if_pos k0]
    have k0' : k = 0 := by simpa using k0
    split
    · split
      · exact ⟨rfl, .inr ⟨k0', rfl, rfl, rfl⟩⟩
      · exact ⟨rfl, .inl ⟨rfl, rfl, rfl⟩⟩
    · exact ⟨rfl, .inl ⟨rfl, rfl, rfl⟩⟩
  · rw [if_neg k0]
    repeat' split
    all_goals exact ⟨rfl, .inl ⟨rfl, rfl, rfl⟩⟩
/-- a statement that the resolver lets pass, with what it holds -/
theorem rsS_al {f : Fn} {h : List Sm → List Sm × Int} {s : Sm} (h0 : h [] = ([], -1)) (hn : nsS s) (h1 : 0 ≤ (h s.th).2 ∨ (alB (h s.th).1 = alB s.th ∧ nsB (h s.th).1)) (h2 : 0 ≤ (h s.el).2 ∨ (alB (h s.el).1 = alB s.el ∧ nsB (h s.el).1))
    (g1 : ¬ 0 ≤ (h (rsS f s).1.th).2) (g2 : ¬ 0 ≤ (h (rsS f s).1.el).2) : alS ((rsS f s).1.wi (h (rsS f s).1.th).1 (h (rsS f s).1.el).1) = alS s ∧ nsS ((rsS f s).1.wi (h (rsS f s).1.th).1 (h (rsS f s).1.el).1) := by
  obtain ⟨e0, e1⟩ := rsS_same f s
  obtain ⟨w1, w2, w3, w4⟩ := wi_all (rsS f s).1 (h (rsS f s).1.th).1 (h (rsS f s).1.el).1
  obtain ⟨n1, n2, n3, n4⟩ := (nsS_e s).1 hn
  rw [alS_e, nsS_e, w1, w2, w3, w4, alS_e s, e0]
  rcases e1 with ⟨a1, a2, a3⟩ | ⟨a0, a1, a2, a3⟩
  · rw [a2] at g1 ⊢
    rw [a3] at g2 ⊢
    obtain ⟨b1, b2⟩ := h1.resolve_left g1
    obtain ⟨c1, c2⟩ := h2.resolve_left g2
    refine ⟨by rw [b1, c1], ?_, ?_, b2, c2⟩
    · rw [a1]; intro hk; rw [n1 hk, h0]
    · rw [a1]; intro hk hk2; rw [n2 hk hk2, h0]
  · have t1 : s.th = [] := n2 (by rw [a0]; decide) (by rw [a0]; decide)
    have t2 : s.el = [] := n1 (by rw [a0]; decide)
    rw [a2, a3, h0, t1, t2]
    exact ⟨rfl, fun _ => rfl, fun _ _ => rfl, trivial, trivial⟩
theorem rsW_al {f : Fn} {h : List Sm → List Sm × Int} (h0 : h [] = ([], -1)) : ∀ (l out : List Sm), (∀ x ∈ alB l, 0 ≤ x) → nsB l → nsB out →
    (∀ s ∈ l, (0 ≤ (h s.th).2 ∨ (alB (h s.th).1 = alB s.th ∧ nsB (h s.th).1)) ∧ (0 ≤ (h s.el).2 ∨ (alB (h s.el).1 = alB s.el ∧ nsB (h s.el).1))) →
    (0 ≤ (rsW h f out l).2 ∧ (rsW h f out l).1 = []) ∨ (alB (rsW h f out l).1 = alB out ++ alB l ∧ nsB (rsW h f out l).1)
  | [], out, _, _, ho, _ => .inr ⟨by simp [rsW, alB], ho⟩
  | s :: r, out, hp, hn, ho, hs => by
    have hno : 0 ≤ s.no := hp _ (by rw [alB, alS_e]; simp)
    simp only [rsW]
    split
    · split
      · rename_i g1; exact .inl ⟨g1, rfl⟩
      rename_i g1
      split
      · rename_i g2; exact .inl ⟨g2, rfl⟩
      rename_i g2
      obtain ⟨a1, a2⟩ := hs s (List.mem_cons_self ..)
      obtain ⟨b1, b2⟩ := rsS_al h0 hn.1 a1 a2 g1 g2
      rcases rsW_al h0 r (out ++ [(rsS f s).1.wi (h (rsS f s).1.th).1 (h (rsS f s).1.el).1]) (fun x hx => hp x (by rw [alB]; exact List.mem_append.2 (.inr hx))) hn.2 (nsB_app _ _ ho ⟨b2, trivial⟩) (fun s' hs' => hs s' (List.mem_cons_of_mem _ hs')) with h3 | ⟨h3, h4⟩
      · exact .inl h3
      · right
        refine ⟨?_, h4⟩
        rw [h3, alB_app, alB_one, b1, alB, List.append_assoc]
    · exact .inl ⟨hno, rfl⟩
theorem rsN_al {f : Fn} {n : Nat} : ∀ (m : Nat) (l : List Sm), okB n m l → (∀ x ∈ alB l, 0 ≤ x) → nsB l → (0 ≤ (rsN f m l).2 ∧ (rsN f m l).1 = []) ∨ (alB (rsN f m l).1 = alB l ∧ nsB (rsN f m l).1)
  | 0, l, h, _, _ => h.elim
  | m + 1, l, h, hp, hn => by
    have := rsW_al (f := f) (h := rsN f m) (rsN_0 f m) l [] hp hn trivial fun s hs => by
      obtain ⟨_, h1, h2⟩ := h.2 s hs
      have hsn := (nsS_e s).1 (nsB_mem hn s hs)
      have hm : ∀ l : List Sm, ∀ s ∈ l, ∀ x ∈ alS s, x ∈ alB l := by
        intro l
        induction l with
        | nil => intro s hs; cases hs
        | cons a l ih =>
          intro s hs x hx
          rw [alB]
          rcases List.mem_cons.1 hs with rfl | hs
          · exact List.mem_append.2 (.inl hx)
          · exact List.mem_append.2 (.inr (ih s hs x hx))
      refine ⟨?_, ?_⟩
      · rcases rsN_al m s.th h1 (fun x hx => hp x (hm l s hs x (by rw [alS_e]; exact List.mem_cons_of_mem _ (List.mem_append.2 (.inl hx))))) hsn.2.2.1 with h | h
        · exact .inl h.1
        · exact .inr h
      · rcases rsN_al m s.el h2 (fun x hx => hp x (hm l s hs x (by rw [alS_e]; exact List.mem_cons_of_mem _ (List.mem_append.2 (.inr hx))))) hsn.2.2.2 with h | h
        · exact .inl h.1
        · exact .inr h
    rw [show alB ([] : List Sm) = [] from by simp [alB], List.nil_append] at this
    exact this
theorem szB_al : ∀ (m : Nat) (l : List Sm), okD m l → szB m l = (alB l).length
  | 0, l, h => h.elim
  | m + 1, [], h => by simp [szB, alB]
  | m + 1, s :: l, h => by
    obtain ⟨h1, h2⟩ := h.2 s (List.mem_cons_self ..)
    rw [szB_cons, szB_al m _ h1, szB_al m _ h2, szB_al (m + 1) l ⟨by have := h.1; simp only [List.length_cons] at this; omega, fun s hs => h.2 s (List.mem_cons_of_mem _ hs)⟩, alB, alS_e]
    simp only [List.length_append, List.length_cons]
    omega
termination_by m l => (m, l.length)
theorem rg_pos {b : Int} : ∀ x ∈ rg 0 b, 0 ≤ x := by
  intro x hx
  obtain ⟨i, _, rfl⟩ := List.mem_map.1 hx
  omega
theorem rg_len {b : Int} (h : 0 ≤ b) : ((rg 0 b).length : Int) = b := by simp [rg]; omega
/-- the function that the laws ask for -/
theorem fnA_al (s : Int) (b : List Int) : okD (dpM (txT s b)) (fnA s b).body ∧ szB (dpM (txT s b)) (fnA s b).body ≤ 4096 ∧ nsB (fnA s b).body ∧ ∃ c, alB (fnA s b).body = rg 0 c := by
  have hd : okD (dpM (txT s b)) (fnA s b).body := fnF_okD (dp_ok _)
  have key : nsB (fnA s b).body ∧ ∃ c, alB (fnA s b).body = rg 0 c ∧ 0 ≤ c ∧ c ≤ 4096 := by
    obtain ⟨⟨c, c1, c2, c3⟩, n1⟩ := funF_al (txT s b)
    have hnil : nsB ([] : List Sm) ∧ ∃ c, alB ([] : List Sm) = rg 0 c ∧ 0 ≤ c ∧ c ≤ 4096 := ⟨trivial, 0, by simp [alB, rg_nil], by decide, by decide⟩
    have hr : nsB (rsN (funF (txT s b)).1 (dpM (txT s b)) (funF (txT s b)).1.body).1 ∧ ∃ c, alB (rsN (funF (txT s b)).1 (dpM (txT s b)) (funF (txT s b)).1.body).1 = rg 0 c ∧ 0 ≤ c ∧ c ≤ 4096 := by
      rcases rsN_al (f := (funF (txT s b)).1) _ _ (dp_ok (txT s b)) (by rw [c1]; exact rg_pos) n1 with ⟨_, h⟩ | ⟨h1, h2⟩
      · rw [h]; exact hnil
      · exact ⟨h2, c, by rw [h1, c1], c2, c3⟩
    unfold fnA fnF pgF resF
    repeat' split
    all_goals first | exact hnil | exact hr
  obtain ⟨k1, c, k2, k3, k4⟩ := key
  refine ⟨hd, ?_, k1, c, k2⟩
  rw [szB_al _ _ hd, k2]
  have := rg_len (b := c) k3
  omega
theorem lnkR_okL {X : Int} : ∀ (r : List Int) (w : Lw) (c : Nat), okL c w → (∀ x ∈ r, 0 ≤ x ∧ x < (w.l.length : Int)) → okL (c + r.length) (lnkR X r w)
  | [], w, c, h, _ => h
  | a :: r, w, c, h, hr => by
    have := lnkR_okL (X := X) r (lnkW a X w) (c + 1) (lnkW_ok h a X (hr a (List.mem_cons_self ..))) (fun x hx => by rw [lnkW_len]; exact hr x (List.mem_cons_of_mem _ hx))
    rw [List.length_cons, show c + (r.length + 1) = c + 1 + r.length by omega]
    exact this
theorem low_small {n : Nat} {f : List Sm} (hd : okD n f) (hs : szB n f ≤ 4096) : (lowF n f).length ≤ 100000 ∧ ∀ x ∈ lowF n f, x.nx.length ≤ 100000 := by
  have k4 := lw4_ok hd
  have k5 := lnkR_okL (X := lwX n f) (lw4 n f).r _ _ (okL_z k4 true) k4.i
  have h1 := k4.r
  have h2 : (lowF n f).length ≤ 4 + 8 * szB n f + (lw4 n f).r.length := k5.l
  refine ⟨by omega, fun x hx => ?_⟩
  have h3 : x.nx.length ≤ 4 + 8 * szB n f + (lw4 n f).r.length := k5.n x hx
  omega
end Go.Proofs.Ytiipmaoonnjlpaa
