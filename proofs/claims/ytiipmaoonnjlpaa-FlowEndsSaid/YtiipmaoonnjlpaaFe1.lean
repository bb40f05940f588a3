/- The graph of a function, plain: its nodes, and its ways. No conditions but those in each statement. -/
import Derived.Test.YtiipmaoonnjlpaaKn1
import Derived.Test.YtiipmaoonnjlpaaFe0
import Derived.Test.YtiipmaoonnjlpaaGr4
set_option linter.unusedVariables false
set_option linter.unusedSimpArgs false
namespace Go.Proofs.Ytiipmaoonnjlpaa
open Go Go.Sy Go.RowKit

abbrev Tg := Int × Sm × Bool
def tgOf (x : Nd) : Tg := (x.k, x.s, x.h)
def tags (w : Lw) : List Tg := w.l.map tgOf
theorem set_getD {A : Type} (l : List A) (i : Nat) (d : A) : l.set i (l.getD i d) = l := by
  by_cases h : i < l.length
  · have e : l.getD i d = l[i] := by simp [List.getD, h]
    rw [e, List.set_getElem_self]
  · rw [List.set_eq_of_length_le (by omega)]
theorem tags_add (k : Int) (s : Sm) (h : Bool) (w : Lw) : tags (addW k s h w) = tags w ++ [(k, s, h)] := by simp [tags, addW, tgOf]
theorem tags_lnk (a b : Int) (w : Lw) : tags (lnkW a b w) = tags w := by
  have e : tgOf ((w.l.getD a.toNat nd0).to b) = (w.l.map tgOf).getD a.toNat (tgOf nd0) := by
    simp only [List.getD, List.getElem?_map]
    cases w.l[a.toNat]? <;> rfl
  show (w.l.set a.toNat _).map tgOf = _
  rw [List.map_set, e, set_getD]; rfl
theorem tags_lnkO (a b : Int) (w : Lw) : tags (lnkO a b w) = tags w := by unfold lnkO; split; exact rfl; exact tags_lnk a b w
theorem tags_addR (n : Int) (w : Lw) : tags (addR n w) = tags w := rfl
theorem tags_lnkR (x : Int) : ∀ (r : List Int) (w : Lw), tags (lnkR x r w) = tags w
  | [], w => rfl
  | a :: r, w => by simp only [lnkR]; rw [tags_lnkR x r, tags_lnk]
def tgS (tb : List Sm → List Tg) (s : Sm) : List Tg :=
  if (s.k == 10) = true then (2, s, false) :: (tb s.th ++ tb s.el ++ [(4, sm00, false)])
  else if (s.k == 11) = true then (2, s, true) :: tb s.th else [(1, s, false)]
def tgB : Nat → List Sm → List Tg
  | 0, _ => []
  | m + 1, l => l.flatMap (tgS (tgB m))
theorem tags_S {bl : List Sm → Lw → LR} {tb : List Sm → List Tg} (hb : ∀ l w, tags (bl l w).2 = tags w ++ tb l) (s : Sm) (w : Lw) : tags (lwS bl s w).2 = tags w ++ tgS tb s := by
  unfold lwS tgS
  split
  · show tags (br6 bl s w) = _
    unfold br6 br5 br4 br3 br2 brB brA
    rw [tags_lnkO, tags_lnkO, tags_lnk, tags_lnk, tags_add, hb, hb, tags_add]
    simp
  split
  · show tags (lo2 bl s w) = _
    unfold lo2 lo1 loA
    rw [tags_lnkO, tags_lnk, hb, tags_add]
    simp
  · unfold plaL
    split
    · show tags (addR _ (addW 1 s false w)) = _
      rw [tags_addR, tags_add]
    · show tags (addW 1 s false w) = _
      rw [tags_add]
theorem tags_bk {bl : List Sm → Lw → LR} {tb : List Sm → List Tg} (hb : ∀ l w, tags (bl l w).2 = tags w ++ tb l) : ∀ (l : List Sm) (z : Bool) (p : Int × Int) (w : Lw), tags (bkL (lwS bl) l z p w).2 = tags w ++ l.flatMap (tgS tb)
  | [], z, p, w => by simp [bkL]
  | s :: r, z, p, w => by
    simp only [bkL]
    rw [tags_bk hb r, tags_lnkO, tags_S hb]
    simp
theorem tags_B : ∀ (m : Nat) (l : List Sm) (w : Lw), tags (lwB m l w).2 = tags w ++ tgB m l
  | 0, l, w => by simp [lwB, tgB]
  | m + 1, l, w => tags_bk (tags_B m) l true (-1, -1) w
theorem tags_low (n : Nat) (f : List Sm) : (lowF n f).map tgOf = (0, sm00, false) :: (tgB n f ++ [(3, sm00, false)]) := by
  show tags (lnkR _ _ _) = _
  rw [tags_lnkR]
  show tags (lw4 n f) = _
  unfold lw4 lw3 lw2 lwA
  rw [tags_lnkO, tags_lnk, tags_add, tags_B, tags_add]
  rfl
theorem tgB_k : ∀ (m : Nat) (l : List Sm), ∀ t ∈ tgB m l, t.1 = 1 ∨ t.1 = 2 ∨ t.1 = 4
  | 0, l, t, h => by cases h
  | m + 1, l, t, h => by
    simp only [tgB, List.mem_flatMap] at h
    obtain ⟨s, _, h⟩ := h
    unfold tgS at h
    split at h
    · simp only [List.mem_cons, List.mem_append, List.not_mem_nil, or_false] at h
      rcases h with rfl | (h | h) | rfl
      · exact .inr (.inl rfl)
      · exact tgB_k m _ t h
      · exact tgB_k m _ t h
      · exact .inr (.inr rfl)
    split at h
    · simp only [List.mem_cons] at h
      rcases h with rfl | h
      · exact .inr (.inl rfl)
      · exact tgB_k m _ t h
    · simp only [List.mem_singleton] at h
      subst h; exact .inl rfl
/-- the numbers of the statements that have nodes -/
def atT (l : List Tg) : List Int := (l.filter fun t => t.1 == 1 || t.1 == 2).map fun t => t.2.1.no
theorem atT_app (a b : List Tg) : atT (a ++ b) = atT a ++ atT b := by simp [atT]
theorem tgS_mk (tb : List Sm → List Tg) (k no : Int) (x y : List UInt8) (e g : Ex) (cd : Cd) (ar : List Ar) (th el : List Sm) : tgS tb (.mk k x y e g cd ar th el no) = if (k == 10) = true then (2, .mk k x y e g cd ar th el no, false) :: (tb th ++ tb el ++ [(4, sm00, false)]) else if (k == 11) = true then (2, .mk k x y e g cd ar th el no, true) :: tb th else [(1, .mk k x y e g cd ar th el no, false)] := rfl
theorem atT_S {tb : List Sm → List Tg} (s : Sm) (hn : nsS s) (h1 : atT (tb s.th) = alB s.th) (h2 : atT (tb s.el) = alB s.el) : atT (tgS tb s) = alS s := by
  obtain ⟨k, x, y, e, g, cd, ar, th, el, no⟩ := s
  obtain ⟨n1, n2, n3, n4⟩ := hn
  replace h1 : atT (tb th) = alB th := h1
  replace h2 : atT (tb el) = alB el := h2
  rw [tgS_mk]
  have ha : alS (.mk k x y e g cd ar th el no) = no :: (alB th ++ alB el) := by simp only [alS]
  rw [ha]
  by_cases k0 : k = 10
  · subst k0
    rw [if_pos (show ((10 : Int) == 10) = true from rfl)]
    show atT ([(2, Sm.mk 10 x y e g cd ar th el no, false)] ++ ((tb th ++ tb el) ++ [(4, sm00, false)])) = _
    rw [atT_app, atT_app, atT_app, h1, h2]
    simp [atT, Sm.no]
  rw [if_neg (by simpa using k0)]
  by_cases k1 : k = 11
  · subst k1
    rw [if_pos (show ((11 : Int) == 11) = true from rfl), n1 k0]
    show atT ([(2, Sm.mk 11 x y e g cd ar th _ no, true)] ++ tb th) = _
    rw [atT_app, h1]
    simp [atT, Sm.no, alB]
  · rw [if_neg (by simpa using k1), n1 k0, n2 k0 k1]
    simp [atT, Sm.no, alB]
theorem atT_B : ∀ (m : Nat) (l : List Sm), okD m l → nsB l → atT (tgB m l) = alB l
  | 0, l, h, _ => h.elim
  | m + 1, [], h, _ => by simp [tgB, alB, atT]
  | m + 1, s :: l, h, hn => by
    obtain ⟨h1, h2⟩ := h.2 s (List.mem_cons_self ..)
    have hns : nsS s := hn.1
    have e : tgB (m + 1) (s :: l) = tgS (tgB m) s ++ tgB (m + 1) l := by simp [tgB]
    have hth : nsB s.th ∧ nsB s.el := by obtain ⟨k, x, y, e, g, cd, ar, th, el, no⟩ := s; exact ⟨hns.2.2.1, hns.2.2.2⟩
    rw [e, atT_app, atT_S s hns (atT_B m _ h1 hth.1) (atT_B m _ h2 hth.2), atT_B (m + 1) l ⟨by have := h.1; simp only [List.length_cons] at this; omega, fun s hs => h.2 s (List.mem_cons_of_mem _ hs)⟩ hn.2]
    rfl
termination_by m l => (m, l.length)

/- ways -/
abbrev nd (w : Lw) (i : Nat) : Nd := w.l.getD i nd0
theorem nd_add {k : Int} {s : Sm} {h : Bool} {w : Lw} {i : Nat} (hi : i < w.l.length) : nd (addW k s h w) i = nd w i := by
  simp [nd, addW, List.getD, List.getElem?_append_left hi]
theorem nd_new (k : Int) (s : Sm) (h : Bool) (w : Lw) : nd (addW k s h w) w.l.length = ⟨k, s, [], h⟩ := by simp [nd, addW, List.getD]
theorem nd_lnk (a b : Int) (w : Lw) (i : Nat) : nd (lnkW a b w) i = if i = a.toNat ∧ i < w.l.length then (nd w i).to b else nd w i := by
  simp only [nd, lnkW, List.getD, List.getElem?_set]
  by_cases h : a.toNat = i
  · subst h
    by_cases h2 : a.toNat < w.l.length
    · simp [h2]
    · simp [h2]
  · rw [if_neg h, if_neg (fun h3 => h h3.1.symm)]
theorem nd_lnk_h (a b : Int) (w : Lw) (i : Nat) : (nd (lnkW a b w) i).h = (nd w i).h := by rw [nd_lnk]; split <;> rfl
/-- nothing is lost -/
structure Gr (w w' : Lw) : Prop where
  len : w.l.length ≤ w'.l.length
  nx : ∀ i, i < w.l.length → ∀ x ∈ (nd w i).nx, x ∈ (nd w' i).nx
  h : ∀ i, i < w.l.length → (nd w' i).h = (nd w i).h
  r : ∀ x ∈ w.r, x ∈ w'.r
theorem Gr.refl (w : Lw) : Gr w w := ⟨Nat.le_refl _, fun _ _ _ h => h, fun _ _ => rfl, fun _ h => h⟩
theorem Gr.trans {a b c : Lw} (h : Gr a b) (k : Gr b c) : Gr a c :=
  ⟨Nat.le_trans h.len k.len, fun i hi x hx => k.nx i (Nat.lt_of_lt_of_le hi h.len) x (h.nx i hi x hx), fun i hi => (k.h i (Nat.lt_of_lt_of_le hi h.len)).trans (h.h i hi), fun x hx => k.r x (h.r x hx)⟩
theorem gr_add (k : Int) (s : Sm) (b : Bool) (w : Lw) : Gr w (addW k s b w) :=
  ⟨by rw [addW_len]; omega, fun i hi x hx => by rw [nd_add hi]; exact hx, fun i hi => by rw [nd_add hi], fun x hx => hx⟩
theorem gr_lnk (a b : Int) (w : Lw) : Gr w (lnkW a b w) :=
  ⟨by rw [lnkW_len]; exact Nat.le_refl _, fun i hi x hx => by
    rw [nd_lnk]; split
    · exact List.mem_append.2 (.inl hx)
    · exact hx, fun i _ => nd_lnk_h a b w i, fun x hx => hx⟩
theorem gr_lnkO (a b : Int) (w : Lw) : Gr w (lnkO a b w) := by unfold lnkO; split; exact .refl w; exact gr_lnk a b w
theorem gr_addR (n : Int) (w : Lw) : Gr w (addR n w) := ⟨Nat.le_refl _, fun _ _ _ h => h, fun _ _ => rfl, fun x hx => List.mem_append.2 (.inl hx)⟩
theorem gr_lnkR (x : Int) : ∀ (r : List Int) (w : Lw), Gr w (lnkR x r w)
  | [], w => .refl w
  | a :: r, w => (gr_lnk a x w).trans (gr_lnkR x r _)
theorem lnk_has {a b : Int} {w : Lw} (ha : 0 ≤ a ∧ a < (w.l.length : Int)) : b ∈ (nd (lnkW a b w) a.toNat).nx := by
  rw [nd_lnk, if_pos ⟨rfl, by omega⟩]
  exact List.mem_append.2 (.inr (List.mem_singleton.2 rfl))
/-- there is a way -/
inductive Pt (w : Lw) (a : Nat) : Nat → Prop where
  | refl : Pt w a a
  | step (b : Nat) (c : Int) (h : Pt w a b) (hb : b < w.l.length) (hc : c ∈ (nd w b).nx) (h0 : 0 ≤ c) : Pt w a c.toNat
theorem Pt.mono {w w' : Lw} (g : Gr w w') {a b : Nat} (h : Pt w a b) : Pt w' a b := by
  induction h with
  | refl => exact .refl
  | step b c _ hb hc h0 ih => exact .step b c ih (Nat.lt_of_lt_of_le hb g.len) (g.nx b hb c hc) h0
theorem Pt.trans {w : Lw} {a b c : Nat} (h : Pt w a b) (k : Pt w b c) : Pt w a c := by
  induction k with
  | refl => exact h
  | step b c _ hb hc h0 ih => exact .step b c ih hb hc h0
/-- each way leads somewhere, and back to heads alone -/
structure Q3 (w : Lw) : Prop where
  e : ∀ i, i < w.l.length → ∀ x ∈ (nd w i).nx, 0 ≤ x ∧ x < (w.l.length : Int) ∧ (x ≤ (i : Int) → (nd w x.toNat).h = true)
  r : ∀ x ∈ w.r, 0 ≤ x ∧ x < (w.l.length : Int)
theorem Q3.add {w : Lw} (q : Q3 w) (k : Int) (s : Sm) (b : Bool) : Q3 (addW k s b w) := by
  refine ⟨fun i hi x hx => ?_, fun x hx => by have := q.r x hx; rw [addW_len]; omega⟩
  rw [addW_len] at hi ⊢
  by_cases h : i < w.l.length
  · rw [nd_add h] at hx
    obtain ⟨a1, a2, a3⟩ := q.e i h x hx
    exact ⟨a1, by omega, fun h2 => by rw [nd_add (by omega)]; exact a3 h2⟩
  · have : i = w.l.length := by omega
    subst this
    rw [nd_new] at hx; cases hx
theorem Q3.lnk {w : Lw} (q : Q3 w) {a b : Int} (ha : 0 ≤ a ∧ a < (w.l.length : Int)) (hb : 0 ≤ b ∧ b < (w.l.length : Int)) (h : b ≤ a → (nd w b.toNat).h = true) : Q3 (lnkW a b w) := by
  refine ⟨fun i hi x hx => ?_, fun x hx => by have := q.r x hx; rw [lnkW_len]; exact this⟩
  rw [lnkW_len] at hi ⊢
  rw [nd_lnk_h]
  rw [nd_lnk] at hx
  split at hx
  · rename_i hia
    rcases List.mem_append.1 hx with h1 | h1
    · exact q.e i hi x h1
    · rw [List.mem_singleton.1 h1]
      exact ⟨hb.1, hb.2, fun h2 => h (by omega)⟩
  · exact q.e i hi x hx
theorem Q3.lnkO {w : Lw} (q : Q3 w) {a b : Int} (ha : rf w a) (hb : 0 ≤ b ∧ b < (w.l.length : Int)) (h : b ≤ a → (nd w b.toNat).h = true) : Q3 (lnkO a b w) := by
  unfold Go.Proofs.Ytiipmaoonnjlpaa.lnkO
  split
  · exact q
  · rename_i hn
    rcases ha with rfl | ha
    · exact absurd rfl hn
    · exact q.lnk ha hb h
theorem Q3.addR {w : Lw} (q : Q3 w) {n : Int} (hn : 0 ≤ n ∧ n < (w.l.length : Int)) : Q3 (addR n w) :=
  ⟨q.e, fun x hx => by
    rcases List.mem_append.1 hx with h | h
    · exact q.r x h
    · rw [List.mem_singleton.1 h]; exact hn⟩
/-- a way on, or to a return -/
def On (w : Lw) (f : Nat) (o : Int) : Prop := (o ≠ -1 ∧ Pt w f o.toNat) ∨ ∃ x ∈ w.r, Pt w f x.toNat
theorem On.mono {w w' : Lw} (g : Gr w w') {f : Nat} {o : Int} (h : On w f o) : On w' f o := by
  rcases h with ⟨h1, h2⟩ | ⟨x, h1, h2⟩
  · exact .inl ⟨h1, h2.mono g⟩
  · exact .inr ⟨x, g.r x h1, h2.mono g⟩
structure SP (w : Lw) (r : LR) : Prop where
  g : Gr w r.2
  q : Q3 r.2
  f : r.1.1 = (w.l.length : Int)
  len : w.l.length < r.2.l.length
  o : rf r.2 r.1.2
  p : On r.2 w.l.length r.1.2
structure BP (l : List Sm) (w : Lw) (r : LR) : Prop where
  g : Gr w r.2
  q : Q3 r.2
  o : rf r.2 r.1.2
  e : l = [] → r.1 = (-1, -1)
  n : l ≠ [] → r.1.1 = (w.l.length : Int) ∧ w.l.length < r.2.l.length ∧ On r.2 w.l.length r.1.2
section
variable {bl : List Sm → Lw → LR}
theorem On.lnk {w : Lw} {f : Nat} {o b : Int} {f2 : Nat} {o2 : Int} (h : On w f o) (ho : rf w o) (hb : b.toNat = f2) (hb0 : 0 ≤ b) (h2 : On w f2 o2) : On (lnkO o b w) f o2 := by
  have g := gr_lnkO o b w
  rcases h with ⟨h1, h3⟩ | ⟨x, h1, h3⟩
  · have hn : (o == -1) = false := by rw [beq_eq_false_iff_ne]; exact h1
    have ho' : 0 ≤ o ∧ o < (w.l.length : Int) := by
      rcases ho with h | h
      · exact absurd h h1
      · exact h
    have he : lnkO o b w = lnkW o b w := by unfold lnkO; rw [if_neg (by rw [hn]; decide)]
    have h4 : Pt (lnkO o b w) f f2 := by
      have := Pt.step (w := lnkO o b w) (a := f) o.toNat b (h3.mono g) (by rw [he, lnkW_len]; omega) (by rw [he]; exact lnk_has ho') hb0
      rw [hb] at this; exact this
    rcases h2 with ⟨k1, k2⟩ | ⟨x, k1, k2⟩
    · exact .inl ⟨k1, h4.trans (k2.mono g)⟩
    · exact .inr ⟨x, g.r x k1, h4.trans (k2.mono g)⟩
  · exact .inr ⟨x, g.r x h1, h3.mono g⟩
theorem pla_sp {s : Sm} {w : Lw} (q : Q3 w) : SP w (plaL s w) := by
  have e := addW_len 1 s false w
  unfold plaL
  split
  · exact ⟨(gr_add 1 s false w).trans (gr_addR _ _), (q.add 1 s false).addR ⟨by omega, by omega⟩, rfl, by show _ < (addW 1 s false w).l.length; omega, .inl rfl, .inr ⟨(w.l.length : Int), List.mem_append.2 (.inr (List.mem_singleton.2 rfl)), by rw [Int.toNat_natCast]; exact .refl⟩⟩
  · exact ⟨gr_add 1 s false w, q.add 1 s false, rfl, by show _ < (addW 1 s false w).l.length; omega, .inr ⟨by simp, by simp only [e]; omega⟩, .inl ⟨by simp only; omega, by simp only [Int.toNat_natCast]; exact .refl⟩⟩
theorem loo_sp {m : Nat} (hb : ∀ l w, okD m l → Q3 w → BP l w (bl l w)) {s : Sm} (d1 : okD m s.th) (d2 : okD m s.el) {w : Lw} (q : Q3 w) : SP w (looL bl s w) := by
  have e := addW_len 2 s true w
  have q1 := q.add 2 s true
  have A := hb s.th _ d1 q1
  have hA : loA bl s w = bl s.th (addW 2 s true w) := rfl
  rw [← hA] at A
  have gl := A.g.len
  have hh : (nd (loA bl s w).2 w.l.length).h = true := by rw [A.g.h _ (by omega), nd_new]
  have t0 : ((w.l.length : Int)).toNat = w.l.length := Int.toNat_natCast _
  have q2 : Q3 (lo1 bl s w) := by
    unfold lo1
    refine A.q.lnk ⟨by omega, by omega⟩ ?_ ?_
    · unfold orI; split
      · exact ⟨by omega, by omega⟩
      · rename_i h
        by_cases hn : s.th = []
        · rw [A.e hn] at h; exact absurd rfl h
        · obtain ⟨n1, n2, _⟩ := A.n hn
          rw [n1]; exact ⟨by omega, by omega⟩
    · unfold orI; split
      · intro _; rw [t0]; exact hh
      · rename_i h
        by_cases hn : s.th = []
        · rw [A.e hn] at h; exact absurd rfl h
        · obtain ⟨n1, n2, _⟩ := A.n hn
          rw [n1]; intro h2; omega
  have l1 : (lo1 bl s w).l.length = (loA bl s w).2.l.length := lnkW_len _ _ _
  have hh1 : (nd (lo1 bl s w) w.l.length).h = true := by unfold lo1; rw [nd_lnk_h]; exact hh
  have q3 : Q3 (lo2 bl s w) := q2.lnkO (A.o.mono (by omega)) ⟨by omega, by omega⟩ (fun _ => by rw [t0]; exact hh1)
  have l2 : (lo2 bl s w).l.length = (loA bl s w).2.l.length := by unfold lo2; rw [lnkO_len, l1]
  have g : Gr w (lo2 bl s w) := (((gr_add 2 s true w).trans A.g).trans (gr_lnk _ _ _)).trans (gr_lnkO _ _ _)
  exact ⟨g, q3, rfl, by show _ < (lo2 bl s w).l.length; omega, .inr ⟨by simp [looL], by show (w.l.length : Int) < ((lo2 bl s w).l.length : Int); omega⟩, .inl ⟨by show (w.l.length : Int) ≠ -1; omega, by show Pt _ _ ((w.l.length : Int)).toNat; rw [t0]; exact .refl⟩⟩
theorem bra_sp {m : Nat} (hb : ∀ l w, okD m l → Q3 w → BP l w (bl l w)) {s : Sm} (d1 : okD m s.th) (d2 : okD m s.el) {w : Lw} (q : Q3 w) : SP w (braL bl s w) := by
  have e := addW_len 2 s false w
  have q1 := q.add 2 s false
  have A : BP s.th (addW 2 s false w) (brA bl s w) := hb s.th _ d1 q1
  have B : BP s.el (brA bl s w).2 (brB bl s w) := hb s.el _ d2 A.q
  have gl := A.g.len
  have gl2 := B.g.len
  have e2 : (br2 bl s w).l.length = (brB bl s w).2.l.length + 1 := addW_len _ _ _ _
  have q2 : Q3 (br2 bl s w) := B.q.add 4 sm00 false
  have hJ : brJ bl s w = ((brB bl s w).2.l.length : Int) := rfl
  have fA : (brA bl s w).1.1 = -1 ∨ (brA bl s w).1.1 = (w.l.length : Int) + 1 := by
    by_cases hn : s.th = []
    · left; rw [A.e hn]
    · right; rw [(A.n hn).1]; omega
  have fB : (brB bl s w).1.1 = -1 ∨ ((brB bl s w).1.1 = ((brA bl s w).2.l.length : Int) ∧ (brA bl s w).2.l.length < (brB bl s w).2.l.length) := by
    by_cases hn : s.el = []
    · left; rw [B.e hn]
    · right; exact ⟨(B.n hn).1, (B.n hn).2.1⟩
  have hx : w.l.length < (brA bl s w).2.l.length := by omega
  have hfA : (brA bl s w).1.1 = (w.l.length : Int) + 1 → (w.l.length : Int) + 1 < ((br2 bl s w).l.length : Int) := by
    intro h
    by_cases hn : s.th = []
    · rw [A.e hn] at h; simp only at h; omega
    · have := (A.n hn).2.1; omega
  have q3 : Q3 (br3 bl s w) := by
    unfold br3
    refine q2.lnk ⟨by omega, by omega⟩ ?_ ?_
    · unfold orI; split
      · rw [hJ]; exact ⟨by omega, by omega⟩
      · rename_i h
        rcases fA with h1 | h1
        · rw [h1] at h; exact absurd rfl h
        · have := hfA h1; rw [h1]; exact ⟨by omega, by omega⟩
    · unfold orI; split
      · rw [hJ]; intro h; omega
      · rename_i h
        rcases fA with h1 | h1
        · rw [h1] at h; exact absurd rfl h
        · rw [h1]; intro h; omega
  have l3 : (br3 bl s w).l.length = (br2 bl s w).l.length := lnkW_len _ _ _
  have q4 : Q3 (br4 bl s w) := by
    unfold br4
    refine q3.lnk ⟨by omega, by omega⟩ ?_ ?_
    · unfold orI; split
      · rw [hJ]; exact ⟨by omega, by omega⟩
      · rename_i h
        rcases fB with h1 | ⟨h1, h2⟩
        · rw [h1] at h; exact absurd rfl h
        · rw [h1]; exact ⟨by omega, by omega⟩
    · unfold orI; split
      · rw [hJ]; intro h; omega
      · rename_i h
        rcases fB with h1 | ⟨h1, h2⟩
        · rw [h1] at h; exact absurd rfl h
        · rw [h1]; intro h; omega
  have l4 : (br4 bl s w).l.length = (br2 bl s w).l.length := by unfold br4; rw [lnkW_len, l3]
  have oA : rf (br4 bl s w) (brA bl s w).1.2 := A.o.mono (by omega)
  have q5 : Q3 (br5 bl s w) := q4.lnkO oA (by rw [hJ]; exact ⟨by omega, by omega⟩) (by
    rw [hJ]; intro h
    rcases A.o with h1 | h1
    · rw [h1] at h; omega
    · omega)
  have l5 : (br5 bl s w).l.length = (br2 bl s w).l.length := by unfold br5; rw [lnkO_len, l4]
  have q6 : Q3 (br6 bl s w) := q5.lnkO (B.o.mono (by omega)) (by rw [hJ]; exact ⟨by omega, by omega⟩) (by
    rw [hJ]; intro h
    rcases B.o with h1 | h1
    · rw [h1] at h; omega
    · omega)
  have l6 : (br6 bl s w).l.length = (br2 bl s w).l.length := by unfold br6; rw [lnkO_len, l5]
  have g2 : Gr (brA bl s w).2 (br2 bl s w) := B.g.trans (gr_add _ _ _ _)
  have g34 : Gr (br3 bl s w) (br4 bl s w) := gr_lnk _ _ _
  have g45 : Gr (br4 bl s w) (br5 bl s w) := gr_lnkO _ _ _
  have g56 : Gr (br5 bl s w) (br6 bl s w) := gr_lnkO _ _ _
  have g24 : Gr (br2 bl s w) (br4 bl s w) := Gr.trans (gr_lnk _ _ _) g34
  have g : Gr w (br6 bl s w) := ((((gr_add 2 s false w).trans A.g).trans g2).trans g24).trans (g45.trans g56)
  have on : On (br6 bl s w) w.l.length (brJ bl s w) := by
    have ed : orI (brA bl s w).1.1 (brJ bl s w) ∈ (nd (br3 bl s w) ((w.l.length : Int)).toNat).nx := lnk_has ⟨by omega, by omega⟩
    rw [Int.toNat_natCast] at ed
    by_cases hn : s.th = []
    · have h1 : (brA bl s w).1.1 = -1 := by rw [A.e hn]
      rw [h1] at ed
      have ed : brJ bl s w ∈ (nd (br3 bl s w) w.l.length).nx := ed
      exact .inl ⟨by rw [hJ]; omega, (Pt.step w.l.length _ .refl (by omega) ed (by rw [hJ]; omega)).mono ((g34.trans g45).trans g56)⟩
    · obtain ⟨n1, n2, n3⟩ := A.n hn
      rw [e] at n1 n3
      have hne : ((brA bl s w).1.1 == -1) = false := by rw [beq_eq_false_iff_ne, n1]; omega
      have ho : orI (brA bl s w).1.1 (brJ bl s w) = ((w.l.length + 1 : Nat) : Int) := by unfold orI; rw [if_neg (by rw [hne]; decide), n1]
      rw [ho] at ed
      have p1 : Pt (br4 bl s w) w.l.length (w.l.length + 1) := by
        have := (Pt.step (w := br3 bl s w) (a := w.l.length) w.l.length _ .refl (by omega) ed (by omega)).mono g34
        rw [Int.toNat_natCast] at this; exact this
      have p2 : On (br4 bl s w) w.l.length (brA bl s w).1.2 := by
        rcases n3.mono (g2.trans g24) with ⟨h1, h2⟩ | ⟨x, h1, h2⟩
        · exact .inl ⟨h1, p1.trans h2⟩
        · exact .inr ⟨x, h1, p1.trans h2⟩
      have p3 : On (br4 bl s w) (brJ bl s w).toNat (brJ bl s w) := .inl ⟨by rw [hJ]; omega, .refl⟩
      exact (On.lnk p2 oA rfl (by rw [hJ]; omega) p3).mono g56
  exact ⟨g, q6, rfl, by show _ < (br6 bl s w).l.length; omega, .inr ⟨by show 0 ≤ brJ bl s w; rw [hJ]; omega, by show brJ bl s w < ((br6 bl s w).l.length : Int); rw [hJ]; omega⟩, on⟩
theorem lwS_sp {m : Nat} (hb : ∀ l w, okD m l → Q3 w → BP l w (bl l w)) (s : Sm) (d1 : okD m s.th) (d2 : okD m s.el) {w : Lw} (q : Q3 w) : SP w (lwS bl s w) := by
  unfold lwS
  split
  · exact bra_sp hb d1 d2 q
  split
  · exact loo_sp hb d1 d2 q
  · exact pla_sp q
theorem bk_sp {m : Nat} (hb : ∀ l w, okD m l → Q3 w → BP l w (bl l w)) : ∀ (l : List Sm) (p : Int × Int) (w : Lw) (f : Nat), (∀ s ∈ l, okD m s.th ∧ okD m s.el) → Q3 w → rf w p.2 → On w f p.2 →
    Gr w (bkL (lwS bl) l false p w).2 ∧ Q3 (bkL (lwS bl) l false p w).2 ∧ rf (bkL (lwS bl) l false p w).2 (bkL (lwS bl) l false p w).1.2 ∧ (bkL (lwS bl) l false p w).1.1 = p.1 ∧ On (bkL (lwS bl) l false p w).2 f (bkL (lwS bl) l false p w).1.2
  | [], p, w, f, _, q, ho, hp => ⟨.refl w, q, ho, rfl, hp⟩
  | s :: r, p, w, f, hd, q, ho, hp => by
    obtain ⟨d1, d2⟩ := hd s (List.mem_cons_self ..)
    have S := lwS_sp hb s d1 d2 q
    have gl := S.g.len
    have hlo : rf (lwS bl s w).2 p.2 := ho.mono gl
    have l2 : (lnkO p.2 (lwS bl s w).1.1 (lwS bl s w).2).l.length = (lwS bl s w).2.l.length := lnkO_len _ _ _
    have q2 : Q3 (lnkO p.2 (lwS bl s w).1.1 (lwS bl s w).2) := S.q.lnkO hlo (by rw [S.f]; exact ⟨by omega, by have := S.len; omega⟩) (by
      rw [S.f]; intro h
      rcases ho with h1 | h1
      · rw [h1] at h; omega
      · omega)
    have on2 := On.lnk (b := (lwS bl s w).1.1) (hp.mono S.g) hlo (by rw [S.f, Int.toNat_natCast]) (by rw [S.f]; omega) S.p
    obtain ⟨a1, a2, a3, a4, a5⟩ := bk_sp hb r (p.1, (lwS bl s w).1.2) _ f (fun s hs => hd s (List.mem_cons_of_mem _ hs)) q2 (S.o.mono (by omega)) on2
    exact ⟨(S.g.trans (gr_lnkO _ _ _)).trans a1, a2, a3, a4, a5⟩
end
theorem lwB_bp : ∀ (m : Nat) (l : List Sm) (w : Lw), okD m l → Q3 w → BP l w (lwB m l w)
  | 0, l, w, h, _ => h.elim
  | m + 1, [], w, _, q => ⟨.refl w, q, .inl rfl, fun _ => rfl, fun h => absurd rfl h⟩
  | m + 1, s :: r, w, h, q => by
    have hb := fun l w => lwB_bp m l w
    obtain ⟨d1, d2⟩ := h.2 s (List.mem_cons_self ..)
    have S := lwS_sp hb s d1 d2 q
    have e : lwB (m + 1) (s :: r) w = bkL (lwS (lwB m)) r false ((lwS (lwB m) s w).1.1, (lwS (lwB m) s w).1.2) (lwS (lwB m) s w).2 := rfl
    obtain ⟨a1, a2, a3, a4, a5⟩ := bk_sp hb r ((lwS (lwB m) s w).1.1, (lwS (lwB m) s w).1.2) (lwS (lwB m) s w).2 w.l.length (fun s hs => h.2 s (List.mem_cons_of_mem _ hs)) S.q S.o S.p
    rw [← e] at a1 a2 a3 a4 a5
    exact ⟨S.g.trans a1, a2, a3, (fun h => by cases h), fun _ => ⟨by rw [a4]; exact S.f, by have := S.len; have := a1.len; omega, a5⟩⟩
/-- what the law asks of a graph -/
structure En (L : List Nd) : Prop where
  two : 2 ≤ L.length
  ex : ∀ i, i < L.length → ((L.getD i nd0).k = 3 ↔ i = L.length - 1)
  en : ∀ i, i < L.length → ((L.getD i nd0).k = 0 ↔ i = 0)
  ed : ∀ i, i < L.length → ∀ x ∈ (L.getD i nd0).nx, 0 ≤ x ∧ x < (L.length : Int) ∧ (x ≤ (i : Int) → (L.getD x.toNat nd0).h = true)
  re : Rc (L.map Nd.g) (L.length - 1)
theorem lnkR_q {X : Int} : ∀ (r : List Int) (w : Lw), Q3 w → (∀ x ∈ r, 0 ≤ x ∧ x < X) → X < (w.l.length : Int) → Q3 (lnkR X r w)
  | [], w, q, _, _ => q
  | a :: r, w, q, h, hX => by
    obtain ⟨h1, h2⟩ := h a (List.mem_cons_self ..)
    exact lnkR_q r _ (q.lnk ⟨h1, by omega⟩ ⟨by omega, hX⟩ (fun h => by omega)) (fun x hx => h x (List.mem_cons_of_mem _ hx)) (by rw [lnkW_len]; exact hX)
theorem lnkR_has {X : Int} : ∀ (r : List Int) (w : Lw) (x : Int), x ∈ r → (0 ≤ x ∧ x < (w.l.length : Int)) → X ∈ (nd (lnkR X r w) x.toNat).nx
  | a :: r, w, x, hx, hl => by
    rcases List.mem_cons.1 hx with rfl | hx
    · exact (gr_lnkR X r _).nx x.toNat (by rw [lnkW_len]; omega) X (lnk_has hl)
    · exact lnkR_has r _ x hx (by rw [lnkW_len]; exact hl)
theorem lw0_q : Q3 lw0 := ⟨fun i hi => absurd hi (Nat.not_lt_zero _), fun x hx => by cases hx⟩
theorem low_q {n : Nat} {f : List Sm} (hd : okD n f) : Q3 (lw5 n f) ∧ Pt (lw5 n f) 0 (lwA n f).2.l.length ∧ (lw5 n f).l.length = (lwA n f).2.l.length + 1 := by
  have q1 : Q3 (addW 0 sm00 false lw0) := lw0_q.add _ _ _
  have A : BP f (addW 0 sm00 false lw0) (lwA n f) := lwB_bp n f _ hd q1
  obtain ⟨e1, e2, e3, e4⟩ := lw_len hd
  have hX : lwX n f = ((lwA n f).2.l.length : Int) := rfl
  have a0 : (addW 0 sm00 false lw0).l.length = 1 := rfl
  have q2 : Q3 (lw2 n f) := A.q.add _ _ _
  have fA : (f = [] ∧ (lwA n f).1.1 = -1) ∨ (f ≠ [] ∧ (lwA n f).1.1 = 1 ∧ 1 < (lwA n f).2.l.length) := by
    by_cases hn : f = []
    · left; exact ⟨hn, by rw [A.e hn]⟩
    · right
      obtain ⟨n1, n2, _⟩ := A.n hn
      rw [a0] at n1 n2
      exact ⟨hn, n1, n2⟩
  have q3 : Q3 (lw3 n f) := by
    unfold lw3
    refine q2.lnk ⟨by omega, by omega⟩ ?_ ?_
    · unfold orI; split
      · rw [hX]; exact ⟨by omega, by omega⟩
      · rename_i h
        rcases fA with ⟨_, h1⟩ | ⟨_, h1, h2⟩
        · rw [h1] at h; exact absurd rfl h
        · rw [h1]; exact ⟨by omega, by omega⟩
    · unfold orI; split
      · rw [hX]; intro h; omega
      · rename_i h
        rcases fA with ⟨_, h1⟩ | ⟨_, h1, h2⟩
        · rw [h1] at h; exact absurd rfl h
        · rw [h1]; intro h; omega
  have oA : rf (lw3 n f) (lwA n f).1.2 := A.o.mono (by omega)
  have q4 : Q3 (lw4 n f) := q3.lnkO oA (by rw [hX]; exact ⟨by omega, by omega⟩) (by
    rw [hX]; intro h
    rcases A.o with h1 | h1
    · rw [h1] at h; omega
    · omega)
  have r4 : (lw4 n f).r = (lwA n f).2.r := by
    unfold lw4 lnkO
    split <;> rfl
  have q4' : Q3 { lw4 n f with z := true } := ⟨q4.e, q4.r⟩
  have rX : ∀ x ∈ (lw4 n f).r, 0 ≤ x ∧ x < lwX n f := fun x hx => by rw [r4] at hx; exact A.q.r x hx
  have q5 : Q3 (lw5 n f) := lnkR_q _ _ q4' rX (by show lwX n f < ((lw4 n f).l.length : Int); rw [hX]; omega)
  have g45 : Gr (lw4 n f) (lw5 n f) := by
    have h := gr_lnkR (lwX n f) (lw4 n f).r { lw4 n f with z := true }
    exact ⟨h.len, h.nx, h.h, h.r⟩
  have g34 : Gr (lw3 n f) (lw4 n f) := gr_lnkO _ _ _
  have g2 : Gr (lwA n f).2 (lw3 n f) := Gr.trans (gr_add _ _ _ _) (gr_lnk _ _ _)
  have l5 : (lw5 n f).l.length = (lwA n f).2.l.length + 1 := by
    show (lnkR _ _ _).l.length = _
    rw [lnkR_len]; exact e4
  refine ⟨q5, ?_, l5⟩
  have ed : orI (lwA n f).1.1 (lwX n f) ∈ (nd (lw3 n f) ((0 : Int)).toNat).nx := lnk_has ⟨by omega, by omega⟩
  have ed : orI (lwA n f).1.1 (lwX n f) ∈ (nd (lw3 n f) 0).nx := ed
  rcases fA with ⟨_, h1⟩ | ⟨hn, h1, h2⟩
  · rw [h1] at ed
    have ed : lwX n f ∈ (nd (lw3 n f) 0).nx := ed
    have := (Pt.step (w := lw3 n f) (a := 0) 0 _ .refl (by omega) ed (by rw [hX]; omega)).mono (g34.trans g45)
    rw [hX, Int.toNat_natCast] at this; exact this
  · have ho : orI (lwA n f).1.1 (lwX n f) = 1 := by unfold orI; rw [if_neg (by rw [h1]; decide), h1]
    rw [ho] at ed
    have p1 : Pt (lw3 n f) 0 1 := Pt.step (w := lw3 n f) (a := 0) 0 1 .refl (by omega) ed (by omega)
    obtain ⟨_, _, n3⟩ := A.n hn
    rw [a0] at n3
    have p2 : On (lw3 n f) 0 (lwA n f).1.2 := by
      rcases n3.mono g2 with ⟨k1, k2⟩ | ⟨x, k1, k2⟩
      · exact .inl ⟨k1, p1.trans k2⟩
      · exact .inr ⟨x, k1, p1.trans k2⟩
    have p3 : On (lw3 n f) (lwX n f).toNat (lwX n f) := .inl ⟨by rw [hX]; omega, .refl⟩
    have p4 : On (lw4 n f) 0 (lwX n f) := On.lnk p2 oA rfl (by rw [hX]; omega) p3
    rcases p4 with ⟨_, k2⟩ | ⟨x, k1, k2⟩
    · have := k2.mono g45
      rw [hX, Int.toNat_natCast] at this; exact this
    · have hx := rX x k1
      have := Pt.step (w := lw5 n f) (a := 0) x.toNat (lwX n f) (k2.mono g45) (by rw [hX] at hx; omega) (lnkR_has _ _ x k1 ⟨hx.1, by show x < ((lw4 n f).l.length : Int); rw [hX] at hx; omega⟩) (by rw [hX]; omega)
      rw [hX, Int.toNat_natCast] at this; exact this
theorem pt_rc {w : Lw} (q : Q3 w) (h0 : 0 < w.l.length) {b : Nat} (h : Pt w 0 b) : Rc (w.l.map Nd.g) b := by
  induction h with
  | refl => exact .zero (by simpa using h0)
  | step b c _ hb hc hc0 ih =>
    have hgd : ((w.l.map Nd.g).getD b gq0).nx = (nd w b).nx := by simp [nd, List.getD, hb, Nd.g]
    exact .step b c ih (by rw [hgd]; exact hc) hc0 (by have := (q.e b hb c hc).2.1; simpa using this)
theorem getD_tag {L : List Nd} {i : Nat} (h : i < L.length) : (L.map tgOf)[i]? = some (tgOf (L.getD i nd0)) := by simp [List.getD, h]
theorem low_en {n : Nat} {f : List Sm} (hd : okD n f) : En (lowF n f) := by
  obtain ⟨q, pt, l5⟩ := low_q hd
  have hl : (lowF n f).length = (lwA n f).2.l.length + 1 := l5
  have h2 := low_len2 hd
  have ht := tags_low n f
  have hlt : (lowF n f).length = (tgB n f).length + 2 := by
    have := congrArg List.length ht
    simp only [List.length_map, List.length_cons, List.length_append, List.length_nil] at this
    omega
  have key : ∀ i, i < (lowF n f).length → (i = 0 ∧ ((lowF n f).getD i nd0).k = 0) ∨ (i = (lowF n f).length - 1 ∧ ((lowF n f).getD i nd0).k = 3) ∨ (0 < i ∧ i < (lowF n f).length - 1 ∧ (((lowF n f).getD i nd0).k = 1 ∨ ((lowF n f).getD i nd0).k = 2 ∨ ((lowF n f).getD i nd0).k = 4)) := by
    intro i hi
    have g := getD_tag hi
    rw [ht] at g
    cases i with
    | zero =>
      left
      simp only [List.getElem?_cons_zero, Option.some.injEq] at g
      exact ⟨rfl, by have := congrArg Prod.fst g; exact this.symm⟩
    | succ i =>
      right
      rw [List.getElem?_cons_succ] at g
      by_cases h3 : i < (tgB n f).length
      · right
        rw [List.getElem?_append_left h3] at g
        have hm := tgB_k n f _ (List.mem_of_getElem? g)
        exact ⟨by omega, by omega, hm⟩
      · left
        have hi3 : i = (tgB n f).length := by omega
        subst hi3
        rw [List.getElem?_append_right (Nat.le_refl _)] at g
        simp only [Nat.sub_self, List.getElem?_cons_zero, Option.some.injEq] at g
        exact ⟨by omega, by have := congrArg Prod.fst g; exact this.symm⟩
  refine ⟨by omega, fun i hi => ?_, fun i hi => ?_, q.e, ?_⟩
  · rcases key i hi with ⟨h1, h3⟩ | ⟨h1, h3⟩ | ⟨h1, h3, h4⟩
    · rw [h3]; constructor
      · intro h; exact absurd h (by decide)
      · intro h; omega
    · rw [h3]; exact ⟨fun _ => h1, fun _ => rfl⟩
    · constructor
      · intro h; rw [h] at h4; exact absurd h4 (by decide)
      · intro h; omega
  · rcases key i hi with ⟨h1, h3⟩ | ⟨h1, h3⟩ | ⟨h1, h3, h4⟩
    · rw [h3]; exact ⟨fun _ => h1, fun _ => rfl⟩
    · rw [h3]; constructor
      · intro h; exact absurd h (by decide)
      · intro h; omega
    · constructor
      · intro h; rw [h] at h4; exact absurd h4 (by decide)
      · intro h; omega
  · have := pt_rc q (by omega) pt
    rw [hl, Nat.add_sub_cancel]; exact this
/-- the numbers of the nodes that stand for statements -/
def atL (L : List Nd) : List Int := (L.filter fun x => x.k == 1 || x.k == 2).map fun x => x.s.no
theorem atL_tag (L : List Nd) : atL L = atT (L.map tgOf) := by
  induction L with
  | nil => rfl
  | cons x l ih =>
    simp only [atL, atT, List.map_cons, List.filter_cons, tgOf] at ih ⊢
    split <;> simp [ih]
theorem low_at {n : Nat} {f : List Sm} (hd : okD n f) (hn : nsB f) : atL (lowF n f) = alB f := by
  rw [atL_tag, tags_low, show ∀ (a : List Tg) (t u : Tg), t :: (a ++ [u]) = [t] ++ (a ++ [u]) from fun a t u => rfl, atT_app, atT_app, atT_B n f hd hn]
  simp [atT]
end Go.Proofs.Ytiipmaoonnjlpaa
