/- Each node has just as many ways as its kind asks for. No conditions but those in each statement. -/
import Derived.Test.YtiipmaoonnjlpaaSh3
import Derived.Test.YtiipmaoonnjlpaaFg
import Derived.Test.YtiipmaoonnjlpaaGr2
set_option linter.unusedVariables false
set_option linter.unusedSimpArgs false
namespace Go.Proofs.Ytiipmaoonnjlpaa
open Go Go.Sy Go.RowKit

/-- how many ways a node of a kind has -/
def need (k : Int) : Nat := if (k == 2) = true then 2 else if (k == 3) = true then 0 else 1
def eI (a : Int) (i : Nat) : Nat := if (i : Int) = a then 1 else 0
/-- what is still lacking of ways, of each node -/
structure Bal (w : Lw) (g : Nat → Nat) : Prop where
  b : ∀ i, i < w.l.length → need (nd w i).k = (nd w i).nx.length + g i + w.r.count (i : Int)
  r : ∀ x ∈ w.r, 0 ≤ x ∧ x < (w.l.length : Int)
  z : ∀ i, w.l.length ≤ i → g i = 0
theorem Bal.cg {w : Lw} {g g' : Nat → Nat} (h : Bal w g) (e : ∀ i, g i = g' i) : Bal w g' := by
  have : g = g' := funext e
  rw [← this]; exact h
theorem Bal.add {w : Lw} {g : Nat → Nat} (h : Bal w g) (k : Int) (s : Sm) (b : Bool) : Bal (addW k s b w) (fun i => g i + need k * eI (w.l.length : Int) i) := by
  have el := addW_len k s b w
  refine ⟨fun i hi => ?_, fun x hx => ?_, fun i hi => ?_⟩
  · by_cases hlt : i < w.l.length
    · have e1 : nd (addW k s b w) i = nd w i := by simp [nd, addW, List.getD, List.getElem?_append_left hlt]
      have e2 : eI (w.l.length : Int) i = 0 := by unfold eI; rw [if_neg (by omega)]
      rw [e1, e2, h.b i hlt]; simp [addW]
    · have hi2 : i = w.l.length := by omega
      subst hi2
      have e1 : nd (addW k s b w) w.l.length = ⟨k, s, [], b⟩ := by simp [nd, addW, List.getD]
      have e2 : eI (w.l.length : Int) w.l.length = 1 := by unfold eI; rw [if_pos rfl]
      have e3 : (addW k s b w).r.count (w.l.length : Int) = 0 := by
        rw [List.count_eq_zero]
        intro hm
        have := (h.r _ hm).2
        omega
      rw [e1, e2, e3, h.z _ (Nat.le_refl _)]; simp
  · have := h.r x hx; rw [el]; omega
  · rw [el] at hi
    have e2 : eI (w.l.length : Int) i = 0 := by unfold eI; rw [if_neg (by omega)]
    show g i + need k * eI _ i = 0
    rw [e2, h.z i (by omega)]; simp
theorem Bal.lnk {w : Lw} {g : Nat → Nat} {a : Int} (h0 : 0 ≤ a) (h : Bal w (fun i => g i + eI a i)) (b : Int) : Bal (lnkW a b w) g := by
  have el := lnkW_len a b w
  have hlt : a.toNat < w.l.length := by
    apply Nat.lt_of_not_le
    intro hc
    have this : g a.toNat + eI a a.toNat = 0 := h.z _ hc
    unfold eI at this
    rw [if_pos (by omega)] at this
    omega
  refine ⟨fun i hi => ?_, fun x hx => ?_, fun i hi => ?_⟩
  · rw [el] at hi
    have hb := h.b i hi
    by_cases he : i = a.toNat
    · subst he
      have e2 : eI a a.toNat = 1 := by unfold eI; rw [if_pos (by omega)]
      have e1 : nd (lnkW a b w) a.toNat = (nd w a.toNat).to b := by simp [nd, lnkW, List.getD, hlt]
      rw [e1]
      simp only [e2] at hb
      show need (nd w a.toNat).k = ((nd w a.toNat).nx ++ [b]).length + g a.toNat + w.r.count _
      rw [hb, List.length_append]; simp; omega
    · have e2 : eI a i = 0 := by unfold eI; rw [if_neg (by omega)]
      have e1 : nd (lnkW a b w) i = nd w i := by simp [nd, lnkW, List.getD, List.getElem?_set_ne (Ne.symm he)]
      rw [e1, hb, e2]; rfl
  · rw [el]; exact h.r x hx
  · rw [el] at hi
    have this : g i + eI a i = 0 := h.z i hi
    omega
theorem eI_neg (i : Nat) : eI (-1) i = 0 := by unfold eI; rw [if_neg (by omega)]
theorem Bal.lnkO {w : Lw} {g : Nat → Nat} {a : Int} (h0 : a = -1 ∨ 0 ≤ a) (h : Bal w (fun i => g i + eI a i)) (b : Int) : Bal (lnkO a b w) g := by
  unfold Go.Proofs.Ytiipmaoonnjlpaa.lnkO
  split
  · rename_i h1
    have h1 : a = -1 := by simpa using h1
    subst h1
    exact h.cg (fun i => by rw [eI_neg]; rfl)
  · rename_i h1
    exact Bal.lnk (by rcases h0 with rfl | h0; · exact absurd rfl h1
                      · exact h0) h b
theorem Bal.addR {w : Lw} {g : Nat → Nat} {n : Nat} (h : Bal w (fun i => g i + eI (n : Int) i)) : Bal (addR (n : Int) w) g := by
  have hlt : n < w.l.length := by
    apply Nat.lt_of_not_le
    intro hc
    have this : g n + eI (n : Int) n = 0 := h.z _ hc
    unfold eI at this
    rw [if_pos rfl] at this
    omega
  refine ⟨fun i hi => ?_, fun x hx => ?_, fun i hi => ?_⟩
  · have hb := h.b i hi
    show need (nd w i).k = (nd w i).nx.length + g i + (w.r ++ [(n : Int)]).count (i : Int)
    rw [hb, List.count_append]
    have : List.count (i : Int) [(n : Int)] = eI (n : Int) i := by
      unfold eI
      by_cases he : i = n
      · subst he; simp
      · rw [if_neg (by omega), List.count_eq_zero]
        simp; omega
    rw [this]; omega
  · have hx : x ∈ w.r ++ [(n : Int)] := hx
    simp only [List.mem_append, List.mem_singleton] at hx
    rcases hx with hx | rfl
    · exact h.r x hx
    · exact ⟨by omega, by show (n : Int) < (w.l.length : Int); omega⟩
  · have this : g i + eI (n : Int) i = 0 := h.z i hi
    omega
def Rg (o : Int) : Prop := o = -1 ∨ 0 ≤ o
def BB (bl : List Sm → Lw → LR) : Prop := ∀ l w g, Bal w g → Rg (bl l w).1.2 ∧ Bal (bl l w).2 (fun i => g i + eI (bl l w).1.2 i)
theorem bal_S {bl : List Sm → Lw → LR} (hb : BB bl) (s : Sm) {w : Lw} {g : Nat → Nat} (h : Bal w g) : Rg (lwS bl s w).1.2 ∧ Bal (lwS bl s w).2 (fun i => g i + eI (lwS bl s w).1.2 i) := by
  unfold lwS
  split
  · have h1 := h.add 2 s false
    obtain ⟨a1, a2⟩ := hb s.th _ _ h1
    obtain ⟨b1, b2⟩ := hb s.el _ _ a2
    have h2 := b2.add 4 sm00 false
    refine ⟨.inr (by show 0 ≤ brJ bl s w; unfold brJ; omega), ?_⟩
    have h3 : Bal (br3 bl s w) (fun i => g i + eI (w.l.length : Int) i + eI (brA bl s w).1.2 i + eI (brB bl s w).1.2 i + eI (brJ bl s w) i) :=
      Bal.lnk (by omega) (h2.cg (fun i => by simp only [need, brA, brB, brJ]; simp; omega)) _
    have h4 : Bal (br4 bl s w) (fun i => g i + eI (brJ bl s w) i + eI (brB bl s w).1.2 i + eI (brA bl s w).1.2 i) :=
      Bal.lnk (a := (w.l.length : Int)) (by omega) (h3.cg (fun i => by omega)) _
    have h5 : Bal (br5 bl s w) (fun i => g i + eI (brJ bl s w) i + eI (brB bl s w).1.2 i) := Bal.lnkO a1 h4 _
    exact Bal.lnkO b1 h5 _
  split
  · have h1 := h.add 2 s true
    obtain ⟨a1, a2⟩ := hb s.th _ _ h1
    refine ⟨.inr (by show 0 ≤ (w.l.length : Int); omega), ?_⟩
    have h3 : Bal (lo1 bl s w) (fun i => g i + eI (w.l.length : Int) i + eI (loA bl s w).1.2 i) :=
      Bal.lnk (by omega) (a2.cg (fun i => by simp only [need, loA]; simp; omega)) _
    exact Bal.lnkO a1 h3 _
  · have h1 := h.add 1 s false
    have h2 : Bal (addW 1 s false w) (fun i => g i + eI (w.l.length : Int) i) := h1.cg (fun i => by simp [need])
    unfold plaL
    split
    · exact ⟨.inl rfl, (h2.addR).cg (fun i => by rw [eI_neg]; rfl)⟩
    · exact ⟨.inr (by show 0 ≤ (w.l.length : Int); omega), h2⟩
theorem bal_bk {bl : List Sm → Lw → LR} (hb : BB bl) : ∀ (l : List Sm) (z : Bool) (p : Int × Int) (w : Lw) (g : Nat → Nat), Rg p.2 → Bal w (fun i => g i + eI p.2 i) → Rg (bkL (lwS bl) l z p w).1.2 ∧ Bal (bkL (lwS bl) l z p w).2 (fun i => g i + eI (bkL (lwS bl) l z p w).1.2 i)
  | [], z, p, w, g, hp, h => ⟨hp, h⟩
  | s :: r, z, p, w, g, hp, h => by
    obtain ⟨a1, a2⟩ := bal_S hb s h
    exact bal_bk hb r false _ _ g a1 (Bal.lnkO hp (a2.cg (fun i => by dsimp only; omega)) _)
theorem bal_B : ∀ m : Nat, BB (lwB m)
  | 0 => fun l w g h => ⟨.inl rfl, h.cg (fun i => by show _ = g i + eI (-1) i; rw [eI_neg]; rfl)⟩
  | m + 1 => fun l w g h => bal_bk (bal_B m) l true (-1, -1) w g (.inl rfl) (h.cg (fun i => by show _ = g i + eI (-1) i; rw [eI_neg]; rfl))
theorem bal_R (X : Int) : ∀ (r : List Int) (w : Lw), (∀ i, i < w.l.length → need (nd w i).k = (nd w i).nx.length + r.count (i : Int)) → (∀ x ∈ r, 0 ≤ x ∧ x < (w.l.length : Int)) → ∀ i, i < w.l.length → need (nd (lnkR X r w) i).k = (nd (lnkR X r w) i).nx.length
  | [], w, h, _, i, hi => by have := h i hi; simpa [lnkR] using this
  | a :: r, w, h, hr, i, hi => by
    simp only [lnkR]
    obtain ⟨q1, q2⟩ := hr a (List.mem_cons_self ..)
    refine bal_R X r (lnkW a X w) (fun j hj => ?_) (fun x hx => by rw [lnkW_len]; exact hr x (List.mem_cons_of_mem _ hx)) i (by rw [lnkW_len]; exact hi)
    rw [lnkW_len] at hj
    have hb := h j hj
    by_cases he : j = a.toNat
    · subst he
      have e1 : nd (lnkW a X w) a.toNat = (nd w a.toNat).to X := by simp [nd, lnkW, List.getD, hj]
      rw [e1]
      have ea : ((a.toNat : Nat) : Int) = a := by omega
      rw [ea, List.count_cons_self] at hb
      show need (nd w a.toNat).k = ((nd w a.toNat).nx ++ [X]).length + _
      rw [hb, ea, List.length_append]; simp; omega
    · have e1 : nd (lnkW a X w) j = nd w j := by simp [nd, lnkW, List.getD, List.getElem?_set_ne (Ne.symm he)]
      rw [e1, hb, List.count_cons_of_ne]
      omega
/-- each node's ways, in number -/
theorem low_need (n : Nat) (f : List Sm) : ∀ x ∈ lowF n f, x.nx.length = need x.k := by
  have b0 : Bal lw0 (fun _ => 0) := ⟨fun i hi => absurd hi (Nat.not_lt_zero _), (fun x hx => by cases hx), fun _ _ => rfl⟩
  have b1 : Bal (addW 0 sm00 false lw0) (fun i => eI 0 i) := (b0.add 0 sm00 false).cg (fun i => by simp [need, lw0])
  obtain ⟨r1, b2⟩ := bal_B n f _ _ b1
  have b3 : Bal (lw2 n f) (fun i => eI (lwA n f).1.2 i + eI 0 i) := (b2.add 3 sm00 false).cg (fun i => by simp [need, lwA]; omega)
  have b4 : Bal (lw3 n f) (fun i => eI (lwA n f).1.2 i) := Bal.lnk (by omega) b3 _
  have b5 : Bal (lw4 n f) (fun _ => 0) := Bal.lnkO r1 (b4.cg (fun i => by simp [lwA])) _
  have b6 := bal_R (lwX n f) (lw4 n f).r { lw4 n f with z := true } (fun i hi => by have := b5.b i hi; simpa using this) b5.r
  intro x hx
  obtain ⟨i, hi, rfl⟩ := List.getElem_of_mem hx
  have hl : (lowF n f).length = (lw4 n f).l.length := by
    show (lnkR _ _ _).l.length = _; rw [lnkR_len]
  have := b6 i (by show i < (lw4 n f).l.length; omega)
  have e : nd (lnkR (lwX n f) (lw4 n f).r { lw4 n f with z := true }) i = (lowF n f)[i] := by
    show (lowF n f).getD i nd0 = _
    simp [List.getD, hi]
  rw [e] at this
  exact this.symm
/- kinds counted -/
def cnt (k : Int) (l : List Tg) : Nat := l.countP (fun t => t.1 == k)
def hds (l : List Tg) : Nat := l.countP (fun t => t.2.2)
def n0 (l : List Nat) : Nat := l.countP (fun k => k == 0)
def n1 (l : List Nat) : Nat := l.countP (fun k => k == 1)
def n2 (l : List Nat) : Nat := l.countP (fun k => decide (2 ≤ k))
theorem tgB_cons (m : Nat) (s : Sm) (l : List Sm) : tgB (m + 1) (s :: l) = tgS (tgB m) s ++ tgB (m + 1) l := by simp [tgB]
theorem tgB_nil (m : Nat) : tgB m [] = [] := by cases m <;> rfl
theorem okD_tl {m : Nat} {s : Sm} {l : List Sm} (h : okD (m + 1) (s :: l)) : okD (m + 1) l := ⟨by have := h.1; simp at this ⊢; omega, fun x hx => h.2 x (List.mem_cons_of_mem _ hx)⟩
theorem shp_cnt {l : List Nat} {f : List Sm} (h : Shp l f) : ∀ m, okD m f → cnt 2 (tgB m f) = n0 l + n1 l ∧ cnt 4 (tgB m f) = n1 l ∧ cnt 1 (tgB m f) = n1 l + n2 l ∧ hds (tgB m f) = n0 l := by
  induction h with
  | nil => intro m _; rw [tgB_nil]; exact ⟨rfl, rfl, rfl, rfl⟩
  | wh hk ht ih =>
    rename_i t s
    intro m hd
    cases m with
    | zero => exact hd.elim
    | succ m =>
      obtain ⟨d1, d2⟩ := hd.2 s (List.mem_cons_self ..)
      obtain ⟨i1, i2, i3, i4⟩ := ih m d1
      rw [tgB_cons, tgB_nil, List.append_nil]
      have e : tgS (tgB m) s = (2, s, true) :: tgB m s.th := by unfold tgS; rw [if_neg (by rw [hk]; decide), if_pos (by rw [hk]; decide)]
      rw [e]
      simp only [cnt, hds, n0, n1, n2, List.countP_cons] at *
      simp only [i1, i2, i3, i4]
      simp <;> omega
  | ite hk ht he hk2 ih =>
    rename_i t s e
    intro m hd
    cases m with
    | zero => exact hd.elim
    | succ m =>
      obtain ⟨d1, d2⟩ := hd.2 s (List.mem_cons_self ..)
      obtain ⟨i1, i2, i3, i4⟩ := ih m d1
      rw [tgB_cons, tgB_nil, List.append_nil]
      cases m with
      | zero => exact d1.elim
      | succ m =>
      have e1 : tgB (m + 1) s.el = [(1, e, false)] := by
        rw [he, tgB_cons, tgB_nil, List.append_nil]; unfold tgS; rw [if_neg (by rw [hk2]; decide), if_neg (by rw [hk2]; decide)]
      have e : tgS (tgB (m + 1)) s = (2, s, false) :: (tgB (m + 1) s.th ++ [(1, e, false)] ++ [(4, sm00, false)]) := by unfold tgS; rw [if_pos (by rw [hk]; decide), e1]
      rw [e]
      simp only [cnt, hds, n0, n1, n2, List.countP_cons, List.countP_append, List.countP_nil] at *
      simp only [i1, i2, i3, i4]
      simp <;> omega
  | asg hk ht ih =>
    rename_i t s r
    intro m hd
    cases m with
    | zero => exact hd.elim
    | succ m =>
      obtain ⟨i1, i2, i3, i4⟩ := ih (m + 1) (okD_tl hd)
      rw [tgB_cons]
      have e : tgS (tgB m) s = [(1, s, false)] := by unfold tgS; rw [if_neg (by rw [hk]; decide), if_neg (by rw [hk]; decide)]
      rw [e]
      simp only [cnt, hds, n0, n1, n2, List.countP_cons, List.countP_append, List.countP_nil] at *
      simp only [i1, i2, i3, i4]
      simp <;> omega
  | re hk ht ih =>
    rename_i k t s r
    intro m hd
    cases m with
    | zero => exact hd.elim
    | succ m =>
      obtain ⟨i1, i2, i3, i4⟩ := ih (m + 1) (okD_tl hd)
      rw [tgB_cons]
      have e : tgS (tgB m) s = [(1, s, false)] := by unfold tgS; rw [if_neg (by rw [hk]; decide), if_neg (by rw [hk]; decide)]
      rw [e]
      simp only [cnt, hds, n0, n1, n2, List.countP_cons, List.countP_append, List.countP_nil] at *
      simp only [i1, i2, i3, i4]
      simp <;> omega
/-- the kinds of the nodes of a shape's graph, in number -/
theorem low_cnt {l : List Nat} {f : List Sm} (h : Shp l f) {m : Nat} (hd : okD m f) :
    let L := (lowF m f).map tgOf
    cnt 0 L = 1 ∧ cnt 3 L = 1 ∧ cnt 2 L = n0 l + n1 l ∧ cnt 4 L = n1 l ∧ cnt 1 L = n1 l + n2 l ∧ hds L = n0 l := by
  obtain ⟨i1, i2, i3, i4⟩ := shp_cnt h m hd
  have hk := tgB_k m f
  have c0 : cnt 0 (tgB m f) = 0 := by
    unfold cnt; rw [List.countP_eq_zero]
    intro t ht
    rcases hk t ht with h | h | h <;> rw [h] <;> decide
  have c3 : cnt 3 (tgB m f) = 0 := by
    unfold cnt; rw [List.countP_eq_zero]
    intro t ht
    rcases hk t ht with h | h | h <;> rw [h] <;> decide
  intro L
  have e : L = (0, sm00, false) :: (tgB m f ++ [(3, sm00, false)]) := tags_low m f
  rw [e]
  simp only [cnt, hds, List.countP_cons, List.countP_append, List.countP_nil] at *
  simp only [i1, i2, i3, i4, c0, c3]
  simp
theorem low_kind {m : Nat} {f : List Sm} : ∀ x ∈ lowF m f, 0 ≤ x.k ∧ x.k < 5 := by
  intro x hx
  have ht : tgOf x ∈ (lowF m f).map tgOf := List.mem_map_of_mem hx
  rw [tags_low] at ht
  simp only [List.mem_cons, List.mem_append, List.not_mem_nil, or_false] at ht
  rcases ht with h | h | h
  · have : x.k = 0 := congrArg Prod.fst h
    omega
  · have : x.k = 1 ∨ x.k = 2 ∨ x.k = 4 := tgB_k m f _ h
    omega
  · have : x.k = 3 := congrArg Prod.fst h
    omega
theorem hdF_cnt : ∀ (i : Nat) (L : List Nd), (hdF i (L.map Nd.g)).length = hds (L.map tgOf)
  | i, [] => rfl
  | i, x :: r => by
    have ih := hdF_cnt (i + 1) r
    simp only [List.map_cons, hdF, hds, List.countP_cons] at ih ⊢
    have e : (Nd.g x).h = x.h := rfl
    have e2 : (tgOf x).2.2 = x.h := rfl
    rw [e, e2]
    cases x.h
    · simpa using ih
    · simpa using ih
end Go.Proofs.Ytiipmaoonnjlpaa
