/- The lowering of statements, as plain functions, and what they keep. No conditions but those in each statement. -/
import Derived.Test.YtiipmaoonnjlpaaLo1
set_option linter.unusedVariables false
set_option linter.unusedSimpArgs false
namespace Go.Proofs.Ytiipmaoonnjlpaa
open Go Go.Sy Go.RowKit
abbrev LR := (Int × Int) × Lw
def sm00 : Sm := .mk 0 [] [] .nil .nil .nil [] [] [] 0
def orI (a d : Int) : Int := if (a == -1) = true then d else a
def lnkO (o b : Int) (w : Lw) : Lw := if (o == -1) = true then w else lnkW o b w
def addR (n : Int) (w : Lw) : Lw := { w with r := w.r ++ [n] }
def bkL (st : Sm → Lw → LR) : List Sm → Bool → Int × Int → Lw → LR
  | [], _, p, w => (p, w)
  | s :: r, z, p, w => bkL st r false (if z = true then (st s w).1.1 else p.1, (st s w).1.2) (lnkO p.2 (st s w).1.1 (st s w).2)
section
variable (bl : List Sm → Lw → LR) (s : Sm) (w : Lw)
def brA : LR := bl s.th (addW 2 s false w)
def brB : LR := bl s.el (brA bl s w).2
def br2 : Lw := addW 4 sm00 false (brB bl s w).2
def brJ : Int := ((brB bl s w).2.l.length : Int)
def br3 : Lw := lnkW (w.l.length : Int) (orI (brA bl s w).1.1 (brJ bl s w)) (br2 bl s w)
def br4 : Lw := lnkW (w.l.length : Int) (orI (brB bl s w).1.1 (brJ bl s w)) (br3 bl s w)
def br5 : Lw := lnkO (brA bl s w).1.2 (brJ bl s w) (br4 bl s w)
def br6 : Lw := lnkO (brB bl s w).1.2 (brJ bl s w) (br5 bl s w)
def braL : LR := (((w.l.length : Int), brJ bl s w), br6 bl s w)
def loA : LR := bl s.th (addW 2 s true w)
def lo1 : Lw := lnkW (w.l.length : Int) (orI (loA bl s w).1.1 (w.l.length : Int)) (loA bl s w).2
def lo2 : Lw := lnkO (loA bl s w).1.2 (w.l.length : Int) (lo1 bl s w)
def looL : LR := (((w.l.length : Int), (w.l.length : Int)), lo2 bl s w)
def plaL : LR := if (s.k == 9) = true then (((w.l.length : Int), -1), addR (w.l.length : Int) (addW 1 s false w)) else (((w.l.length : Int), (w.l.length : Int)), addW 1 s false w)
def lwS : LR := if (s.k == 10) = true then braL bl s w else if (s.k == 11) = true then looL bl s w else plaL s w
end
def lwB : Nat → List Sm → Lw → LR
  | 0 => fun _ w => ((-1, -1), w)
  | m + 1 => fun l w => bkL (lwS (lwB m)) l true (-1, -1) w
/-- how many statements, within one another -/
def szB : Nat → List Sm → Nat
  | 0, _ => 0
  | m + 1, l => (l.map fun s => 1 + szB m s.th + szB m s.el).sum
/-- nested no deeper, and lists not too long -/
def okD : Nat → List Sm → Prop
  | 0, _ => False
  | m + 1, l => l.length ≤ 5000 ∧ ∀ s ∈ l, okD m s.th ∧ okD m s.el
structure okL (c : Nat) (w : Lw) : Prop where
  l : w.l.length ≤ c
  r : w.r.length ≤ c
  n : ∀ x ∈ w.l, x.nx.length ≤ c
  i : ∀ n ∈ w.r, 0 ≤ n ∧ n < (w.l.length : Int)
def rf (w : Lw) (i : Int) : Prop := i = -1 ∨ (0 ≤ i ∧ i < (w.l.length : Int))
structure Gd (c : Nat) (w : Lw) (r : LR) : Prop where
  ok : okL c r.2
  len : w.l.length ≤ r.2.l.length
  f : rf r.2 r.1.1
  o : rf r.2 r.1.2
  z : r.2.z = w.z
theorem okL.mono {c d : Nat} {w : Lw} (h : okL c w) (hd : c ≤ d) : okL d w := ⟨Nat.le_trans h.l hd, Nat.le_trans h.r hd, fun x hx => Nat.le_trans (h.n x hx) hd, h.i⟩
theorem rf.mono {w w' : Lw} {i : Int} (h : rf w i) (hl : w.l.length ≤ w'.l.length) : rf w' i := by
  rcases h with h | ⟨h1, h2⟩
  · exact .inl h
  · exact .inr ⟨h1, by omega⟩
theorem addW_len (k : Int) (s : Sm) (h : Bool) (w : Lw) : (addW k s h w).l.length = w.l.length + 1 := by simp [addW]
theorem addW_ok {c : Nat} {w : Lw} (h : okL c w) (k : Int) (s : Sm) (b : Bool) : okL (c + 1) (addW k s b w) := by
  refine ⟨by rw [addW_len]; have := h.l; omega, by have := h.r; simp only [addW]; omega, fun x hx => ?_, fun n hn => ?_⟩
  · simp only [addW, List.mem_append, List.mem_singleton] at hx
    rcases hx with hx | rfl
    · have := h.n x hx; omega
    · simp
  · have := h.i n hn; rw [addW_len]; omega
theorem lnkW_len (a b : Int) (w : Lw) : (lnkW a b w).l.length = w.l.length := by simp [lnkW]
theorem lnkW_ok {c : Nat} {w : Lw} (h : okL c w) (a b : Int) (ha : 0 ≤ a ∧ a < (w.l.length : Int)) : okL (c + 1) (lnkW a b w) := by
  refine ⟨by rw [lnkW_len]; have := h.l; omega, by have := h.r; simp only [lnkW]; omega, fun x hx => ?_, fun n hn => ?_⟩
  · simp only [lnkW] at hx
    rcases List.mem_or_eq_of_mem_set hx with hx | rfl
    · have := h.n x hx; omega
    · have hi : a.toNat < w.l.length := by omega
      have hm : w.l.getD a.toNat nd0 ∈ w.l := by simp [List.getD, hi]
      have := h.n _ hm
      simp only [Nd.to, List.length_append, List.length_cons, List.length_nil]; omega
  · have := h.i n hn; rw [lnkW_len]; exact this
theorem lnkO_len (a b : Int) (w : Lw) : (lnkO a b w).l.length = w.l.length := by unfold lnkO; split <;> simp [lnkW_len]
theorem lnkO_z (a b : Int) (w : Lw) : (lnkO a b w).z = w.z := by unfold lnkO; split <;> rfl
theorem lnkO_ok {c : Nat} {w : Lw} (h : okL c w) (a b : Int) (ha : rf w a) : okL (c + 1) (lnkO a b w) := by
  unfold lnkO
  split
  · exact h.mono (Nat.le_succ c)
  · rename_i hn
    rcases ha with rfl | ha
    · exact absurd rfl hn
    · exact lnkW_ok h a b ha
theorem addR_ok {c : Nat} {w : Lw} (h : okL c w) (n : Int) (hn : 0 ≤ n ∧ n < (w.l.length : Int)) : okL (c + 1) (addR n w) := by
  refine ⟨by have := h.l; simp only [addR]; omega, by have := h.r; simp only [addR, List.length_append, List.length_cons, List.length_nil]; omega, fun x hx => Nat.le_succ_of_le (h.n x hx), fun k hk => ?_⟩
  simp only [addR, List.mem_append, List.mem_singleton] at hk
  rcases hk with hk | rfl
  · exact h.i k hk
  · exact hn
theorem okK_of {c : Nat} {w : Lw} (h : okL c w) (hc : c ≤ 1000000000) {a : Int} (ha : 0 ≤ a ∧ a < (w.l.length : Int)) : okK w a := by
  have hi : a.toNat < w.l.length := by omega
  have hm : w.l.getD a.toNat nd0 ∈ w.l := by simp [List.getD, hi]
  have := h.n _ hm
  have := h.l
  exact ⟨ha.1, ha.2, by omega, by omega⟩
theorem okK_rf {c : Nat} {w : Lw} (h : okL c w) (hc : c ≤ 1000000000) {a : Int} (ha : rf w a) (hn : (a == -1) = false) : okK w a := by
  rcases ha with rfl | ha
  · exact absurd hn (by decide)
  · exact okK_of h hc ha
section
variable {bl : List Sm → Lw → LR} {m : Nat} (hb : ∀ (l : List Sm) (w : Lw) (c : Nat), okD m l → okL c w → Gd (c + 8 * szB m l) w (bl l w))
include hb
variable {s : Sm} (h1 : okD m s.th) (h2 : okD m s.el) {w : Lw} {c : Nat} (h : okL c w)
include h1 h
theorem brA_gd : Gd (c + 1 + 8 * szB m s.th) (addW 2 s false w) (brA bl s w) := hb _ _ _ h1 (addW_ok h 2 s false)
theorem loA_gd : Gd (c + 1 + 8 * szB m s.th) (addW 2 s true w) (loA bl s w) := hb _ _ _ h1 (addW_ok h 2 s true)
theorem lo1_ok : okL (c + 1 + 8 * szB m s.th + 1) (lo1 bl s w) ∧ (lo1 bl s w).l.length = (loA bl s w).2.l.length ∧ w.l.length < (loA bl s w).2.l.length := by
  have a := loA_gd hb h1 h
  have e := a.len
  rw [addW_len] at e
  exact ⟨lnkW_ok a.ok _ _ ⟨by omega, by omega⟩, lnkW_len _ _ _, by omega⟩
theorem looL_gd : Gd (c + 8 * (1 + szB m s.th + szB m s.el) - 1) w (looL bl s w) := by
  have a := loA_gd hb h1 h
  obtain ⟨e1, e2, e3⟩ := lo1_ok hb h1 h
  have e4 : (lo2 bl s w).l.length = (loA bl s w).2.l.length := by unfold lo2; rw [lnkO_len, e2]
  have e5 : okL (c + 1 + 8 * szB m s.th + 1 + 1) (lo2 bl s w) := lnkO_ok e1 _ _ (a.o.mono (by omega))
  exact ⟨e5.mono (by omega), by show w.l.length ≤ (lo2 bl s w).l.length; omega, .inr ⟨by simp [looL], by show (w.l.length : Int) < ((lo2 bl s w).l.length : Int); omega⟩, .inr ⟨by simp [looL], by show (w.l.length : Int) < ((lo2 bl s w).l.length : Int); omega⟩, by
    show (lo2 bl s w).z = w.z
    unfold lo2; rw [lnkO_z]; exact a.z⟩
include h2
theorem brB_gd : Gd (c + 1 + 8 * szB m s.th + 8 * szB m s.el) (brA bl s w).2 (brB bl s w) := hb _ _ _ h2 (brA_gd hb h1 h).ok
theorem br_len : w.l.length < (brA bl s w).2.l.length ∧ (brA bl s w).2.l.length ≤ (brB bl s w).2.l.length ∧ (br2 bl s w).l.length = (brB bl s w).2.l.length + 1 ∧ (br3 bl s w).l.length = (brB bl s w).2.l.length + 1 ∧ (br4 bl s w).l.length = (brB bl s w).2.l.length + 1 ∧ (br5 bl s w).l.length = (brB bl s w).2.l.length + 1 ∧ (br6 bl s w).l.length = (brB bl s w).2.l.length + 1 := by
  have a := (brA_gd hb h1 h).len
  have b := (brB_gd hb h1 h2 h).len
  rw [addW_len] at a
  refine ⟨by omega, b, addW_len _ _ _ _, ?_, ?_, ?_, ?_⟩ <;> simp only [br6, br5, br4, br3, br2, lnkO_len, lnkW_len, addW_len]
theorem br2_ok : okL (c + 2 + 8 * szB m s.th + 8 * szB m s.el) (br2 bl s w) := (addW_ok (brB_gd hb h1 h2 h).ok _ _ _).mono (by omega)
theorem br3_ok : okL (c + 3 + 8 * szB m s.th + 8 * szB m s.el) (br3 bl s w) := by
  obtain ⟨e1, e2, e3, e4, e5, e6, e7⟩ := br_len hb h1 h2 h
  exact (lnkW_ok (br2_ok hb h1 h2 h) _ _ ⟨by omega, by omega⟩).mono (by omega)
theorem br4_ok : okL (c + 4 + 8 * szB m s.th + 8 * szB m s.el) (br4 bl s w) := by
  obtain ⟨e1, e2, e3, e4, e5, e6, e7⟩ := br_len hb h1 h2 h
  exact (lnkW_ok (br3_ok hb h1 h2 h) _ _ ⟨by omega, by omega⟩).mono (by omega)
theorem br5_ok : okL (c + 5 + 8 * szB m s.th + 8 * szB m s.el) (br5 bl s w) := by
  obtain ⟨e1, e2, e3, e4, e5, e6, e7⟩ := br_len hb h1 h2 h
  exact (lnkO_ok (br4_ok hb h1 h2 h) _ _ ((brA_gd hb h1 h).o.mono (by omega))).mono (by omega)
theorem br6_ok : okL (c + 6 + 8 * szB m s.th + 8 * szB m s.el) (br6 bl s w) := by
  obtain ⟨e1, e2, e3, e4, e5, e6, e7⟩ := br_len hb h1 h2 h
  exact (lnkO_ok (br5_ok hb h1 h2 h) _ _ ((brB_gd hb h1 h2 h).o.mono (by omega))).mono (by omega)
theorem braL_gd : Gd (c + 8 * (1 + szB m s.th + szB m s.el) - 1) w (braL bl s w) := by
  obtain ⟨e1, e2, e3, e4, e5, e6, e7⟩ := br_len hb h1 h2 h
  refine ⟨(br6_ok hb h1 h2 h).mono (by omega), by show w.l.length ≤ (br6 bl s w).l.length; omega, .inr ⟨by simp [braL], by show (w.l.length : Int) < ((br6 bl s w).l.length : Int); omega⟩, .inr ⟨by simp [braL, brJ], by show ((brB bl s w).2.l.length : Int) < ((br6 bl s w).l.length : Int); omega⟩, ?_⟩
  show (br6 bl s w).z = w.z
  unfold br6 br5; rw [lnkO_z, lnkO_z]
  show (brB bl s w).2.z = w.z
  rw [(brB_gd hb h1 h2 h).z, (brA_gd hb h1 h).z]; rfl
theorem lwS_gd : Gd (c + 8 * (1 + szB m s.th + szB m s.el) - 1) w (lwS bl s w) ∧ 0 ≤ (lwS bl s w).1.1 := by
  unfold lwS
  split
  · exact ⟨braL_gd hb h1 h2 h, by simp [braL]⟩
  split
  · exact ⟨looL_gd hb h1 h, by simp [looL]⟩
  · unfold plaL
    have e := addW_len 1 s false w
    have a := addW_ok h 1 s false
    split
    · exact ⟨⟨(addR_ok a _ ⟨by omega, by omega⟩).mono (by omega), by simp [addR, e], .inr ⟨by simp, by simp [addR, e]; omega⟩, .inl rfl, rfl⟩, by simp⟩
    · exact ⟨⟨a.mono (by omega), by simp [e], .inr ⟨by simp, by simp [e]; omega⟩, .inr ⟨by simp, by simp [e]; omega⟩, rfl⟩, by simp⟩
end
theorem szB_cons (m : Nat) (s : Sm) (l : List Sm) : szB (m + 1) (s :: l) = (1 + szB m s.th + szB m s.el) + szB (m + 1) l := by simp [szB]
theorem bkL_gd {bl : List Sm → Lw → LR} {m : Nat} (hb : ∀ (l : List Sm) (w : Lw) (c : Nat), okD m l → okL c w → Gd (c + 8 * szB m l) w (bl l w)) :
    ∀ (l : List Sm) (z : Bool) (p : Int × Int) (w : Lw) (c : Nat), (∀ s ∈ l, okD m s.th ∧ okD m s.el) → okL c w → rf w p.1 → rf w p.2 → Gd (c + 8 * szB (m + 1) l) w (bkL (lwS bl) l z p w)
  | [], z, p, w, c, hd, h, hf, ho => ⟨h.mono (Nat.le_add_right ..), Nat.le_refl _, hf, ho, rfl⟩
  | s :: r, z, p, w, c, hd, h, hf, ho => by
    obtain ⟨d1, d2⟩ := hd s (List.mem_cons_self ..)
    obtain ⟨g, gf⟩ := lwS_gd hb d1 d2 h
    have e : (lnkO p.2 (lwS bl s w).1.1 (lwS bl s w).2).l.length = (lwS bl s w).2.l.length := lnkO_len _ _ _
    have k := lnkO_ok g.ok p.2 (lwS bl s w).1.1 (ho.mono g.len)
    have q := bkL_gd hb r false (if z = true then (lwS bl s w).1.1 else p.1, (lwS bl s w).1.2) _ _ (fun s hs => hd s (List.mem_cons_of_mem _ hs)) k
      (by dsimp only; split
          · exact g.f.mono (by omega)
          · exact hf.mono (by have := g.len; omega)) (g.o.mono (by omega))
    rw [szB_cons]
    refine ⟨q.ok.mono (by omega), by have := g.len; have := q.len; simp only [bkL]; omega, q.f, q.o, ?_⟩
    rw [show (bkL (lwS bl) (s :: r) z p w).2.z = _ from q.z, lnkO_z, g.z]
theorem lwB_gd : ∀ (m : Nat) (l : List Sm) (w : Lw) (c : Nat), okD m l → okL c w → Gd (c + 8 * szB m l) w (lwB m l w)
  | 0, l, w, c, hd, _ => hd.elim
  | m + 1, l, w, c, hd, h => bkL_gd (lwB_gd m) l true (-1, -1) w c hd.2 h (.inl rfl) (.inl rfl)
end Go.Proofs.Ytiipmaoonnjlpaa
