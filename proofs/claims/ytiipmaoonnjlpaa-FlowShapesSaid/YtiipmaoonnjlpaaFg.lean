/- The nodes of a graph by their kinds, plain. No conditions but those in each statement. -/
import Derived.Test.YtiipmaoonnjlpaaKn1
set_option linter.unusedVariables false
set_option linter.unusedSimpArgs false
namespace Go.Proofs.Ytiipmaoonnjlpaa
open Go Go.Sy Go.RowKit

abbrev Tg := Int × Sm × Bool
def tgOf (x : Nd) : Tg := (x.k, x.s, x.h)
def tags (w : Lw) : List Tg := w.l.map tgOf
theorem set_getD {A : Type} (l : List A) (i : Nat) (d : A) : l.set i (l.getD i d) = l := by
  by_cases h : i < l.length
  · have e : l.getD i d = l[i] := by simp [List.getD, h]
    rw [e, List.set_getElem_self]
  · rw [List.set_eq_of_length_le (by omega)]
theorem tags_add (k : Int) (s : Sm) (h : Bool) (w : Lw) : tags (addW k s h w) = tags w ++ [(k, s, h)] := by simp [tags, addW, tgOf]
theorem tags_lnk (a b : Int) (w : Lw) : tags (lnkW a b w) = tags w := by
  have e : tgOf ((w.l.getD a.toNat nd0).to b) = (w.l.map tgOf).getD a.toNat (tgOf nd0) := by
    simp only [List.getD, List.getElem?_map]
    cases w.l[a.toNat]? <;> rfl
  show (w.l.set a.toNat _).map tgOf = _
  rw [List.map_set, e, set_getD]; rfl
theorem tags_lnkO (a b : Int) (w : Lw) : tags (lnkO a b w) = tags w := by unfold lnkO; split; exact rfl; exact tags_lnk a b w
theorem tags_addR (n : Int) (w : Lw) : tags (addR n w) = tags w := rfl
theorem tags_lnkR (x : Int) : ∀ (r : List Int) (w : Lw), tags (lnkR x r w) = tags w
  | [], w => rfl
  | a :: r, w => by simp only [lnkR]; rw [tags_lnkR x r, tags_lnk]
def tgS (tb : List Sm → List Tg) (s : Sm) : List Tg :=
  if (s.k == 10) = true then (2, s, false) :: (tb s.th ++ tb s.el ++ [(4, sm00, false)])
  else if (s.k == 11) = true then (2, s, true) :: tb s.th else [(1, s, false)]
def tgB : Nat → List Sm → List Tg
  | 0, _ => []
  | m + 1, l => l.flatMap (tgS (tgB m))
theorem tags_S {bl : List Sm → Lw → LR} {tb : List Sm → List Tg} (hb : ∀ l w, tags (bl l w).2 = tags w ++ tb l) (s : Sm) (w : Lw) : tags (lwS bl s w).2 = tags w ++ tgS tb s := by
  unfold lwS tgS
  split
  · show tags (br6 bl s w) = _
    unfold br6 br5 br4 br3 br2 brB brA
    rw [tags_lnkO, tags_lnkO, tags_lnk, tags_lnk, tags_add, hb, hb, tags_add]
    simp
  split
  · show tags (lo2 bl s w) = _
    unfold lo2 lo1 loA
    rw [tags_lnkO, tags_lnk, hb, tags_add]
    simp
  · unfold plaL
    split
    · show tags (addR _ (addW 1 s false w)) = _
      rw [tags_addR, tags_add]
    · show tags (addW 1 s false w) = _
      rw [tags_add]
theorem tags_bk {bl : List Sm → Lw → LR} {tb : List Sm → List Tg} (hb : ∀ l w, tags (bl l w).2 = tags w ++ tb l) : ∀ (l : List Sm) (z : Bool) (p : Int × Int) (w : Lw), tags (bkL (lwS bl) l z p w).2 = tags w ++ l.flatMap (tgS tb)
  | [], z, p, w => by simp [bkL]
  | s :: r, z, p, w => by
    simp only [bkL]
    rw [tags_bk hb r, tags_lnkO, tags_S hb]
    simp
theorem tags_B : ∀ (m : Nat) (l : List Sm) (w : Lw), tags (lwB m l w).2 = tags w ++ tgB m l
  | 0, l, w => by simp [lwB, tgB]
  | m + 1, l, w => tags_bk (tags_B m) l true (-1, -1) w
theorem tags_low (n : Nat) (f : List Sm) : (lowF n f).map tgOf = (0, sm00, false) :: (tgB n f ++ [(3, sm00, false)]) := by
  show tags (lnkR _ _ _) = _
  rw [tags_lnkR]
  show tags (lw4 n f) = _
  unfold lw4 lw3 lw2 lwA
  rw [tags_lnkO, tags_lnk, tags_add, tags_B, tags_add]
  rfl
theorem tgB_k : ∀ (m : Nat) (l : List Sm), ∀ t ∈ tgB m l, t.1 = 1 ∨ t.1 = 2 ∨ t.1 = 4
  | 0, l, t, h => by cases h
  | m + 1, l, t, h => by
    simp only [tgB, List.mem_flatMap] at h
    obtain ⟨s, _, h⟩ := h
    unfold tgS at h
    split at h
    · simp only [List.mem_cons, List.mem_append, List.not_mem_nil, or_false] at h
      rcases h with rfl | (h | h) | rfl
      · exact .inr (.inl rfl)
      · exact tgB_k m _ t h
      · exact tgB_k m _ t h
      · exact .inr (.inr rfl)
    split at h
    · simp only [List.mem_cons] at h
      rcases h with rfl | h
      · exact .inr (.inl rfl)
      · exact tgB_k m _ t h
    · simp only [List.mem_singleton] at h
      subst h; exact .inl rfl
theorem getD_tag {L : List Nd} {i : Nat} (h : i < L.length) : (L.map tgOf)[i]? = some (tgOf (L.getD i nd0)) := by simp [List.getD, h]
abbrev nd (w : Lw) (i : Nat) : Nd := w.l.getD i nd0
end Go.Proofs.Ytiipmaoonnjlpaa
