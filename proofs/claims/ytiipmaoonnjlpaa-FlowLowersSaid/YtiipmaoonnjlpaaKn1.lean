/- The chapter's example. No conditions but those in each statement. -/
import Derived.Test.YtiipmaoonnjlpaaPg2
import Derived.Test.YtiipmaoonnjlpaaLo4
import Derived.Test.YtiipmaoonnjlpaaGr1
set_option linter.unusedVariables false
set_option linter.unusedSimpArgs false
namespace Go.Proofs.Ytiipmaoonnjlpaa
open Go Go.Sy Go.RowKit
theorem okD_nil {m : Nat} {l : List Sm} (h : okD m l) : okD m [] := by
  cases m with
  | zero => exact h.elim
  | succ m => exact ⟨Nat.zero_le _, fun s hs => by cases hs⟩
theorem wi_th (s : Sm) (a b : List Sm) : (s.wi a b).th = a ∧ (s.wi a b).el = b := by cases s; exact ⟨rfl, rfl⟩
theorem rsW_okD {m : Nat} {f : Fn} {h : List Sm → List Sm × Int} : ∀ (l out : List Sm), (∀ s ∈ out, okD m s.th ∧ okD m s.el) → out.length + l.length ≤ 5000 → (∀ s ∈ l, okD m (h (rsS f s).1.th).1 ∧ okD m (h (rsS f s).1.el).1) → okD (m + 1) (rsW h f out l).1
  | [], out, ho, hl, _ => ⟨by simpa [rsW] using hl, ho⟩
  | s :: r, out, ho, hl, hs => by
    have h0 : okD (m + 1) [] := ⟨Nat.zero_le _, fun s hs => by cases hs⟩
    simp only [rsW]
    split
    · split
      · exact h0
      split
      · exact h0
      · refine rsW_okD r _ ?_ (by simp only [List.length_append, List.length_cons, List.length_nil] at hl ⊢; omega) fun s' hs' => hs s' (List.mem_cons_of_mem _ hs')
        intro s' hs'
        rcases List.mem_append.1 hs' with h1 | h1
        · exact ho s' h1
        · rw [List.mem_singleton.1 h1, (wi_th _ _ _).1, (wi_th _ _ _).2]
          exact hs s (List.mem_cons_self ..)
    · exact h0
theorem rsN_okD {n : Nat} {f : Fn} : ∀ (m : Nat) (l : List Sm), okB n m l → okD m (rsN f m l).1
  | 0, l, h => h.elim
  | m + 1, l, h => rsW_okD l [] (fun s hs => by cases hs) (by simpa using h.1) fun s hs => by
    obtain ⟨_, h1, h2⟩ := h.2 s hs
    have h3 := rsS_th f s
    refine ⟨rsN_okD (n := n) m _ ?_, rsN_okD (n := n) m _ ?_⟩
    · rcases h3.1 with h | h <;> rw [h]
      · exact h1
      · exact okB_nil h1
    · rcases h3.2 with h | h <;> rw [h]
      · exact h2
      · exact okB_nil h2
theorem fnF_okD {s : Int} {b : List Int} {n m : Nat} (h : okB n m (funF (txT s b)).1.body) : okD m (fnF s b m).body := by
  have h0 : okD m [] := by cases m with
    | zero => exact h.elim
    | succ m => exact ⟨Nat.zero_le _, fun s hs => by cases hs⟩
  unfold fnF pgF resF
  repeat' split
  all_goals first | exact h0 | exact rsN_okD m _ h
theorem rsN_0 (f : Fn) (m : Nat) : rsN f m [] = ([], -1) := by cases m <;> rfl
theorem rsW_flat {f : Fn} {h : List Sm → List Sm × Int} (hh : h [] = ([], -1)) : ∀ (l out : List Sm), (∀ s ∈ l, (rsS f s).2 = true ∧ (rsS f s).1.th = [] ∧ (rsS f s).1.el = []) → rsW h f out l = (out ++ l.map fun s => (rsS f s).1.wi [] [], -1)
  | [], out, _ => by simp [rsW]
  | s :: r, out, hs => by
    obtain ⟨h1, h2, h3⟩ := hs s (List.mem_cons_self ..)
    simp only [rsW, h1, h2, h3, hh, if_true, Int.reduceNeg, Int.reduceLE, if_false]
    rw [rsW_flat hh r _ fun s' hs' => hs s' (List.mem_cons_of_mem _ hs')]
    simp
abbrev t00 : List UInt8 := txT 0 []
theorem k0_e : ((funF t00).2.2 != 0) = false := by kernel_rfl
theorem k0_n : ((funF t00).1.name != nmS 0 || (funF t00).1.name == gloB) = false := by kernel_rfl
theorem k0_d : dupR [] ((funF t00).1.ps ++ (funF t00).1.ls) = false := by kernel_rfl
theorem k0_l : (funF t00).1.body.length = 2 := by kernel_rfl
theorem k0_a : ((funF t00).1.body.all fun s => (rsS (funF t00).1 s).2 && (rsS (funF t00).1 s).1.th.isEmpty && (rsS (funF t00).1 s).1.el.isEmpty) = true := by kernel_rfl
theorem fn0_body {m : Nat} : (fnF 0 [] (m + 1)).body = (funF t00).1.body.map fun s => (rsS (funF t00).1 s).1.wi [] [] := by
  have hf : rsN (funF t00).1 (m + 1) (funF t00).1.body = ((funF t00).1.body.map (fun s => (rsS (funF t00).1 s).1.wi [] []), -1) := by
    refine (rsW_flat (rsN_0 _ m) _ [] fun s hs => ?_).trans (by simp)
    have h := List.all_eq_true.1 k0_a s hs
    simp only [Bool.and_eq_true, List.isEmpty_iff] at h
    exact ⟨h.1.1, h.1.2, h.2⟩
  have h2 : resF (funF t00).1 (nmS 0) (m + 1) = (⟨(funF t00).1.name, (funF t00).1.ps, (funF t00).1.ls, (rsN (funF t00).1 (m + 1) (funF t00).1.body).1⟩, 0, 0) := by
    unfold resF
    rw [if_neg (by rw [k0_n]; decide), if_neg (by rw [k0_d]; decide), if_neg (by rw [hf]; decide)]
  have h3 : pgF ⟨nmS 0, txT 0 []⟩ (m + 1) = [(resF (funF t00).1 (nmS 0) (m + 1)).1] := by
    unfold pgF
    rw [if_neg (by show ¬((funF t00).2.2 != 0) = true; rw [k0_e]; decide), if_neg (by show ¬((resF (funF t00).1 (nmS 0) (m + 1)).2.2 != 0) = true; rw [h2]; simp)]
  unfold fnF
  rw [h3, h2, hf]; rfl
theorem bkL_len {bl : List Sm → Lw → LR} {m : Nat} (hb : ∀ (l : List Sm) (w : Lw) (c : Nat), okD m l → okL c w → Gd (c + 8 * szB m l) w (bl l w)) :
    ∀ (l : List Sm) (z : Bool) (p : Int × Int) (w : Lw) (c : Nat), (∀ s ∈ l, okD m s.th ∧ okD m s.el) → okL c w → rf w p.2 → w.l.length + l.length ≤ (bkL (lwS bl) l z p w).2.l.length
  | [], z, p, w, c, hd, h, ho => Nat.le_refl _
  | s :: r, z, p, w, c, hd, h, ho => by
    obtain ⟨d1, d2⟩ := hd s (List.mem_cons_self ..)
    obtain ⟨g, gf⟩ := lwS_gd hb d1 d2 h
    have e : (lnkO p.2 (lwS bl s w).1.1 (lwS bl s w).2).l.length = (lwS bl s w).2.l.length := lnkO_len _ _ _
    have k := lnkO_ok g.ok p.2 (lwS bl s w).1.1 (ho.mono g.len)
    have q := bkL_len hb r false (if z = true then (lwS bl s w).1.1 else p.1, (lwS bl s w).1.2) _ _ (fun s hs => hd s (List.mem_cons_of_mem _ hs)) k (g.o.mono (by omega))
    have hf : (lwS bl s w).1.1 = (w.l.length : Int) := by
      unfold lwS
      split
      · rfl
      split
      · rfl
      unfold plaL
      split <;> rfl
    have := g.f
    rw [hf] at this
    have h1 : w.l.length < (lwS bl s w).2.l.length := by
      rcases this with h | h <;> omega
    simp only [bkL, List.length_cons]
    omega
theorem lnkR_len (x : Int) : ∀ (r : List Int) (w : Lw), (lnkR x r w).l.length = w.l.length
  | [], w => rfl
  | a :: r, w => by simp only [lnkR, lnkR_len x r, lnkW_len]
theorem low_len {n : Nat} {l : List Sm} (h : okD n l) : (lowF n l).length = (lwA n l).2.l.length + 1 := by
  obtain ⟨e1, e2, e3, e4⟩ := lw_len h
  show (lnkR (lwX n l) (lw4 n l).r { lw4 n l with z := true }).l.length = _
  rw [lnkR_len]; exact e4
theorem low_len2 {n : Nat} {l : List Sm} (h : okD n l) : l.length + 2 ≤ (lowF n l).length := by
  rw [low_len h]
  cases n with
  | zero => exact h.elim
  | succ n =>
    have := bkL_len (lwB_gd n) l true (-1, -1) (addW 0 sm00 false lw0) 1 h.2 (addW_ok okL_0 _ _ _) (.inl rfl)
    rw [addW_len] at this
    show _ ≤ (lwB (n + 1) l (addW 0 sm00 false lw0)).2.l.length + 1
    show _ ≤ (bkL (lwS (lwB n)) l true (-1, -1) (addW 0 sm00 false lw0)).2.l.length + 1
    have h0 : lw0.l.length = 0 := rfl
    omega
theorem low_nil {n : Nat} (h : okD n []) : lowF n [] = [⟨0, sm00, [1], false⟩, ⟨3, sm00, [], false⟩] := by
  cases n with
  | zero => exact h.elim
  | succ n => rfl
theorem cBy_n : cBy.d (.one (.v (.slice none 0 0))) = some [] := codOf_le (e := fun l : List Int => .one (.d (.sl zBy (l.map byD)))) (a := []) (.inr ⟨rfl, rfl⟩)
theorem cFn_d0 (s : List UInt8) : cFn.d (.agg [.v (.string (bs s)), .v (.slice none 0 0), .v (.slice none 0 0), .v (.slice none 0 0)]) = some ⟨s, [], [], []⟩ := by
  refine codOf_le (e := fun f : Fn => .agg f.c) (a := ⟨s, [], [], []⟩) ?_
  exact ⟨leC_refl _, .inr ⟨rfl, rfl⟩, .inr ⟨rfl, rfl⟩, .inr ⟨rfl, rfl⟩, trivial⟩
noncomputable def n00 : Nat := dpM t00
theorem n00_ok : okD n00 (fnA 0 []).body ∧ szB n00 (fnA 0 []).body ≤ 10000000 ∧ 2 < (lowF n00 (fnA 0 []).body).length := by
  have h := dp_ok t00
  have h1 : okD n00 (fnA 0 []).body := fnF_okD h
  have hn : ∃ m, dpM t00 = m + 1 := by
    cases e : dpM t00 with
    | zero => rw [e] at h; exact h.elim
    | succ m => exact ⟨m, rfl⟩
  obtain ⟨m, hm⟩ := hn
  have hb : (fnA 0 []).body = (funF t00).1.body.map fun s => (rsS (funF t00).1 s).1.wi [] [] := by
    unfold fnA; rw [hm]; exact fn0_body
  have hl : (fnA 0 []).body.length = 2 := by rw [hb, List.length_map, k0_l]
  refine ⟨h1, ?_, by have := low_len2 h1; omega⟩
  have hs : ∀ (l : List Sm) (k : Nat), (∀ s ∈ l, s.th = [] ∧ s.el = []) → szB (k + 1) l = l.length := by
    intro l k hl
    induction l with
    | nil => rfl
    | cons s r ih =>
      obtain ⟨e1, e2⟩ := hl s (List.mem_cons_self ..)
      rw [szB_cons, ih fun s' hs' => hl s' (List.mem_cons_of_mem _ hs'), e1, e2]
      have e0 : szB k [] = 0 := by cases k <;> rfl
      rw [e0, List.length_cons]; omega
  unfold n00
  rw [hm, hs]
  · omega
  · intro s hs
    rw [hb] at hs
    obtain ⟨s', _, rfl⟩ := List.mem_map.1 hs
    exact wi_th _ _ _
noncomputable def yp_FnA {X : Ctx} {w0 : World} : Sy.Spec Try.prog X w0 := yg_FnA y_FnA
noncomputable def yp_low00 {X : Ctx} {w0 : World} : Sy.Spec Try.prog X w0 := yg_lower n00 (y_lower n00)
abbrev yc_known  : Prop := True
abbrev yr_known  : Value := Value.bool true
set_option maxRecDepth 20000 in set_option maxHeartbeats 8000000 in
theorem y_known : CallsR Try.prog 8 ah0 (fun p : Unit => yc_known ) (fun p : Unit => ofV (yr_known )) := by
  rintro _u w fz xs hc hfz hl hx
  refine calls_toRL Try.func8 rfl w fz [yp_FnA, yp_low00, yp_Ints] [] ah0 (fun p : Unit => ofV (yr_known )) _ xs hfz hl hx (Nat.le_of_ble_eq_true rfl) ?_
  clear hx hl hfz xs
  simp only [Try.f8]
  obtain ⟨h1, h2, h3⟩ := n00_ok
  have h4 := okD_nil h1
  have h5 := low_nil h4
  have g1 : yc_FnA 0 [] := ⟨Int.le_refl _, Nat.zero_le _, fun x hx => by cases hx⟩
  have h6 : szB n00 [] ≤ 10000000 := by cases n00 <;> exact Nat.zero_le _
  obtain ⟨F, hF⟩ : ∃ F, fnA 0 [] = F := ⟨_, rfl⟩
  rw [hF] at h1 h2 h3
  obtain ⟨L, hL⟩ : ∃ L, lowF n00 F.body = L := ⟨_, rfl⟩
  rw [hL] at h3
  have g2 : yc_lower n00 F := ⟨h1, h2⟩
  have g3 : yc_lower n00 ⟨[102], [], [], []⟩ := ⟨h4, h6⟩
  have h7 : decide ((2 : Int) < (L.length : Int)) = true := by simp; omega
  have h8 : (([1] : List Int) == [1]) = true := rfl
  simp only [↓eB, seval, go_sem, yp_FnA, yg_FnA, yp_low00, yg_lower, yp_Ints, yr_FnA, yr_lower, yr_Ints, cBy_n, cBy_e, cBy_d, cFn_e, cFn_d, cFn_d0, Fn.c, fn_eta, gB, rIn_d, rIn_e, rIn_z, zID_ln, decL_in, cSl, inD, Nd.r, zND_ln, hF, hL, h5, h7, h8]
  try simp only [impB, impN]
  repeat' first | exact ck | with_reducible apply And.intro | intro _
  all_goals first | exact g1.1 | exact g1.2 | exact g2.1 | exact g2.2 | exact g3.1 | exact g3.2 | (rename_i h; first | exact oI h | exact nah h) | (rename_i _ h _ g; exact sL h g) | decide | omega | (refine ret_with [] ?_; simp only [↓eB, seval, go_sem, bne, yr_known])
theorem yh_known : ∀ p : Unit, okV ((fun p : Unit => yr_known ) p) = true := by intro p; rfl
noncomputable def yp_known {X : Ctx} {w0 : World} : Sy.Spec Try.prog X w0 := specR 8 Try.call8 ah0 (fun p : Unit => yc_known ) (fun p : Unit => yr_known ) yh_known y_known
end Go.Proofs.Ytiipmaoonnjlpaa
set_option linter.unusedVariables false
set_option linter.unusedSimpArgs false
namespace Go.Proofs.Ytiipmaoonnjlpaa
open Go Go.Sy Go.RowKit
abbrev Tg := Int × Sm × Bool
def tgOf (x : Nd) : Tg := (x.k, x.s, x.h)
def tags (w : Lw) : List Tg := w.l.map tgOf
theorem set_getD {A : Type} (l : List A) (i : Nat) (d : A) : l.set i (l.getD i d) = l := by
  by_cases h : i < l.length
  · have e : l.getD i d = l[i] := by simp [List.getD, h]
    rw [e, List.set_getElem_self]
  · rw [List.set_eq_of_length_le (by omega)]
theorem tags_add (k : Int) (s : Sm) (h : Bool) (w : Lw) : tags (addW k s h w) = tags w ++ [(k, s, h)] := by simp [tags, addW, tgOf]
theorem tags_lnk (a b : Int) (w : Lw) : tags (lnkW a b w) = tags w := by
  have e : tgOf ((w.l.getD a.toNat nd0).to b) = (w.l.map tgOf).getD a.toNat (tgOf nd0) := by
    simp only [List.getD, List.getElem?_map]
    cases w.l[a.toNat]? <;> rfl
  show (w.l.set a.toNat _).map tgOf = _
  rw [List.map_set, e, set_getD]; rfl
theorem tags_lnkO (a b : Int) (w : Lw) : tags (lnkO a b w) = tags w := by unfold lnkO; split; exact rfl; exact tags_lnk a b w
theorem tags_addR (n : Int) (w : Lw) : tags (addR n w) = tags w := rfl
theorem tags_lnkR (x : Int) : ∀ (r : List Int) (w : Lw), tags (lnkR x r w) = tags w
  | [], w => rfl
  | a :: r, w => by simp only [lnkR]; rw [tags_lnkR x r, tags_lnk]
def tgS (tb : List Sm → List Tg) (s : Sm) : List Tg :=
  if (s.k == 10) = true then (2, s, false) :: (tb s.th ++ tb s.el ++ [(4, sm00, false)])
  else if (s.k == 11) = true then (2, s, true) :: tb s.th else [(1, s, false)]
def tgB : Nat → List Sm → List Tg
  | 0, _ => []
  | m + 1, l => l.flatMap (tgS (tgB m))
theorem tags_S {bl : List Sm → Lw → LR} {tb : List Sm → List Tg} (hb : ∀ l w, tags (bl l w).2 = tags w ++ tb l) (s : Sm) (w : Lw) : tags (lwS bl s w).2 = tags w ++ tgS tb s := by
  unfold lwS tgS
  split
  · show tags (br6 bl s w) = _
    unfold br6 br5 br4 br3 br2 brB brA
    rw [tags_lnkO, tags_lnkO, tags_lnk, tags_lnk, tags_add, hb, hb, tags_add]
    simp
  split
  · show tags (lo2 bl s w) = _
    unfold lo2 lo1 loA
    rw [tags_lnkO, tags_lnk, hb, tags_add]
    simp
  · unfold plaL
    split
    · show tags (addR _ (addW 1 s false w)) = _
      rw [tags_addR, tags_add]
    · show tags (addW 1 s false w) = _
      rw [tags_add]
theorem tags_bk {bl : List Sm → Lw → LR} {tb : List Sm → List Tg} (hb : ∀ l w, tags (bl l w).2 = tags w ++ tb l) : ∀ (l : List Sm) (z : Bool) (p : Int × Int) (w : Lw), tags (bkL (lwS bl) l z p w).2 = tags w ++ l.flatMap (tgS tb)
  | [], z, p, w => by simp [bkL]
  | s :: r, z, p, w => by
    simp only [bkL]
    rw [tags_bk hb r, tags_lnkO, tags_S hb]
    simp
theorem tags_B : ∀ (m : Nat) (l : List Sm) (w : Lw), tags (lwB m l w).2 = tags w ++ tgB m l
  | 0, l, w => by simp [lwB, tgB]
  | m + 1, l, w => tags_bk (tags_B m) l true (-1, -1) w
theorem tags_low (n : Nat) (f : List Sm) : (lowF n f).map tgOf = (0, sm00, false) :: (tgB n f ++ [(3, sm00, false)]) := by
  show tags (lnkR _ _ _) = _
  rw [tags_lnkR]
  show tags (lw4 n f) = _
  unfold lw4 lw3 lw2 lwA
  rw [tags_lnkO, tags_lnk, tags_add, tags_B, tags_add]
  rfl
end Go.Proofs.Ytiipmaoonnjlpaa
