/- Tokens of a text that is put together. No conditions but those in each statement. -/
import Derived.Test.YtiipmaoonnjlpaaPa0
set_option linter.unusedVariables false
set_option linter.unusedSimpArgs false
namespace Go.Proofs.Ytiipmaoonnjlpaa
open Go Go.Sy Go.RowKit

/-- the lexer on what is left of a text -/
def rxG : Nat → Nat → List UInt8 → List Tok → List Tok × Int × Int
  | 0, _, _, out => (out, 0, 0)
  | _ + 1, _, [], out => (out, 0, 0)
  | f + 1, i, c :: r, out =>
    if blB (c.toNat : Int) = true then rxG f (i + 1) r out
    else if ((c.toNat : Int) == 35) = true then rxG f (i + spanN nlB (c :: r)) ((c :: r).drop (spanN nlB (c :: r))) out
    else if letB (c.toNat : Int) = true then (if decide (32 < ((spanN idB (c :: r) : Nat) : Int)) = true then ([], (i : Int), 53) else rxG f (i + spanN idB (c :: r)) ((c :: r).drop (spanN idB (c :: r))) (out ++ [⟨0, (c :: r).take (spanN idB (c :: r)), (i : Int)⟩]))
    else if digB (c.toNat : Int) = true then
      (if greB (c :: r) = true then ([], (i : Int), 53)
       else if (decide (0 < ((c :: r).drop (spanN digB (c :: r))).length) && letB ((((c :: r).drop (spanN digB (c :: r))).getD 0 0).toNat : Int) || ((c.toNat : Int) == 48 && decide (1 < ((spanN digB (c :: r) : Nat) : Int)))) = true then ([], (i : Int), 50)
       else rxG f (i + spanN digB (c :: r)) ((c :: r).drop (spanN digB (c :: r))) (out ++ [⟨1, (c :: r).take (spanN digB (c :: r)), (i : Int)⟩]))
    else if (decide (2 ≤ (c :: r).length) && ((c :: r).take 2 == [61, 61] || (c :: r).take 2 == [33, 61] || (c :: r).take 2 == [60, 61] || (c :: r).take 2 == [62, 61] || (c :: r).take 2 == [38, 38] || (c :: r).take 2 == [124, 124])) = true then rxG f (i + 2) ((c :: r).drop 2) (out ++ [⟨2, (c :: r).take 2, (i : Int)⟩])
    else if oneB signs (c.toNat : Int) = true then rxG f (i + 1) r (out ++ [⟨2, (c :: r).take 1, (i : Int)⟩])
    else ([], (i : Int), 50)
theorem getD_drop (s : List UInt8) (i k : Nat) : (s.drop i).getD k 0 = s.getD (i + k) 0 := by simp [List.getD, List.getElem?_drop]
theorem rxF_G (s : List UInt8) : ∀ (f i : Nat) (out : List Tok), i ≤ s.length → rxF s f i out = rxG f i (s.drop i) out
  | 0, i, out, _ => by cases s.drop i <;> rfl
  | f + 1, i, out, hi => by
    by_cases hlt : i < s.length
    · have hd : s.drop i = s.getD i 0 :: s.drop (i + 1) := by
        rw [List.drop_eq_getElem_cons hlt]; simp [List.getD, hlt]
      have hlen : (s.drop i).length = s.length - i := by simp
      have dd : ∀ k, (s.drop i).drop k = s.drop (i + k) := fun k => by rw [List.drop_drop]
      have sp := fun p => spanN_le p (s.drop i)
      rw [hlen] at sp
      simp only [rxF]
      rw [if_neg (Nat.not_le.2 hlt)]
      have hG : rxG (f + 1) i (s.drop i) out = rxG (f + 1) i (s.getD i 0 :: s.drop (i + 1)) out := by rw [hd]
      rw [hG]
      simp only [rxG, ← hd, dd]
      have hc : chI s i = ((s.getD i 0).toNat : Int) := rfl
      rw [hc]
      have r1 : ∀ out, rxF s f (i + 1) out = rxG f (i + 1) (s.drop (i + 1)) out := fun out => rxF_G s f _ out hlt
      have rS : ∀ p out, rxF s f (i + spanN p (s.drop i)) out = rxG f (i + spanN p (s.drop i)) (s.drop (i + spanN p (s.drop i))) out := fun p out => rxF_G s f _ out (by have := sp p; omega)
      have e1 : decide (((i + spanN digB (s.drop i) : Nat) : Int) < (s.length : Int)) = decide (0 < (s.drop (i + spanN digB (s.drop i))).length) := by
        rw [decide_eq_decide, List.length_drop]; omega
      have e2 : chI s (i + spanN digB (s.drop i)) = (((s.drop (i + spanN digB (s.drop i))).getD 0 0).toNat : Int) := by
        rw [getD_drop]; rfl
      have e3 : twoB s i = (decide (2 ≤ (s.drop i).length) && ((s.drop i).take 2 == [61, 61] || (s.drop i).take 2 == [33, 61] || (s.drop i).take 2 == [60, 61] || (s.drop i).take 2 == [62, 61] || (s.drop i).take 2 == [38, 38] || (s.drop i).take 2 == [124, 124])) := by
        unfold twoB
        rw [show decide (((i + 2 : Nat) : Int) ≤ (s.length : Int)) = decide (2 ≤ (s.drop i).length) by rw [decide_eq_decide, hlen]; omega]
      rw [e1, e2, e3]
      split
      · exact r1 _
      split
      · exact rS _ _
      split
      · split
        · rfl
        · exact rS _ _
      split
      · split
        · rfl
        split
        · rfl
        · exact rS _ _
      split
      · rename_i h
        have h2 : i + 2 ≤ s.length := by
          simp only [Bool.and_eq_true, decide_eq_true_eq, hlen] at h; omega
        exact rxF_G s f _ _ h2
      split
      · exact r1 _
      · rfl
    · have he : i = s.length := by omega
      subst he
      simp only [rxF]
      rw [if_pos (Nat.le_refl _), List.drop_length]
      rfl
def kt (t : Tok) : Int × List UInt8 := (t.k, t.t)
/-- a piece of a text with its tokens, whatever follows -/
def Lx (p : List UInt8) (n : Nat) (ts : List (Int × List UInt8)) : Prop :=
  ∀ (f i : Nat) (r : List UInt8) (out : List Tok), ∃ o2, o2.map kt = ts ∧ rxG (f + n) i (p ++ r) out = rxG f (i + p.length) r (out ++ o2)
theorem Lx.app {p q : List UInt8} {n m : Nat} {ts us : List (Int × List UInt8)} (h : Lx p n ts) (k : Lx q m us) : Lx (p ++ q) (n + m) (ts ++ us) := by
  intro f i r out
  obtain ⟨o1, a1, a2⟩ := h (f + m) i (q ++ r) out
  obtain ⟨o2, b1, b2⟩ := k f (i + p.length) r (out ++ o1)
  refine ⟨o1 ++ o2, by rw [List.map_append, a1, b1], ?_⟩
  rw [List.append_assoc, show f + (n + m) = f + m + n by omega, a2, b2, List.length_append, Nat.add_assoc, List.append_assoc]
theorem Lx.nil : Lx [] 0 [] := fun f i r out => ⟨[], rfl, by simp⟩
theorem foldl_app (o2 out : List Tok) : o2.foldl (fun o t => o ++ [t]) out = out ++ o2 := by
  induction o2 generalizing out with
  | nil => simp
  | cons a l ih => rw [List.foldl_cons, ih, List.append_assoc]; rfl
theorem Lx.mk' {p : List UInt8} {n : Nat} {ts : List (Int × List UInt8)} (o : Nat → List Tok) (h : ∀ i, (o i).map kt = ts) (h2 : ∀ (f i : Nat) (r : List UInt8) (out : List Tok), rxG (f + n) i (p ++ r) out = rxG f (i + p.length) r ((o i).foldl (fun o t => o ++ [t]) out)) : Lx p n ts :=
  fun f i r out => ⟨o i, h i, by rw [h2, foldl_app]⟩
def pWh : List UInt8 := [119, 104, 105, 108, 101, 32, 40, 120, 32, 60, 32, 49, 41, 32, 123, 32]
def kWh : List (Int × List UInt8) := [(0, [119, 104, 105, 108, 101]), (2, [40]), (0, [120]), (2, [60]), (1, [49]), (2, [41]), (2, [123])]
theorem lxWh : Lx pWh 12 kWh := Lx.mk' (fun i => [⟨0, [119, 104, 105, 108, 101], ((i + 0 : Nat) : Int)⟩, ⟨2, [40], ((i + 6 : Nat) : Int)⟩, ⟨0, [120], ((i + 7 : Nat) : Int)⟩, ⟨2, [60], ((i + 9 : Nat) : Int)⟩, ⟨1, [49], ((i + 11 : Nat) : Int)⟩, ⟨2, [41], ((i + 12 : Nat) : Int)⟩, ⟨2, [123], ((i + 14 : Nat) : Int)⟩]) (fun _ => rfl) (fun f i r out => by kernel_rfl)
def pIf : List UInt8 := [105, 102, 32, 40, 120, 32, 60, 32, 49, 41, 32, 123, 32]
def kIf : List (Int × List UInt8) := [(0, [105, 102]), (2, [40]), (0, [120]), (2, [60]), (1, [49]), (2, [41]), (2, [123])]
theorem lxIf : Lx pIf 12 kIf := Lx.mk' (fun i => [⟨0, [105, 102], ((i + 0 : Nat) : Int)⟩, ⟨2, [40], ((i + 3 : Nat) : Int)⟩, ⟨0, [120], ((i + 4 : Nat) : Int)⟩, ⟨2, [60], ((i + 6 : Nat) : Int)⟩, ⟨1, [49], ((i + 8 : Nat) : Int)⟩, ⟨2, [41], ((i + 9 : Nat) : Int)⟩, ⟨2, [123], ((i + 11 : Nat) : Int)⟩]) (fun _ => rfl) (fun f i r out => by kernel_rfl)
def pEl : List UInt8 := [125, 32, 101, 108, 115, 101, 32, 123, 32, 120, 32, 61, 32, 50, 59, 32, 125, 32]
def kEl : List (Int × List UInt8) := [(2, [125]), (0, [101, 108, 115, 101]), (2, [123]), (0, [120]), (2, [61]), (1, [50]), (2, [59]), (2, [125])]
theorem lxEl : Lx pEl 15 kEl := Lx.mk' (fun i => [⟨2, [125], ((i + 0 : Nat) : Int)⟩, ⟨0, [101, 108, 115, 101], ((i + 2 : Nat) : Int)⟩, ⟨2, [123], ((i + 7 : Nat) : Int)⟩, ⟨0, [120], ((i + 9 : Nat) : Int)⟩, ⟨2, [61], ((i + 11 : Nat) : Int)⟩, ⟨1, [50], ((i + 13 : Nat) : Int)⟩, ⟨2, [59], ((i + 14 : Nat) : Int)⟩, ⟨2, [125], ((i + 16 : Nat) : Int)⟩]) (fun _ => rfl) (fun f i r out => by kernel_rfl)
def pEn : List UInt8 := [125, 32]
def kEn : List (Int × List UInt8) := [(2, [125])]
theorem lxEn : Lx pEn 2 kEn := Lx.mk' (fun i => [⟨2, [125], ((i + 0 : Nat) : Int)⟩]) (fun _ => rfl) (fun f i r out => by kernel_rfl)
def pAs : List UInt8 := [120, 32, 61, 32, 49, 59, 32]
def kAs : List (Int × List UInt8) := [(0, [120]), (2, [61]), (1, [49]), (2, [59])]
theorem lxAs : Lx pAs 7 kAs := Lx.mk' (fun i => [⟨0, [120], ((i + 0 : Nat) : Int)⟩, ⟨2, [61], ((i + 2 : Nat) : Int)⟩, ⟨1, [49], ((i + 4 : Nat) : Int)⟩, ⟨2, [59], ((i + 5 : Nat) : Int)⟩]) (fun _ => rfl) (fun f i r out => by kernel_rfl)
def pRe : List UInt8 := [114, 101, 116, 117, 114, 110, 32, 120, 59, 32]
def kRe : List (Int × List UInt8) := [(0, [114, 101, 116, 117, 114, 110]), (0, [120]), (2, [59])]
theorem lxRe : Lx pRe 5 kRe := Lx.mk' (fun i => [⟨0, [114, 101, 116, 117, 114, 110], ((i + 0 : Nat) : Int)⟩, ⟨0, [120], ((i + 7 : Nat) : Int)⟩, ⟨2, [59], ((i + 8 : Nat) : Int)⟩]) (fun _ => rfl) (fun f i r out => by kernel_rfl)
def pHd : List UInt8 := [102, 110, 32, 102, 40, 120, 41, 32, 123, 32]
def kHd : List (Int × List UInt8) := [(0, [102, 110]), (0, [102]), (2, [40]), (0, [120]), (2, [41]), (2, [123])]
theorem lxHd : Lx pHd 9 kHd := Lx.mk' (fun i => [⟨0, [102, 110], ((i + 0 : Nat) : Int)⟩, ⟨0, [102], ((i + 3 : Nat) : Int)⟩, ⟨2, [40], ((i + 4 : Nat) : Int)⟩, ⟨0, [120], ((i + 5 : Nat) : Int)⟩, ⟨2, [41], ((i + 6 : Nat) : Int)⟩, ⟨2, [123], ((i + 8 : Nat) : Int)⟩]) (fun _ => rfl) (fun f i r out => by kernel_rfl)
def pCl : List UInt8 := [125]
def kCl : List (Int × List UInt8) := [(2, [125])]
theorem lxCl (f i : Nat) (out : List Tok) : rxG (f + 1) i pCl out = rxG f (i + 1) [] (out ++ [⟨2, [125], (i : Int)⟩]) := by kernel_rfl
def bT : List Nat → List UInt8
  | [] => []
  | 0 :: t => pWh ++ (bT t ++ pEn)
  | 1 :: t => pIf ++ (bT t ++ pEl)
  | 2 :: t => pAs ++ bT t
  | _ :: t => pRe ++ bT t
def bK : List Nat → List (Int × List UInt8)
  | [] => []
  | 0 :: t => kWh ++ (bK t ++ kEn)
  | 1 :: t => kIf ++ (bK t ++ kEl)
  | 2 :: t => kAs ++ bK t
  | _ :: t => kRe ++ bK t
theorem lx_b : ∀ l : List Nat, ∃ n, n ≤ (bT l).length ∧ Lx (bT l) n (bK l)
  | [] => ⟨0, Nat.le_refl _, Lx.nil⟩
  | 0 :: t => by
    obtain ⟨n, h1, h2⟩ := lx_b t
    exact ⟨_, by simp only [bT, List.length_append]; have e1 : pWh.length = 16 := rfl; have e2 : pEn.length = 2 := rfl; omega, lxWh.app (h2.app lxEn)⟩
  | 1 :: t => by
    obtain ⟨n, h1, h2⟩ := lx_b t
    exact ⟨_, by simp only [bT, List.length_append]; have e1 : pIf.length = 13 := rfl; have e2 : pEl.length = 18 := rfl; omega, lxIf.app (h2.app lxEl)⟩
  | 2 :: t => by
    obtain ⟨n, h1, h2⟩ := lx_b t
    exact ⟨_, by simp only [bT, List.length_append]; have e1 : pAs.length = 7 := rfl; omega, lxAs.app h2⟩
  | (k + 3) :: t => by
    obtain ⟨n, h1, h2⟩ := lx_b t
    exact ⟨_, by simp only [bT, List.length_append]; have e1 : pRe.length = 10 := rfl; omega, lxRe.app h2⟩
def fT (l : List Nat) : List UInt8 := pHd ++ (bT l ++ pCl)
def fK (l : List Nat) : List (Int × List UInt8) := kHd ++ (bK l ++ [(2, [125])])
/-- the tokens of the law's texts -/
theorem rx_f (l : List Nat) (h : (fT l).length ≤ 4096) : ∃ ts, rxT (fT l) = (ts, 0, 0) ∧ ts.map kt = fK l := by
  obtain ⟨n, h1, h2⟩ := lx_b l
  have e1 : pHd.length = 10 := rfl
  have e2 : pCl.length = 1 := rfl
  have hl : (fT l).length = 10 + ((bT l).length + 1) := by simp only [fT, List.length_append, e1, e2]
  have hr : rxT (fT l) = rxG (fT l).length 0 (fT l) [] := by
    unfold rxT
    rw [if_neg (by simp; omega), rxF_G _ _ _ _ (Nat.zero_le _)]; rfl
  obtain ⟨g, hg⟩ : ∃ g, (fT l).length = (g + 1 + 1) + (9 + n) := ⟨(fT l).length - n - 11, by omega⟩
  have h3 := lxHd.app h2
  have e3 : fT l = (pHd ++ bT l) ++ pCl := by simp [fT]
  rw [hr, hg, e3]
  obtain ⟨o, a1, a2⟩ := h3 (g + 1 + 1) 0 pCl []
  rw [a2, lxCl]
  refine ⟨[] ++ o ++ [⟨2, [125], ((0 + (pHd ++ bT l).length : Nat) : Int)⟩], rfl, ?_⟩
  rw [List.nil_append, List.map_append, a1]
  simp [fK, kt]
end Go.Proofs.Ytiipmaoonnjlpaa
