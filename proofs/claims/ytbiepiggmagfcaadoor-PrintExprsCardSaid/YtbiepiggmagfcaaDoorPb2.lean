/- strings.Builder: contracts of copyCheck, WriteByte, WriteString, String for a builder at the head of a block whose type is known. Conditions: the bytes come to less than 10^14. -/
import Derived.Test.YtbiepiggmagfcaaDoorPb1
import Derived.Test.YtbiepiggmagfcaaDoorAt
set_option linter.unusedVariables false
set_option linter.unusedSimpArgs false
namespace Go.Proofs.YtbiepiggmagfcaaDoor
open Go Go.Sy Go.RowKit
theorem sC_any (k : Nat) : sC k .any = .any := rfl
theorem sC_v (k : Nat) (x : Value) : sC k (.v x) = .v x := rfl
theorem sC_p (k a x y : Nat) : sC k (.p a x y) = .p k x y := rfl
theorem sC_d (k : Nat) (x : D) : sC k (.d x) = .d x := rfl
theorem sC_ov (k : Nat) (z : List C) (es : List (List C)) : sC k (.ov z es) = .ov z es := rfl
theorem sR_1 (k : Nat) (r : List C) : sR k [r] = [r.map (sC k)] := rfl
attribute [go_sem] sC_any sC_v sC_p sC_d sC_ov sR_1 selfM specN_f specN_fn spN_some amB_d ptrB amB_a amB_m
/-- a builder: used or not, its bytes, what follows in its block -/
structure Bd where
  u : Bool
  t : List UInt8
  r : List Int
def adC : Bool → C
  | true => .p 0 0 0
  | false => .v (.pointer none)
def byK (x : UInt8) : List C := [.v (.int .u8 x.toNat)]
def inK (n : Int) : C := .v (.int .i64 n)
def zB8 : List C := [.d (.v (.pointer (some ⟨5, 0, none⟩)))]
def Bd.c (b : Bd) : List C := adC b.u :: .ov zB8 (b.t.map byK) :: b.r.map inK
theorem byK_inj (a b : UInt8) (h : byK a = byK b) : a = b := by
  simp only [byK, List.cons.injEq, C.v.injEq, Value.int.injEq, and_true, true_and] at h
  exact UInt8.toNat_inj.1 (by omega)
theorem bd_uq (k : Nat) (a b : Bd) (h : a.c.map (sC k) = b.c.map (sC k)) : a = b := by
  obtain ⟨u, t, r⟩ := a
  obtain ⟨u', t', r'⟩ := b
  simp only [Bd.c, List.map_cons, List.cons.injEq, sC_ov, C.ov.injEq, true_and, List.map_map] at h
  obtain ⟨h1, h2, h3⟩ := h
  have hr : r = r' := map_inj (f := sC k ∘ inK) (fun a b h => by simpa [inK, sC] using h) h3
  rw [map_inj byK_inj h2, hr]
  cases u <;> cases u' <;> simp [adC, sC] at h1 <;> rfl
theorem bdc_ok (b : Bd) : ∀ c ∈ b.c, cOK 0 c := by
  obtain ⟨u, t, r⟩ := b
  intro c hc
  rcases List.mem_cons.1 hc with rfl | hc
  · cases u
    · exact .inl rfl
    · exact .inr ⟨rfl, 0, 0, rfl⟩
  rcases List.mem_cons.1 hc with rfl | hc
  · exact .inl rfl
  · obtain ⟨n, _, rfl⟩ := List.mem_map.1 hc
    exact .inl rfl
open Classical in
noncomputable def rBd (T : TypeId) (m : Nat) : RowB Bd where
  z := tgN T (m + 2)
  d k r := if h : ∃ b : Bd, b.r.length = m ∧ r = b.c.map (sC k) then some h.choose else none
  e := Bd.c
  h k r b hd := by
    split at hd
    · rename_i h
      simp only [Option.some.injEq] at hd
      subst hd
      exact h.choose_spec.2
    · cases hd
  n := bdc_ok
theorem rBd_z (T : TypeId) (m : Nat) : (rBd T m).z = tgN T (m + 2) := rfl
theorem rBd_e (T : TypeId) (m : Nat) : (rBd T m).e = Bd.c := rfl
open Classical in
theorem rBd_d (T : TypeId) (m k : Nat) (b : Bd) (h : b.r.length = m) : (rBd T m).d k (b.c.map (sC k)) = some b := by
  have hex : ∃ a : Bd, a.r.length = m ∧ b.c.map (sC k) = a.c.map (sC k) := ⟨b, h, rfl⟩
  unfold rBd
  simp only [dif_pos hex]
  exact congrArg some (bd_uq k _ _ hex.choose_spec.2.symm)
theorem rBd_u0 (T : TypeId) (k : Nat) (t : List UInt8) : (rBd T 0).d k [.p k 0 0, .ov zB8 (t.map byK)] = some ⟨true, t, []⟩ := rBd_d T 0 k ⟨true, t, []⟩ rfl
theorem rBd_n0 (T : TypeId) (k : Nat) (t : List UInt8) : (rBd T 0).d k [.v (.pointer none), .ov zB8 (t.map byK)] = some ⟨false, t, []⟩ := rBd_d T 0 k ⟨false, t, []⟩ rfl
theorem rBd_f0 (T : TypeId) (k : Nat) : (rBd T 0).d k [.v (.pointer none), .ov zB8 []] = some ⟨false, [], []⟩ := rBd_n0 T k []
theorem rBd_u1 (T : TypeId) (k : Nat) (t : List UInt8) (n : Int) : (rBd T 1).d k [.p k 0 0, .ov zB8 (t.map byK), .v (.int .i64 n)] = some ⟨true, t, [n]⟩ := rBd_d T 1 k ⟨true, t, [n]⟩ rfl
theorem rBd_n1 (T : TypeId) (k : Nat) (t : List UInt8) (n : Int) : (rBd T 1).d k [.v (.pointer none), .ov zB8 (t.map byK), .v (.int .i64 n)] = some ⟨false, t, [n]⟩ := rBd_d T 1 k ⟨false, t, [n]⟩ rfl
theorem rBd_f1 (T : TypeId) (k : Nat) (n : Int) : (rBd T 1).d k [.v (.pointer none), .ov zB8 [], .v (.int .i64 n)] = some ⟨false, [], [n]⟩ := rBd_n1 T k [] n
theorem bd_cOK (z : List C) (b : Bd) (l : List (Option MV)) : ∀ (i : Nat) q, (some (z, [b.c]) :: l.map fun _ => (none : Option MV))[i]? = some (some q) → ∀ r ∈ q.2, ∀ c ∈ r, cOK i c := by
  intro i q hq r hr c hc
  cases i with
  | zero =>
    simp only [List.getElem?_cons_zero, Option.some.injEq] at hq
    subst hq
    simp only [List.mem_singleton] at hr
    subst hr
    exact bdc_ok b c hc
  | succ i => simp at hq
theorem bd_cOK1 (z : List C) (b : Bd) : ∀ (i : Nat) q, ([some (z, [b.c])] : List (Option MV))[i]? = some (some q) → ∀ r ∈ q.2, ∀ c ∈ r, cOK i c := bd_cOK z b []
theorem bd_cOK2 (z : List C) (b : Bd) : ∀ (i : Nat) q, ([some (z, [b.c]), none] : List (Option MV))[i]? = some (some q) → ∀ r ∈ q.2, ∀ c ∈ r, cOK i c := bd_cOK z b [none]
theorem no_cOK1 : ∀ (i : Nat) q, ([none] : List (Option MV))[i]? = some (some q) → ∀ r ∈ q.2, ∀ c ∈ r, cOK i c := by
  intro i q hq
  cases i <;> simp at hq
theorem rowsY : RowsD byK (fun x => [.v (.int .u8 x.toNat)]) 1 := by
  refine ⟨fun a c hc => ?_, fun a c hc => ?_, fun a => rfl, fun a => rfl⟩
  · simp only [byK, List.mem_singleton] at hc; subst hc; rfl
  · simp only [byK, List.mem_singleton] at hc; subst hc; rfl
/-- the types at whose head a builder lies -/
structure lieB (T : TypeId) (m : Nat) : Prop where
  h : ∀ n, m + 2 ≤ n → liesAt Tryd.prog Tryd.prog.depth T (n / Tryd.prog.cellsOf T) 0 83 1 = true
theorem x72 : Builder.X72 Tryd.prog Tryd.lays156_ren := ⟨by kernel_rfl, by kernel_rfl⟩
end Go.Proofs.YtbiepiggmagfcaaDoor
