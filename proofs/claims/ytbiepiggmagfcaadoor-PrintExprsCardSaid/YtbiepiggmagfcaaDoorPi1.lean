/- Numbers as text. Conditions: the numbers are of 64 bits; the table of powers of ten is laid. -/
import Derived.Test.YtbiepiggmagfcaaDoorPb5
import Derived.Shelf.Strconv.Itoa4
namespace Go.Proofs
open Go.Shelf
 shelf_lay LaysM.n173 Nm 173 at Tryd as Tryd.laysM173
 shelf_lay LaysM.n171 Nm 171 at Tryd as Tryd.laysM171
end Go.Proofs
set_option linter.unusedVariables false
set_option linter.unusedSimpArgs false
namespace Go.Proofs.YtbiepiggmagfcaaDoor
open Go Go.Sy Go.Shelf Go.RowKit
def powT (w : World) : Prop := Lib.TabIs Tryd.prog w "internal/strconv.uint64pow10" .u64 Lib.pow10Tab
def powB (b : Nat) : Prop := Tryd.prog.globalNamed "internal/strconv.uint64pow10" = some b
theorem powT_keptB (w w' : World) (h : powT w) (hk : ∀ b, powB b → hp w' b = hp w b) : powT w' := by
  unfold powT Lib.TabIs World.var? at *
  obtain ⟨g, hg, h⟩ := Option.bind_eq_some_iff.1 h
  rw [hg, Option.bind_some]
  have := hk g hg
  rw [show w'.heap[g]? = w.heap[g]? from this]
  exact h
theorem powT_size (w : World) (b : Nat) (h : powT w) (hb : powB b) : b < w.heap.size := by
  unfold powT Lib.TabIs World.var? at h
  rw [hb, Option.bind_some] at h
  cases e : w.heap[b]? with
  | none => rw [e] at h; cases h
  | some o => exact (Array.getElem?_eq_some_iff.1 e).1
abbrev w64 (n : Int) : Prop := -9223372036854775808 ≤ n ∧ n ≤ 9223372036854775807
theorem below_grow (w : World) (q : Nat) (os : Array Obj) : Below w.heap.size w (Sort.grow (w.drewN q) os) :=
  ⟨rfl, rfl, rfl, by first | (simp [Sort.grow]; done) | (simp [Sort.grow]; omega), fun i hi => by
    show ((w.drewN q).heap ++ os)[i]? = _
    rw [Array.getElem?_append_left (by show i < w.heap.size; omega)]
    rfl⟩
def itT (n : Int) : List UInt8 := Lib.itoa n
theorem c_FormatInt (n : Int) (h : w64 n) (w : World) (ht : powT w) : Calls Tryd.prog 24 #[.int .i64 n, .int .i64 10] w fun e w' => e = .returned (.string (bs (itT n))) ∧ Below w.heap.size w w' :=
  (Any.strconv_FormatInt_10 Tryd.laysM173 n h.1 h.2 w ht).mono fun e w' ⟨h1, k, os, h2⟩ => ⟨h1, by subst h2; exact below_grow w k os⟩
theorem f_FormatInt (p : Int × Int × Unit) (w : World) (ht : powT w) (hc : w64 p.1 ∧ p.2.1 = 10) : Calls Tryd.prog 24 #[.int .i64 p.1, .int .i64 p.2.1] w fun e w' => e = .returned (.string (bs (itT p.1))) ∧ Below w.heap.size w w' := by
  obtain ⟨n, b, u⟩ := p
  obtain ⟨h1, h2⟩ := hc
  dsimp only at h1 h2 ⊢
  subst h2
  exact c_FormatInt n h1 w ht
abbrev yc_FormatInt (n : Int) (b : Int) : Prop := w64 n ∧ b = 10
abbrev yr_FormatInt (n : Int) (b : Int) : SV := SV.one (.v (.string (bs (itT n))))
theorem y_FormatInt : CallsG Tryd.prog 24 powT (acS (cInt .i64) (acS (cInt .i64) ac0)) (fun p : (Int × (Int × Unit)) => yc_FormatInt p.1 p.2.1) (fun p : (Int × (Int × Unit)) => yr_FormatInt p.1 p.2.1) := of_plainG _ _ _ _ (fun p => [.int .i64 p.1, .int .i64 p.2.1]) (fun p => .string (bs (itT p.1))) (fun _ => rfl) (fun _ => rfl) (fun _ => rfl) f_FormatInt
theorem yn_FormatInt : ∀ p : (Int × (Int × Unit)), ((fun p : (Int × (Int × Unit)) => yr_FormatInt p.1 p.2.1) p).names = [] := by intro p; first | rfl | simp [SV.names, C.names]
noncomputable def yp_FormatInt {X : Ctx} {w0 : World} (hG : StaysN X w0 powT powB) : Sy.Spec Tryd.prog X w0 := specG 24 Tryd.call24 powT (acS (cInt .i64) (acS (cInt .i64) ac0)) (fun p : (Int × (Int × Unit)) => yc_FormatInt p.1 p.2.1) (fun p : (Int × (Int × Unit)) => yr_FormatInt p.1 p.2.1) yn_FormatInt y_FormatInt hG.stays
theorem f_Itoa (p : Int × Unit) (w : World) (ht : powT w) (hc : w64 p.1) : Calls Tryd.prog 55 #[.int .i64 p.1] w fun e w' => e = .returned (.string (bs (itT p.1))) ∧ Below w.heap.size w w' :=
  (Any.strconv_Itoa Tryd.laysM171 p.1 hc.1 hc.2 w ht).mono fun e w' ⟨h1, k, os, h2⟩ => ⟨h1, by subst h2; exact below_grow w k os⟩
abbrev yc_Itoa (n : Int) : Prop := w64 n
abbrev yr_Itoa (n : Int) : SV := SV.one (.v (.string (bs (itT n))))
theorem y_Itoa : CallsG Tryd.prog 55 powT (acS (cInt .i64) ac0) (fun p : (Int × Unit) => yc_Itoa p.1) (fun p : (Int × Unit) => yr_Itoa p.1) := of_plainG _ _ _ _ (fun p => [.int .i64 p.1]) (fun p => .string (bs (itT p.1))) (fun _ => rfl) (fun _ => rfl) (fun _ => rfl) f_Itoa
theorem yn_Itoa : ∀ p : (Int × Unit), ((fun p : (Int × Unit) => yr_Itoa p.1) p).names = [] := by intro p; first | rfl | simp [SV.names, C.names]
noncomputable def yp_Itoa {X : Ctx} {w0 : World} (hG : StaysN X w0 powT powB) : Sy.Spec Tryd.prog X w0 := specG 55 Tryd.call55 powT (acS (cInt .i64) ac0) (fun p : (Int × Unit) => yc_Itoa p.1) (fun p : (Int × Unit) => yr_Itoa p.1) yn_Itoa y_Itoa hG.stays
end Go.Proofs.YtbiepiggmagfcaaDoor
