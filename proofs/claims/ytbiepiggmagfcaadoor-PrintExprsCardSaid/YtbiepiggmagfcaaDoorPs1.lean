/- strings.Join; the arguments of a call as text. Conditions: the text is shorter than 10^9 bytes; the table of powers of ten is laid. -/
import Derived.Test.YtbiepiggmagfcaaDoorPx2
set_option linter.unusedVariables false
set_option linter.unusedSimpArgs false
namespace Go.Proofs.YtbiepiggmagfcaaDoor
open Go Go.Sy Go.Shelf Go.RowKit
def sD1 (s : List UInt8) : List D := [dS s]
theorem sD1_inj (a b : List UInt8) (h : sD1 a = sD1 b) : a = b := by
  simp only [sD1, List.cons.injEq, D.v.injEq, Value.string.injEq, and_true] at h
  exact bs_inj h
def zSD : List D := [dS []]
noncomputable def rSs : RowC (List UInt8) := rowOf zSD sD1 sD1_inj fun _ => rfl
theorem rSs_z : rSs.z = zSD := rfl
theorem rSs_e : rSs.e = sD1 := rfl
theorem rSs_d (s : List UInt8) : rSs.d (sD1 s) = some s := rSs.i s
theorem zSD_ln : zSD.length = 1 := rfl
theorem decL_ss (l : List (List UInt8)) : decL rSs.d (l.map sD1) = some l := decL_map rSs l
theorem rowsS1 : RowsD sR1 sD1 1 := by
  refine ⟨fun a c hc => ?_, fun a c hc => ?_, fun a => rfl, fun a => rfl⟩
  · simp only [sR1, List.mem_singleton] at hc; subst hc; rfl
  · simp only [sR1, List.mem_singleton] at hc; subst hc; rfl
/-- the parts with ", " between them -/
def jnT (l : List (List UInt8)) : List UInt8 := Lib.join l [44, 32]
theorem c_Join (l : List (List UInt8)) (ad : Option Addr) (n c : Nat) (w : World) (fz : Nat → Prop) (hfz : ∀ b, fz b → b < w.heap.size) (hl : l.length ≤ 1000000) (ht : (jnT l).length ≤ 1000000000) {x : Value} (h : Rd (hp w) fz (.sl zSD (l.map sD1)) x) :
    Calls Tryd.prog 47 #[x, .string (bs [44, 32])] w fun e w' => e = .returned (.string (bs (jnT l))) ∧ Below w.heap.size w w' := by
  have hbs : ∀ s : List UInt8, (bs s).data.toList = s := fun s => by simp [bs]
  have h5 : List.map (fun b : ByteArray => b.data.toList) (l.map bs) = l := by
    rw [List.map_map]
    have : ((fun b : ByteArray => b.data.toList) ∘ bs) = id := by funext s; exact hbs s
    rw [this, List.map_id]
  generalize hD : l.map sD1 = es at h
  cases h with
  | nil _ a cap h0 =>
    obtain rfl : l = [] := by simpa using hD
    exact (Any.strings_Join_none Tryd.lays156 x5 a cap (bs [44, 32]) w).mono fun e w' ⟨he, hw⟩ => ⟨he, hw ▸ Below.refl _ _⟩
  | sl _ _ b off cap arr T m val hz hb hcap hl' hc hr =>
    subst hD
    have hbw : w.heap[b]? = some (.cells arr T m) := hb
    have := Any.strings_Join Tryd.lays156 x5 b off cap (l.map bs) (bs [44, 32]) w (fun j x hj => by
        simp only [List.getElem?_map, Option.map_eq_some_iff] at hj
        obtain ⟨s, hs, rfl⟩ := hj
        have h1 : (l.map sD1)[j]? = some (sD1 s) := by simp [hs]
        have h2 := hc j 0 _ (dS s) h1 rfl
        have h3 := hr j 0 _ (dS s) h1 rfl
        generalize val j 0 = y at h2 h3
        cases h3
        simp only [World.cell?, hbw, Option.isSome_none, Bool.false_eq_true, if_false]
        rw [← h2]; congr 1; simp [zSD])
      (hfz b hz) (by rw [List.length_map]; omega) (by rw [List.length_map]; rw [List.length_map] at hcap; exact hcap) (by
        rw [h5, hbs]
        show (jnT l).length ≤ _
        omega)
    rw [h5, hbs] at this
    rw [List.length_map] at this ⊢
    exact this
abbrev yc_Join (l : List (List UInt8)) (s : List UInt8) : Prop := s = [44, 32] ∧ l.length ≤ 1000000 ∧ (jnT l).length ≤ 1000000000
abbrev yr_Join (l : List (List UInt8)) (_ : List UInt8) : Value := .string (bs (jnT l))
theorem y_Join : CallsR Tryd.prog 47 (ahS (cSl rSs) (ahS cStr.H ah0)) (fun p => yc_Join p.1 p.2.1) (fun p => ofV (yr_Join p.1 p.2.1)) := by
  rintro ⟨l, s, _u⟩ w fz xs ⟨hs, hl1, hl2⟩ hfz hl hx
  dsimp only at hs hl1 hl2
  subst hs
  obtain ⟨x, y, rfl⟩ : ∃ x y, xs = [x, y] := by
    match xs, hl with
    | [x, y], _ => exact ⟨x, y, rfl⟩
  have hy := hx 1 _ y rfl rfl
  have hxx := hx 0 _ x rfl rfl
  obtain rfl := sd_clos hy rfl
  have hr : Rd (hp w) fz (.sl zSD (l.map sD1)) x := by
    have := hxx.2
    cases this
    assumption
  refine (c_Join l none 0 0 w fz hfz hl1 hl2 hr).mono ?_
  rintro e w' ⟨rfl, hb⟩
  exact ⟨_, _, fz, rfl, rfl, rfl, fun _ h => h, fun _ h => .inl h, fun b h => Nat.lt_of_lt_of_le (hfz b h) hb.size, sd_ofV (w := w') rfl, hb⟩
theorem yh_Join : ∀ p : (List (List UInt8)) × (List UInt8) × Unit, okV ((fun p : (List (List UInt8)) × (List UInt8) × Unit => yr_Join p.1 p.2.1) p) = true := by intro p; rfl
noncomputable def yp_Join {X : Ctx} {w0 : World} : Sy.Spec Tryd.prog X w0 := specR 47 Tryd.call47 (ahS (cSl rSs) (ahS cStr.H ah0)) (fun p => yc_Join p.1 p.2.1) (fun p => yr_Join p.1 p.2.1) yh_Join y_Join
end Go.Proofs.YtbiepiggmagfcaaDoor
