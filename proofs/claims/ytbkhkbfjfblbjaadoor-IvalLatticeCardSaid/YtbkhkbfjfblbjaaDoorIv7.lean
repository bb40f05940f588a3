/- From the row's premise to the table; an interval that comes in. No conditions but those in each statement. -/
import Derived.Test.YtbkhkbfjfblbjaaDoorIv6
import Derived.Test.YtbkhkbfjfblbjaaDoorFr
import Derived.Lib.LaidU8
import Derived.OpenShut
import Derived.Lib.SmallJoins
set_option linter.unusedVariables false
set_option linter.unusedSimpArgs false
namespace Go.Proofs.YtbkhkbfjfblbjaaDoor
open Go Go.Sy Go.RowKit Go.ChangeShapes Go.WideShapes Go.ChangeAt

theorem pow_data : (Rows.laid_internal_strconv_uint64pow10 : DataW Unit) = Lib.tabData .u64 Lib.pow10Tab := by kernel_rfl
theorem pow_type : ((Tryd.prog.globalNamed "internal/strconv.uint64pow10").bind fun g => (Tryd.prog.globals[g]?).map (·.type)) = some 54 := by kernel_rfl
theorem powT_of {W : World} (h : laidMetH Tryd.prog Rows.ivalNumbersRow.laid W) : powT W := by
  rw [MakeChecks.laidMetH_plain _ _ _ (by kernel_rfl)] at h
  obtain ⟨g, t, cs, fuel, p, h1, h2, h3, h4⟩ := Lib.laidMet.reads h (n := "internal/strconv.uint64pow10") (d := Rows.laid_internal_strconv_uint64pow10) (.tail _ (.tail _ (.head _)))
  have h5 := pow_type
  rw [h1, Option.bind_some, h2] at h5
  obtain rfl := Option.some.inj h5
  rw [pow_data] at h4
  unfold powT Lib.TabIs
  rw [h3, ← Lib.cells_of_tab Tryd.underlying54 Tryd.underlying46 (by kernel_rfl) (by kernel_rfl) h4]
theorem wf_i64' {n : Int} (h : (Lit.int .i64 n).wf = true) : w64 n := by
  have := bounds_i64 h; exact ⟨by omega, by omega⟩
theorem cells_iv : Tryd.prog.cellsOf 25 = 3 := by kernel_rfl
theorem open_iv {H : Type} {enc : TypeId × Value → H} {r : Reach} {b0 : Nat} {W : World} {base : Nat} {spare : Nat → Bool} {held : Bool} {v : Value} {d : DataW H} {p : List MemPlace} (hv : Value.okWide Tryd.prog W r b0 25 v) (h : DataW.Trod enc Tryd.prog W base spare held 25 v d p) :
    ∃ a : Iv, v = pV a ∧ wIv a := by
  obtain ⟨v0, v1, v2, y0, y1, y2, n, rfl, _, _, h0, h1, h2⟩ := Joins.open_agg3 Tryd.underlying25 (by kernel_rfl) cells_iv hv h
  obtain ⟨s, e0, _⟩ := DataW.trod_bool Tryd.underlying4 h0
  obtain ⟨lo, e1, _, w1⟩ := DataW.trod_int Tryd.underlying2 h1
  obtain ⟨hi, e2, _, w2⟩ := DataW.trod_int Tryd.underlying2 h2
  simp only [List.cons.injEq, and_true] at e0 e1 e2
  subst e0; subst e1; subst e2
  exact ⟨⟨s, lo, hi⟩, rfl, wf_i64' w1, wf_i64' w2⟩
end Go.Proofs.YtbkhkbfjfblbjaaDoor
