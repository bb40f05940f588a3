/- The contract of PrintExprs, plain. No conditions but those in each statement. -/
import Derived.Test.YtbiepiggmagfcaaDoorPk3
import Derived.Test.YtbiepiggmagfcaaDoorOx
set_option linter.unusedVariables false
set_option linter.unusedSimpArgs false
namespace Go.Proofs.YtbiepiggmagfcaaDoor
open Go Go.Sy Go.RowKit Go.ChangeShapes Go.WideShapes Go.ChangeAt
theorem powT_printExprs {W : World} (h : laidMetH Tryd.prog Rows.printExprsRow.laid W) : powT W := by
  rw [MakeChecks.laidMetH_plain _ _ _ (by kernel_rfl)] at h
  obtain ⟨g, t, cs, fuel, p, h1, h2, h3, h4⟩ := Lib.laidMet.reads h (n := "internal/strconv.uint64pow10") (d := Rows.laid_internal_strconv_uint64pow10) (.tail _ (.tail _ (.head _)))
  have h5 := pow_type
  rw [h1, Option.bind_some, h2] at h5
  obtain rfl := Option.some.inj h5
  rw [pow_data] at h4
  unfold powT Lib.TabIs
  rw [h3, ← Lib.cells_of_tab Tryd.underlying128 Tryd.underlying102 (by kernel_rfl) (by kernel_rfl) h4]
theorem c_PrintExprs (e : Ex) (v : Value) (he : okN e) (W : World) (hx : CD (hp W) (fun b => b < W.heap.size) (.one (exC e)) v) (hT : powT W) :
    Calls Tryd.prog 3 #[v] W (fun en W' => en = .returned (.bool true) ∧ Below W.heap.size W W') := by
  refine to_plainL (y_PrintExprs (e.dp + 1)) (e, ()) W hT ⟨Nat.lt_succ_self _, he⟩ [v] (.bool true) rfl ?_ rfl
  intro j u x h1 h2
  cases j with
  | zero =>
    obtain rfl : v = x := Option.some.inj h2
    obtain rfl : SV.one (exC e) = u := Option.some.inj h1
    exact hx
  | succ j => cases h2
end Go.Proofs.YtbiepiggmagfcaaDoor
