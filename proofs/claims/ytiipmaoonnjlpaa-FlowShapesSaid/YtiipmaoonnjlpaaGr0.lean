/- Small facts on graphs and numbers. No conditions but those in each statement. -/
import Derived.Test.YtiipmaoonnjlpaaGr1
set_option linter.unusedVariables false
set_option linter.unusedSimpArgs false
namespace Go.Proofs.Ytiipmaoonnjlpaa
open Go Go.Sy Go.RowKit

theorem zIn_ln : zIn.length = 1 := rfl
theorem in_gc (q : List Int) (k : Nat) : (q.map inC).getD k zIn = [.v (.int .i64 (q.getD k 0))] := by
  simp only [List.getD, List.getElem?_map]
  cases q[k]? <;> rfl
theorem wr_sub {n : Nat} (h : n ≤ 2000000000000) (h0 : 0 < n) : IntKind.i64.wrap ((n : Int) - 1) = ((n - 1 : Nat) : Int) := by rw [wrap_i64 (by omega) (by omega)]; omega
def okG (g : List Gq) : Prop := g.length ≤ 1000000 ∧ ∀ x ∈ g, x.nx.length ≤ 1000000
end Go.Proofs.Ytiipmaoonnjlpaa
