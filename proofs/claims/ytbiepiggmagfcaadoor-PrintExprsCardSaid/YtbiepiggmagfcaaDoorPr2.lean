/- The document's text of a condition. Conditions: the numbers are of 64 bits, each node has its parts, the text is shorter than 10^9 bytes. -/
import Derived.Test.YtbiepiggmagfcaaDoorPr1
set_option linter.unusedVariables false
set_option linter.unusedSimpArgs false
namespace Go.Proofs.YtbiepiggmagfcaaDoor
open Go Go.Sy Go.RowKit
end Go.Proofs.YtbiepiggmagfcaaDoor
