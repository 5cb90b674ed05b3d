/-
  The law ShapeNames: its walk answers true.
-/
import Derived.Test.YtfjmpfecnemoiaaDoorQNam
namespace Go.Proofs.YtfjmpfecnemoiaaDoor.Pure
open Go.Proofs.YtfjmpfecnemoiaaDoor.Q
theorem ShapeNames : ∃ K, fescuelaw06_ShapeNames.f K = some true := ⟨0, rfl⟩
end Go.Proofs.YtfjmpfecnemoiaaDoor.Pure
