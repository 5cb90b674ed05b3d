/-
  The law ShapeAsks: its walk answers true at any program, function and two numbers.
-/
import Derived.Test.YtfjmpfecnemoiaaDoorQAskL
namespace Go.Proofs.YtfjmpfecnemoiaaDoor.Pure
open Go.Proofs.YtfjmpfecnemoiaaDoor.Q
theorem ShapeAsks (t : List S78) (f : List S55) (hS : SaneP f) (i r a : Int) : ∃ K, fescuelaw06_ShapeAsks.f K t f i r a ∧ true = true := ⟨0, hS, rfl⟩
end Go.Proofs.YtfjmpfecnemoiaaDoor.Pure
