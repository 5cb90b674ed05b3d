/-
  The law ShapeTells: its walk answers true at any two programs.
-/
import Derived.Test.YtfjmpfecnemoiaaDoorQTelP
namespace Go.Proofs.YtfjmpfecnemoiaaDoor.Pure
open Go.Proofs.YtfjmpfecnemoiaaDoor.Q
theorem ShapeTells (t : List S78) (f : List S55) (hS : SaneP f) (t' : List S78) (f' : List S55) (hS' : SaneP f') : ∃ K, fescuelaw06_ShapeTells.f K t f t' f' ∧ true = true := ⟨0, ⟨hS, hS'⟩, rfl⟩
end Go.Proofs.YtfjmpfecnemoiaaDoor.Pure
