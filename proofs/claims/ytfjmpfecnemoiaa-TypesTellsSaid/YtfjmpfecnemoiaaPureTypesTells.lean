/-
  The law TypesTells, over lists: its walk answers true at any two tables.
-/
import Derived.Test.YtfjmpfecnemoiaaQTellsW
namespace Go.Proofs.Ytfjmpfecnemoiaa.Pure
open Go.Proofs.Ytfjmpfecnemoiaa.Q Go.Proofs.YtfjmpfecnemoiaaW.PrintWords
theorem TypesTells (t o : List S31) : ∃ K, fescuelaw03_TypesTells.f K t o = some true := ⟨0, rfl⟩
end Go.Proofs.Ytfjmpfecnemoiaa.Pure
