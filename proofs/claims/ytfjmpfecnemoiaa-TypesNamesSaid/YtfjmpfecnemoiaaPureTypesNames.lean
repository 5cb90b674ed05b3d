/-
  The law TypesNames, by reckoning.
-/
import Derived.Test.YtfjmpfecnemoiaaQNames
namespace Go.Proofs.Ytfjmpfecnemoiaa.Pure
open Go.RowKit Go.Proofs.Ytfjmpfecnemoiaa.Q Go.Proofs.YtfjmpfecnemoiaaW.PrintWords Go.Proofs.YtfjmpfecnemoiaaW.PrintLast

theorem TypesNames : ∃ K, fescuelaw03_TypesNames.f K = some true := ⟨60, by decide +kernel⟩
end Go.Proofs.Ytfjmpfecnemoiaa.Pure
