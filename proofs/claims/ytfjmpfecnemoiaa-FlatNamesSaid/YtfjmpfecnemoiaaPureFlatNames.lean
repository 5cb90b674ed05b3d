/-
  The law FlatNames, over numbers and lists: it reckons to true.
-/
import Derived.Test.YtfjmpfecnemoiaaQx15
namespace Go.Proofs.Ytfjmpfecnemoiaa.Pure
open Go.RowKit Go.Proofs.Ytfjmpfecnemoiaa.Q Go.Proofs.YtfjmpfecnemoiaaW.PrintWords Go.Proofs.YtfjmpfecnemoiaaW.PrintLast

theorem FlatNames : fescuelaw04_FlatNames.Pure := ⟨40, by decide +kernel⟩

end Go.Proofs.Ytfjmpfecnemoiaa.Pure
