/-
  types.cells: the cells of a type, in order (the closure that calls itself).
-/
import Derived.Test.YtfjmpfecnemoiaaDoorQThere
import Derived.Laws.EntriesVeiled
namespace Go.Proofs.YtfjmpfecnemoiaaDoor.Q
open Go.RowKit Go.Proofs.YtfjmpfecnemoiaaDoorW.PrintWords Go.Proofs.YtfjmpfecnemoiaaDoorW.PrintLast Go.Proofs.YtfjmpfecnemoiaaDoorW.PrintMore
set_option linter.unusedVariables false
set_option linter.unusedSimpArgs false

/-- What the closure appends, with so many calls within each other. -/
theorem own_ne_block {W : World} {base e size n t g : Nat} {v : Value} {xs : List Value} {cs : Array Value} (h : W.ownsRow base e size v n xs) (hb : W.heap[g]? = some (.cells cs t (0, 0))) (hne : e ≠ t) : some g ≠ v.ownBlock := by
  intro hk
  obtain ⟨cells, hc⟩ := own_typed h g hk.symm
  rw [hc] at hb
  injection hb with hb
  injection hb with _ hb
  exact hne hb

theorem rd_at {xs : List Int} {j : Nat} (h : j < xs.length) : rd xs (j : Int) = xs[j] := by simp [rd, h]
theorem at_T78B {w : World} {A : Option Addr} {n : Nat} {xs : List S78} (h : Kd.C k78 w A n xs) (i : Int) (h0 : 0 ≤ i) (h1 : i < n) : ∃ ad A3 c3, A = some ad ∧ (∀ W, Below w.heap.size w W → W.cell? (ad.add (i.toNat * 4)) = some (.int .u8 (rd_T78 xs i).f0)) ∧ (∀ W, Below w.heap.size w W → W.cell? ⟨(ad.add (i.toNat * 4)).block, (ad.add (i.toNat * 4)).off + 1, none⟩ = some (.int .i64 (rd_T78 xs i).f1)) ∧ (∀ W, Below w.heap.size w W → W.cell? ⟨(ad.add (i.toNat * 4)).block, (ad.add (i.toNat * 4)).off + 2, none⟩ = some (.int .i64 (rd_T78 xs i).f2)) ∧ (∀ W, Below w.heap.size w W → W.cell? ⟨(ad.add (i.toNat * 4)).block, (ad.add (i.toNat * 4)).off + 3, none⟩ = some (.slice A3 (rd_T78 xs i).f3.length c3)) ∧ (rd_T78 xs i).f3.length ≤ c3 ∧ (∀ W, Below w.heap.size w W → (Kd.int .i64).C W A3 (rd_T78 xs i).f3.length (rd_T78 xs i).f3) := by
  obtain ⟨ad, A3, c3, e, a0, a1, a2, a3, hl, hr⟩ := at_T78 h i h0 h1
  exact ⟨ad, A3, c3, e, fun W hb => pw_cell_below hb a0, fun W hb => pw_cell_below hb a1, fun W hb => pw_cell_below hb a2, fun W hb => pw_cell_below hb a3, hl, fun W hb => Kd.C_below hr hb⟩

end Go.Proofs.YtfjmpfecnemoiaaDoor.Q
