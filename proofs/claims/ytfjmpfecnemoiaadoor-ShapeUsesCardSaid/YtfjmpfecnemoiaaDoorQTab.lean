/-
  The table's cells, out of what the row lists; how an instruction and an end that read as data stand.
-/
import Derived.Test.YtfjmpfecnemoiaaDoorRows
import Derived.Test.YtfjmpfecnemoiaaDoorQOf
import Derived.Deep.Slices
import Derived.Lib.SmallJoins
import Derived.ProofKit
import Derived.LaidMore
import Derived.LaidLaws
import Derived.MakeChecks
import Derived.OpenShut
import Derived.Stop.Joined
namespace Go.Proofs.YtfjmpfecnemoiaaDoor.Q
open Go.RowKit Go.Proofs.YtfjmpfecnemoiaaDoorW.PrintWords Go.Proofs.YtfjmpfecnemoiaaDoorW.PrintLast Go.Proofs.YtfjmpfecnemoiaaDoorW.PrintMore
set_option linter.unusedVariables false
set_option linter.unusedSimpArgs false
open Go.ChangeShapes Go.WideShapes

theorem gTab : Tryd.prog.globalNamed "fescue/shape.table" = some 0 := by kernel_rfl
theorem tTab : (Tryd.prog.globals[0]?).map (·.type) = some 93 := by kernel_rfl
theorem c65 : Tryd.prog.cellsOf 65 = 6 := by kernel_rfl
theorem c4 : Tryd.prog.cellsOf 4 = 1 := by kernel_rfl
def rowLit {H : Type} (h : Has) : DataW H := .agg [.lit (.bool h.1), .lit (.bool h.2.1), .lit (.bool h.2.2.1), .lit (.bool h.2.2.2.1), .lit (.bool h.2.2.2.2.1), .lit (.bool h.2.2.2.2.2)]
theorem laid_rows : (Rows.laid_fescue_shape_table : DataW Unit) = .agg (tabL.map rowLit) := rfl

abbrev laidT : List (String × DataW Unit) := [("fescue/shape.table", Rows.laid_fescue_shape_table)]
theorem bool_cell {H : Type} {enc : TypeId × Value → H} {w : World} {base : Nat} {sp : Nat → Bool} {held : Bool} {n off : Nat} {l : List Value} {y : DataW H × List MemPlace} {b : Bool}
    (h : DataW.trod enc Tryd.prog w base sp held n 4 ((l.drop off).take (Tryd.prog.cellsOf 4)) = some y) (e : y.1 = .lit (.bool b)) : l[off]? = some (.bool b) := by
  obtain ⟨b', hc, rfl⟩ := DataW.trod_bool Tryd.underlying4 h
  rw [c4] at hc
  have hb : b' = b := by simpa using e
  subst hb
  have : ((l.drop off).take 1)[0]? = some (.bool b') := by rw [hc]; rfl
  rw [List.getElem?_take_of_lt (by omega), List.getElem?_drop] at this
  simpa using this
theorem tab_of_laid {W : World} (h : laidMetH Tryd.prog laidT W) : Tab W := by
  have h' : laidMet Tryd.prog laidT W := h
  obtain ⟨ps, ⟨g, t, cs, fuel, p, q, hg, ht, hvar, hd, _, _⟩, _⟩ := h'
  obtain rfl := Option.some.inj (gTab.symm.trans hg)
  obtain rfl := Option.some.inj (tTab.symm.trans ht)
  obtain ⟨xs, m, _, hx, hlen, hxl, hel⟩ := DataW.trod_array Tryd.underlying93 hd
  rw [laid_rows] at hx
  simp only [Prod.mk.injEq, DataW.agg.injEq] at hx
  intro n hn
  have hxn := hel n hn
  rw [c65] at hxn
  obtain ⟨y, hy⟩ : ∃ y, xs[n]? = some y := ⟨_, List.getElem?_eq_getElem (by omega)⟩
  have hy1 : y.1 = rowLit (rowOf n) := by
    have : (xs.map (·.1))[n]? = some y.1 := by rw [List.getElem?_map, hy]; rfl
    rw [← hx.1, List.getElem?_map, List.getElem?_eq_getElem (show n < tabL.length from hn)] at this
    unfold rowOf
    rw [Int.toNat_natCast, List.getD_eq_getElem?_getD, List.getElem?_eq_getElem (show n < tabL.length from hn)]
    exact (Option.some.inj this).symm
  rw [hy] at hxn
  obtain ⟨zs, k, _, hz, _, hzl, hf⟩ := DataW.trod_struct Tryd.underlying65 hxn
  match zs, hzl with
  | [z0, z1, z2, z3, z4, z5], _ =>
    rw [hz] at hy1
    unfold rowLit at hy1
    simp only [List.map_cons, List.map_nil, DataW.agg.injEq, List.cons.injEq, and_true] at hy1
    obtain ⟨q0, q1, q2, q3, q4, q5⟩ := hy1
    have cell : ∀ (off : Nat) (b : Bool), off < 6 → (((cs.toList.drop (n * 6)).take 6))[off]? = some (.bool b) → W.cell? ⟨0, n * 6 + off, none⟩ = some (.bool b) := by
      intro off b ho hc
      rw [List.getElem?_take_of_lt ho, List.getElem?_drop] at hc
      have := World.var?_cell gTab hvar (n * 6 + off)
      rw [this]
      simpa using hc
    exact ⟨cell 0 _ (by omega) (bool_cell (hf 0 _ rfl) q0), cell 1 _ (by omega) (bool_cell (hf 1 _ rfl) q1), cell 2 _ (by omega) (bool_cell (hf 2 _ rfl) q2), cell 3 _ (by omega) (bool_cell (hf 3 _ rfl) q3), cell 4 _ (by omega) (bool_cell (hf 4 _ rfl) q4), cell 5 _ (by omega) (bool_cell (hf 5 _ rfl) q5)⟩
end Go.Proofs.YtfjmpfecnemoiaaDoor.Q
