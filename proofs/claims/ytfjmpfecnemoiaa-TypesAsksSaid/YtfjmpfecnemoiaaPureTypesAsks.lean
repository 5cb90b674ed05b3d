/-
  The law TypesAsks, over numbers and lists: the table's answers are the slow reference's, and the table stands as it stood.
-/
import Derived.Test.YtfjmpfecnemoiaaQRefB
import Derived.Test.YtfjmpfecnemoiaaQx13
namespace Go.Proofs.Ytfjmpfecnemoiaa.Pure
open Go.RowKit Go.Proofs.Ytfjmpfecnemoiaa.Q Go.Proofs.YtfjmpfecnemoiaaW.PrintWords Go.Proofs.YtfjmpfecnemoiaaW.PrintLast
set_option linter.unusedVariables false

theorem ta_l0 (t : List S31) (hF : Few t) (d : Nat) : ∀ (k j : Nat) (C : List Int), C.length ≤ 32 → j + d = C.length → d + 700 < k → fescuelaw03_TypesAsks.l0 k t t C true (j : Int) = some true := by
  induction d with
  | zero =>
    intro k j C hC hj hk
    obtain ⟨k, rfl⟩ : ∃ q, k = q + 1 := ⟨k - 1, by omega⟩
    rw [fescuelaw03_TypesAsks.l0, if_neg (by omega), if_pos rfl, SameR_self t hF k (by omega)]
    rfl
  | succ d ih =>
    intro k j C hC hj hk
    obtain ⟨k, rfl⟩ : ∃ q, k = q + 1 := ⟨k - 1, by omega⟩
    have hw : wrap64 ((j : Int) + 1) = ((j + 1 : Nat) : Int) := wrap_nat (by omega)
    rw [fescuelaw03_TypesAsks.l0, if_pos (by omega), if_pos (by omega), hw]
    exact ih k (j + 1) _ (by rw [List.length_set]; exact hC) (by rw [List.length_set]; omega) (by omega)
theorem cells_le (t : List S31) (i : Int) : ((if askV t i = 0 then (Ct t i, 0) else ([], askV t i)) : List Int × Int).1.length ≤ 32 := by
  by_cases ha : askV t i = 0
  · obtain ⟨hc, h0, h1⟩ := askV_ok ha
    rw [if_pos ha]
    exact Ct_len hc h0 h1
  · rw [if_neg ha]
    exact Nat.zero_le _
theorem TypesAsks (t : List S31) (i n : Int) : ∃ K, fescuelaw03_TypesAsks.f K t i n = some true := by
  refine ⟨900, ?_⟩
  unfold fescuelaw03_TypesAsks.f
  obtain ⟨b, hb, hF⟩ := great_some t 900 (by omega)
  rw [hb, Option.bind_some]
  cases b
  · have hF := hF rfl
    have hle := cells_le t i
    rw [if_neg (by simp), Twin_some t hF 900 (by omega), Option.bind_some, Scalar_some t hF i 900 (by omega), Option.bind_some, ScalarR_some t hF i 900 (by omega), Option.bind_some, Cells_some t hF i 900 (by omega), Option.bind_some, CellsR_some t hF i 900 (by omega), Option.bind_some,
      Part_some t hF i n 900 (by omega), Option.bind_some, PartR_some t hF i n 900 (by omega), Option.bind_some, Offset_some t hF i n 900 (by omega), Option.bind_some, OffsetR_some t hF i n 900 (by omega), Option.bind_some]
    generalize ((if askV t i = 0 then (Ct t i, 0) else ([], askV t i)) : List Int × Int) = c at *
    rw [beq_self_eq_true, if_pos rfl, if_pos rfl, same_some c.1 c.1 (by omega) 900 (by omega), Option.bind_some, beq_self_eq_true, if_pos rfl, if_pos rfl, if_pos rfl, if_pos rfl, if_pos rfl, beq_self_eq_true, fescuelaw03_TypesAsks.j0]
    exact ta_l0 t hF c.1.length 899 0 c.1 hle (by omega) (by omega)
  · rw [if_pos rfl]
end Go.Proofs.Ytfjmpfecnemoiaa.Pure
