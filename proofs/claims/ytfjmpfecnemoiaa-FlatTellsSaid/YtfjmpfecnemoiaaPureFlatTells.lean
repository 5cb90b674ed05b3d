/-
  The law FlatTells, over numbers and lists: flat's answers are the slow reference's, and the table stands as it stood.
-/
import Derived.Test.YtfjmpfecnemoiaaQRefC
import Derived.Test.YtfjmpfecnemoiaaQx16
namespace Go.Proofs.Ytfjmpfecnemoiaa.Pure
open Go.RowKit Go.Proofs.Ytfjmpfecnemoiaa.Q Go.Proofs.YtfjmpfecnemoiaaW.PrintWords Go.Proofs.YtfjmpfecnemoiaaW.PrintLast
set_option linter.unusedVariables false

theorem fl_l0 (t : List S31) (hF : Few t) (d : Nat) : ∀ (k j : Nat) (C : List Int), C.length ≤ 32 → j + d = C.length → d + 700 < k → fescuelaw04_FlatTells.l0 k t t C true (j : Int) = some true := by
  induction d with
  | zero =>
    intro k j C hC hj hk
    obtain ⟨k, rfl⟩ : ∃ q, k = q + 1 := ⟨k - 1, by omega⟩
    rw [fescuelaw04_FlatTells.l0, if_neg (by omega), if_pos rfl, SameR_self t hF k (by omega)]
    rfl
  | succ d ih =>
    intro k j C hC hj hk
    obtain ⟨k, rfl⟩ : ∃ q, k = q + 1 := ⟨k - 1, by omega⟩
    have hw : wrap64 ((j : Int) + 1) = ((j + 1 : Nat) : Int) := wrap_nat (by omega)
    rw [fescuelaw04_FlatTells.l0, if_pos (by omega), if_pos (by omega), hw]
    exact ih k (j + 1) _ (by rw [List.length_set]; exact hC) (by rw [List.length_set]; omega) (by omega)
theorem fields_le (t : List S31) (i : Int) : ((if askV t i = 0 then (Ff t i, 0) else ([], askV t i)) : List Int × Int).1.length ≤ 32 := by
  by_cases ha : askV t i = 0
  · obtain ⟨hc, h0, h1⟩ := askV_ok ha
    rw [if_pos ha]
    exact Ff_len32 hc h0 h1
  · rw [if_neg ha]
    exact Nat.zero_le _
theorem FlatTells (t : List S31) (i n : Int) : ∃ K, fescuelaw04_FlatTells.f K t i n = some true := by
  refine ⟨1200, ?_⟩
  unfold fescuelaw04_FlatTells.f
  obtain ⟨b, hb, hF⟩ := great_some t 1200 (by omega)
  rw [hb, Option.bind_some]
  cases b
  · have hF := hF rfl
    have hle := fields_le t i
    rw [if_neg (by simp), Twin_some t hF 1200 (by omega), Option.bind_some, Fields_some t hF i 1200 (by omega), Option.bind_some, FieldsR_some t hF i 1200 (by omega), Option.bind_some,
      Flat_some t hF i n 1200 (by omega), Option.bind_some, FlatR_some t hF i n 1200 (by omega), Option.bind_some, Step_some t hF i n 1200 (by omega), Option.bind_some, StepR_some t hF i n 1200 (by omega), Option.bind_some]
    generalize ((if askV t i = 0 then (Ff t i, 0) else ([], askV t i)) : List Int × Int) = c at *
    rw [same_some c.1 c.1 (by omega) 1200 (by omega), Option.bind_some, beq_self_eq_true, if_pos rfl, if_pos rfl, if_pos rfl, if_pos rfl, if_pos rfl, beq_self_eq_true, fescuelaw04_FlatTells.j0]
    exact fl_l0 t hF c.1.length 1199 0 c.1 hle (by omega) (by omega)
  · rw [if_pos rfl]
end Go.Proofs.Ytfjmpfecnemoiaa.Pure
