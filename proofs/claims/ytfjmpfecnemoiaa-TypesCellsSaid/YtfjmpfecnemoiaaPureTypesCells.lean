/-
  The law TypesCells, over numbers and lists: each cell is a scalar; a scalar is its own one cell; there are 1 to 32.
-/
import Derived.Test.YtfjmpfecnemoiaaQScal
import Derived.Test.YtfjmpfecnemoiaaPureTypesParts
import Derived.Test.YtfjmpfecnemoiaaQx14
namespace Go.Proofs.Ytfjmpfecnemoiaa.Pure
open Go.RowKit Go.Proofs.Ytfjmpfecnemoiaa.Q Go.Proofs.YtfjmpfecnemoiaaW.PrintWords Go.Proofs.YtfjmpfecnemoiaaW.PrintLast
set_option linter.unusedVariables false

theorem cells_loop (t : List S31) (k : Int) (C : List Int) (s : Bool) (hF : Few t) (hC : ∀ c ∈ C, scalV t c = (true, 0)) (h1 : 1 ≤ C.length) (h2 : C.length ≤ 32) (hs : s = true ↔ C = [k]) (d : Nat) :
    ∀ (K i : Nat), i + d = C.length → d + 25 < K → fescuelaw03_TypesCells.l0 K t k true C s 0 (i : Int) = some true := by
  induction d with
  | zero =>
    intro K i hi hK
    obtain ⟨K, rfl⟩ : ∃ m, K = m + 1 := ⟨K - 1, by omega⟩
    rw [fescuelaw03_TypesCells.l0, if_neg (by omega), if_pos rfl, if_pos rfl, if_pos (by omega), if_pos (by omega)]
    by_cases h : (C.length : Int) = 1
    · rw [if_pos h, if_pos (by omega)]
      match C, h, hs with
      | [c], _, hs =>
        have hrd : rd [c] 0 = c := rfl
        rw [hrd]
        refine congrArg some ?_
        rw [beq_iff_eq, Bool.eq_iff_iff, hs]
        simp
    · rw [if_neg h]
      cases s
      · rfl
      · have := hs.1 rfl
        rw [this] at h
        exact absurd rfl h
  | succ d ih =>
    intro K i hi hK
    obtain ⟨K, rfl⟩ : ∃ m, K = m + 1 := ⟨K - 1, by omega⟩
    rw [fescuelaw03_TypesCells.l0, if_pos (by omega), if_pos (by omega), rd_at (by omega), Scalar_some t hF _ K (by omega), hC _ (List.getElem_mem _), Option.bind_some, if_pos rfl, if_pos rfl, wrap_nat (by omega)]
    exact ih K (i + 1) (by omega) (by omega)

theorem TypesCells (t : List S31) (k : Int) : ∃ K, fescuelaw03_TypesCells.f K t k = some true := by
  refine ⟨100, ?_⟩
  unfold fescuelaw03_TypesCells.f
  rw [alive03 100 (by omega), Option.bind_some]
  obtain ⟨b, hb, hF⟩ := great_some t 100 (by omega)
  rw [hb, Option.bind_some]
  cases b
  · have hF := hF rfl
    rw [if_neg (by simp), fescuelaw03_TypesCells.j0, if_neg (by simp), Cells_some t hF k 99 (by omega), Option.bind_some, Scalar_some t hF k 99 (by omega), Option.bind_some]
    by_cases ha : askV t k = 0
    · obtain ⟨hc, h0, h1⟩ := askV_ok ha
      have hm := Ct_mem hc t.length k h0 h1 h1
      have hsv : scalV t k = (isScalar (rd_T31 t k), 0) := by unfold scalV; rw [if_pos ha]
      rw [if_pos ha, if_pos rfl, hsv]
      refine cells_loop t k (Ct t k) (isScalar (rd_T31 t k)) hF (fun c hc' => ?_) (Ct_pos hc t.length k h0 h1 h1) (Ct_len hc h0 h1) ?_ (Ct t k).length 99 0 (Nat.zero_add _) (by have := Ct_len hc h0 h1; omega)
      · obtain ⟨a1, a2, a3, _⟩ := hm c hc'
        unfold scalV
        rw [if_pos (askV_mk hc a1 a2), a3]
      · rcases okT_kind ((chk_ok hc).2 k h0 h1) with ⟨hs, hk⟩ | ⟨hs, hk, hne⟩
        · rw [hs, Ct_of hc h0 h1, if_neg hk]
          simp
        · rw [hs]
          refine ⟨fun h => (by cases h), fun h => ?_⟩
          have := (hm k (by rw [h]; simp)).2.2.2.1 hs
          omega
    · have hsv : scalV t k = (false, askV t k) := by unfold scalV; rw [if_neg ha]
      rw [if_neg ha, hsv, if_neg ha]
      simp
  · rw [if_pos rfl, fescuelaw03_TypesCells.j0, if_pos rfl]
end Go.Proofs.Ytfjmpfecnemoiaa.Pure
