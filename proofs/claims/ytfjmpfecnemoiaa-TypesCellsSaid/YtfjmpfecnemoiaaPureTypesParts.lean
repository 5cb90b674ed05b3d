/-
  The law TypesParts, over numbers and lists: from its offset on a part's own cells stand among a type's, the next part's behind them.
-/
import Derived.Test.YtfjmpfecnemoiaaQTheory
import Derived.Test.YtfjmpfecnemoiaaQx9
namespace Go.Proofs.Ytfjmpfecnemoiaa.Pure
open Go.RowKit Go.Proofs.Ytfjmpfecnemoiaa.Q Go.Proofs.YtfjmpfecnemoiaaW.PrintWords Go.Proofs.YtfjmpfecnemoiaaW.PrintLast
set_option linter.unusedVariables false

theorem alive03 (k : Nat) (hk : 40 ≤ k) : fescuelaw03_alive.f k = some true := by
  have h40 : fescuelaw03_alive.f 40 = some true := by decide +kernel
  obtain ⟨d, rfl⟩ : ∃ d, k = 40 + d := ⟨k - 40, by omega⟩
  clear hk
  induction d with
  | zero => exact h40
  | succ d ih => exact fescuelaw03_alive.mono _ _ ih

theorem split_at (L : List Int) (f : Int → List Int) (n : Nat) (h : n < L.length) : L.flatMap f = (L.take n).flatMap f ++ (f (rd L n) ++ (L.drop (n + 1)).flatMap f) := by
  rw [rd_at h]
  have e : L = L.take n ++ L[n] :: L.drop (n + 1) := by rw [← List.drop_eq_getElem_cons h, List.take_append_drop]
  calc L.flatMap f = (L.take n ++ L[n] :: L.drop (n + 1)).flatMap f := by rw [← e]
    _ = _ := by rw [List.flatMap_append, List.flatMap_cons]
theorem take_succ_flat (L : List Int) (f : Int → List Int) (n : Nat) (h : n < L.length) : (L.take (n + 1)).flatMap f = (L.take n).flatMap f ++ f (rd L n) := by
  rw [rd_at h, List.take_succ_eq_append_getElem h, List.flatMap_append]
  simp

theorem cut_mid (X Y Z : List Int) : ((X ++ (Y ++ Z)).take (X.length + Y.length)).drop X.length = Y := by
  rw [← List.append_assoc, List.take_left' (by simp), List.drop_left' rfl]
theorem parts_fin (K : Nat) (t : List S31) (k n p f13 : Int) (X Y Z : List Int) (o : Int × Int) (hK : 60 ≤ K) (hc : types_Cells.f (K + 1) t p = some (Y, 0)) (ho : types_Offset.f K t k (wrap64 (n + 1)) = some o) (hX : X.length ≤ 32) (hY : Y.length ≤ 32) (hZ : Z.length ≤ 32)
    (h0 : o.2 = 0 → o.1 = (X.length : Int) + (Y.length : Int)) (h1 : o.2 ≠ 0 → Z = []) : fescuelaw03_TypesParts.j1 (K + 2) t k n true (X ++ (Y ++ Z)) p 0 (X.length : Int) f13 false = some true := by
  have w1 : wrap64 (((X ++ (Y ++ Z)).length : Int) - (X.length : Int)) = (Y.length : Int) + (Z.length : Int) := by simp only [List.length_append]; unfold wrap64; omega
  have w2 : wrap64 ((X.length : Int) + (Y.length : Int)) = (X.length : Int) + (Y.length : Int) := by unfold wrap64; omega
  have w4 : ((X ++ (Y ++ Z)).length : Int) = (X.length : Int) + ((Y.length : Int) + (Z.length : Int)) := by simp only [List.length_append]; omega
  have w5 : ((X.length : Int) + (Y.length : Int)).toNat = X.length + Y.length := by omega
  rw [fescuelaw03_TypesParts.j1, if_neg (by simp), hc, Option.bind_some, if_pos rfl, if_neg (by omega)]
  dsimp only
  rw [w1, w2, w4, if_neg (by omega), if_neg (by omega), if_pos (by omega), if_pos (by omega), if_pos (by omega), w5, Int.toNat_natCast, cut_mid, same_some Y Y (by omega) _ (by omega), Option.bind_some, beq_self_eq_true]
  rw [fescuelaw03_TypesParts.j2, if_neg (by simp), ho, Option.bind_some, w2, w4]
  by_cases h : o.2 = 0
  · rw [if_pos h, if_pos rfl, h0 h, beq_self_eq_true]
  · rw [if_neg h, if_pos rfl]
    have := h1 h
    subst this
    simp

theorem TypesParts (t : List S31) (k n : Int) : ∃ K, fescuelaw03_TypesParts.f K t k n = some true := by
  refine ⟨100, ?_⟩
  unfold fescuelaw03_TypesParts.f
  rw [alive03 100 (by omega), Option.bind_some]
  obtain ⟨b, hb, hF⟩ := great_some t 100 (by omega)
  rw [hb, Option.bind_some]
  have hj0 : fescuelaw03_TypesParts.j0 100 t k n true true = some true := by rw [fescuelaw03_TypesParts.j0, if_pos rfl]
  cases b
  · rw [if_neg (by simp)]
    by_cases h1 : n < 0
    · rw [if_pos h1]; exact hj0
    rw [if_neg h1]
    by_cases h2 : n > 100
    · rw [if_pos h2]; exact hj0
    rw [if_neg h2]
    have hF := hF rfl
    rw [fescuelaw03_TypesParts.j0, if_neg (by simp), Cells_some t hF k 99 (by omega), Option.bind_some, Part_some t hF k n 99 (by omega), Option.bind_some, Offset_some t hF k n 99 (by omega), Option.bind_some]
    by_cases ha : askV t k = 0
    · rw [if_pos ha]
      by_cases hp : (partV t k n).2 = 0
      · obtain ⟨_, hn0, hn1, hpe⟩ := partV_ok hp
        obtain ⟨hc, h0, hk⟩ := askV_ok ha
        obtain ⟨m, rfl⟩ := Int.eq_ofNat_of_zero_le hn0
        have hoff : offV t k m = (aheadV t k m, 0) := by unfold offV; rw [if_pos hp]
        rw [if_pos rfl, if_pos hp, hoff, hpe]
        rw [show ((0 : Int) != 0) = false from rfl]
        have hpin := parts_in hc h0 hk (rd (partsOf (rd_T31 t k)) m) (by rw [rd_at (by omega)]; exact List.getElem_mem _)
        have hL : partsOf (rd_T31 t k) ≠ [] := by intro e; rw [e] at hn1; simp at hn1; omega
        have hC := Ct_of hc h0 hk
        rw [if_pos (parts_kind hL)] at hC
        have h32 := Ct_len hc h0 hk
        have hsp := split_at (partsOf (rd_T31 t k)) (Ct t) m (by omega)
        have hts := take_succ_flat (partsOf (rd_T31 t k)) (Ct t) m (by omega)
        rw [hC] at h32 ⊢
        rw [hsp] at h32 ⊢
        have hah : aheadV t k m = (((partsOf (rd_T31 t k)).take m).flatMap (Ct t)).length := by unfold aheadV; rw [Int.toNat_natCast]
        have hah2 : aheadV t k ((m : Int) + 1) = (((partsOf (rd_T31 t k)).take m).flatMap (Ct t)).length + (Ct t (rd (partsOf (rd_T31 t k)) m)).length := by
          unfold aheadV
          rw [show ((m : Int) + 1).toNat = m + 1 from by omega, hts, List.length_append]
          omega
        have hpart2 : partV t k ((m : Int) + 1) = if m + 1 < (partsOf (rd_T31 t k)).length then (rd (partsOf (rd_T31 t k)) ((m : Int) + 1), 0) else (0, 2) := by
          unfold partV
          rw [if_pos ha]
          by_cases h : m + 1 < (partsOf (rd_T31 t k)).length
          · rw [if_pos (by omega), if_pos h]
          · rw [if_neg (by omega), if_neg h]
        have w3 : wrap64 ((m : Int) + 1) = (m : Int) + 1 := by unfold wrap64; omega
        simp only [List.length_append] at h32
        rw [hah]
        refine parts_fin 97 t k m _ 0 _ _ _ (offV t k ((m : Int) + 1)) (by omega) ?_ ?_ (by omega) (by omega) (by omega) ?_ ?_
        · rw [Cells_some t hF _ 98 (by omega), if_pos (askV_mk hc hpin.1 hpin.2)]
        · rw [w3]
          exact Offset_some t hF k _ 97 (by omega)
        · intro h
          unfold offV at h ⊢
          by_cases h2 : (partV t k ((m : Int) + 1)).2 = 0
          · rw [if_pos h2]
            exact hah2
          · rw [if_neg h2] at h
            dsimp only at h
            exact absurd h h2
        · intro h
          unfold offV at h
          rw [hpart2] at h
          by_cases h2 : m + 1 < (partsOf (rd_T31 t k)).length
          · rw [if_pos h2, if_pos rfl] at h
            exact absurd rfl h
          · rw [List.drop_eq_nil_of_le (Nat.le_of_not_lt h2)]
            rfl
      · have hoff : offV t k n = (0, (partV t k n).2) := by unfold offV; rw [if_neg hp]
        have hpv : partV t k n = (0, 2) := by
          unfold partV at hp ⊢
          rw [if_pos ha] at hp ⊢
          by_cases h : 0 ≤ n ∧ n < (partsOf (rd_T31 t k)).length
          · rw [if_pos h] at hp; exact absurd rfl hp
          · rw [if_neg h]
        rw [if_pos rfl, if_neg hp, hoff, hpv, fescuelaw03_TypesParts.j1]
        simp
    · have hpv : partV t k n = (0, askV t k) := by unfold partV; rw [if_neg ha]
      have hoff : offV t k n = (0, askV t k) := by unfold offV; rw [hpv, if_neg ha]
      rw [if_neg ha, if_neg ha, hpv, hoff, fescuelaw03_TypesParts.j1]
      simp
  · rw [if_pos rfl]
    exact hj0
end Go.Proofs.Ytfjmpfecnemoiaa.Pure
