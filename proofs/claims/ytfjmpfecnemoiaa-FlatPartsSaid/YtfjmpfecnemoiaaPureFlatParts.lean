/-
  The law FlatParts, over numbers and lists: a part's cell's flat field is the step to the part and the cell's own one in it.
-/
import Derived.Test.YtfjmpfecnemoiaaQFlatU
import Derived.Test.YtfjmpfecnemoiaaQx12
namespace Go.Proofs.Ytfjmpfecnemoiaa.Pure
open Go.RowKit Go.Proofs.Ytfjmpfecnemoiaa.Q Go.Proofs.YtfjmpfecnemoiaaW.PrintWords Go.Proofs.YtfjmpfecnemoiaaW.PrintLast
set_option linter.unusedVariables false

theorem alive04' (k : Nat) (hk : 40 ≤ k) : fescuelaw04_alive.f k = some true := by
  have h40 : fescuelaw04_alive.f 40 = some true := by decide +kernel
  obtain ⟨d, rfl⟩ : ∃ d, k = 40 + d := ⟨k - 40, by omega⟩
  clear hk
  induction d with
  | zero => exact h40
  | succ d ih => exact fescuelaw04_alive.mono _ _ ih

theorem flat_len_take (L : List Int) (f : Int → List Int) (n : Nat) (h : n < L.length) : ((L.take n).flatMap f).length + (f (rd L n)).length ≤ (L.flatMap f).length := by
  rw [rd_at h]
  have e : L = L.take n ++ L[n] :: L.drop (n + 1) := by rw [← List.drop_eq_getElem_cons h, List.take_append_drop]
  calc ((L.take n).flatMap f).length + (f L[n]).length ≤ ((L.take n ++ L[n] :: L.drop (n + 1)).flatMap f).length := by rw [List.flatMap_append, List.flatMap_cons, List.length_append, List.length_append]; omega
    _ = _ := by rw [← e]
theorem flatV_in' {t : List S31} {i : Int} (ha : askV t i = 0) (c : Int) (h0 : 0 ≤ c) (h1 : c < (Ct t i).length) : flatV t i c = (rd (Fi t i) c, 0) := by
  unfold flatV
  rw [if_pos ha, if_pos ⟨h0, h1⟩]
theorem FlatParts (t : List S31) (i n c : Int) : ∃ K, fescuelaw04_FlatParts.f K t i n c = some true := by
  refine ⟨100, ?_⟩
  unfold fescuelaw04_FlatParts.f
  rw [alive04' 100 (by omega), Option.bind_some]
  obtain ⟨b, hb, hF⟩ := great_some t 100 (by omega)
  rw [hb, Option.bind_some]
  have hj0 : fescuelaw04_FlatParts.j0 100 t i n c true true = some true := by rw [fescuelaw04_FlatParts.j0, if_pos rfl]
  cases b
  · rw [if_neg (by simp)]
    by_cases hc0 : c < 0
    · rw [if_pos hc0]; exact hj0
    rw [if_neg hc0]
    by_cases hc1 : c > 100
    · rw [if_pos hc1]; exact hj0
    rw [if_neg hc1]
    have hF := hF rfl
    rw [fescuelaw04_FlatParts.j0, if_neg (by simp), Part_some t hF i n 99 (by omega), Option.bind_some, Offset_some t hF i n 99 (by omega), Option.bind_some, Step_some t hF i n 99 (by omega), Option.bind_some]
    by_cases hp : (partV t i n).2 = 0
    · obtain ⟨ha, hn0, hn1, hpe⟩ := partV_ok hp
      obtain ⟨hc, h0, h1⟩ := askV_ok ha
      obtain ⟨m, rfl⟩ := Int.eq_ofNat_of_zero_le hn0
      obtain ⟨q, rfl⟩ := Int.eq_ofNat_of_zero_le (show 0 ≤ c by omega)
      have hoff : offV t i m = (aheadV t i m, 0) := by unfold offV; rw [if_pos hp]
      have hst : stepV t i m = (stepA t i m, 0) := by unfold stepV; rw [if_pos hp]
      have hm : m < (partsOf (rd_T31 t i)).length := by omega
      have hin := parts_in hc h0 h1 (rd (partsOf (rd_T31 t i)) m) (by rw [rd_at hm]; exact List.getElem_mem _)
      have hne : partsOf (rd_T31 t i) ≠ [] := by intro e; rw [e] at hm; simp at hm
      have h32 := Ct_len hc h0 h1
      have hCt := Ct_of hc h0 h1
      rw [if_pos (parts_kind hne)] at hCt
      have hsp := flat_len_take (partsOf (rd_T31 t i)) (Ct t) m hm
      rw [← hCt] at hsp
      have hah : aheadV t i m = (((partsOf (rd_T31 t i)).take m).flatMap (Ct t)).length := by unfold aheadV; rw [Int.toNat_natCast]
      rw [hoff, hst, hp, hpe]
      dsimp only
      rw [if_pos rfl, if_pos rfl, show ((0 : Int) != 0) = false from rfl, fescuelaw04_FlatParts.j1, if_neg (by simp), Flat_some t hF _ _ 98 (by omega), Option.bind_some]
      have hap := askV_mk hc hin.1 hin.2
      by_cases hq : q < (Ct t (rd (partsOf (rd_T31 t i)) m)).length
      · have hfp : flatV t (rd (partsOf (rd_T31 t i)) m) q = (rd (Fi t (rd (partsOf (rd_T31 t i)) m)) q, 0) := by
          unfold flatV
          rw [if_pos hap, if_pos ⟨by omega, by omega⟩]
        have hlen := Fi_len hc h0 h1
        have hle := Ff_le hc h0 h1
        have z0 : aheadV t i m + (q : Int) = (((((partsOf (rd_T31 t i)).take m).flatMap (Ct t)).length + q : Nat) : Int) := by rw [hah]; push_cast; rfl
        have z1 : (((partsOf (rd_T31 t i)).take m).flatMap (Ct t)).length + q < (Ct t i).length := by clear hpe hp hfp; omega
        have z2 : (((partsOf (rd_T31 t i)).take m).flatMap (Ct t)).length + q < (Fi t i).length := by clear hpe hp hfp; omega
        have hfi := Flat_some t hF i (aheadV t i m + (q : Int)) 98 (by clear hpe hp hfp; omega)
        rw [flatV_in' ha _ (by rw [z0]; exact Int.natCast_nonneg _) (by rw [z0]; exact Int.ofNat_lt.2 z1)] at hfi
        obtain ⟨_, hbb, _⟩ := flat_facts hc t.length i h0 h1 (by clear hpe hp hfp; omega)
        have hbd := hbb (rd (Fi t i) (aheadV t i m + (q : Int))) (by
          rw [z0, rd_at z2]
          exact List.getElem_mem _)
        have hfe := flat_part hc h0 h1 m hm q hq
        rw [hfp]
        dsimp only
        rw [if_pos rfl]
        generalize rd (Fi t i) (aheadV t i m + (q : Int)) = y2 at *
        generalize rd (Fi t (rd (partsOf (rd_T31 t i)) m)) q = y1 at *
        have w1 : wrap64 (aheadV t i m + (q : Int)) = aheadV t i m + (q : Int) := by rw [z0]; clear hpe hp hfp; unfold wrap64; omega
        have w2 : wrap64 (stepA t i m + y1) = y2 := by rw [← hfe]; clear hpe hp hfp hfe; unfold wrap64; omega
        rw [w1, hfi, Option.bind_some, if_pos rfl]
        dsimp only
        rw [if_pos rfl, w2, beq_self_eq_true]
      · have hfp : flatV t (rd (partsOf (rd_T31 t i)) m) q = (0, 2) := by
          unfold flatV
          rw [if_pos hap, if_neg (by omega)]
        rw [hfp]
        dsimp only
        rw [if_neg (by omega), if_pos rfl]
        rfl
    · have hst : stepV t i n = (0, (partV t i n).2) := by unfold stepV; rw [if_neg hp]
      rw [if_neg hp, hst, fescuelaw04_FlatParts.j1]
      simp
  · rw [if_pos rfl]
    exact hj0
end Go.Proofs.Ytfjmpfecnemoiaa.Pure
