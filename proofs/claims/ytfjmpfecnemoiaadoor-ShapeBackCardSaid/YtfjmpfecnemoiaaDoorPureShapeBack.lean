/-
  The law ShapeBack, over numbers and lists: where a register stands, and which one stands there, go there and back.
-/
import Derived.Test.YtfjmpfecnemoiaaDoorQSh
import Derived.Test.YtfjmpfecnemoiaaDoorQx24
namespace Go.Proofs.YtfjmpfecnemoiaaDoor.Pure
open Go.RowKit Go.Proofs.YtfjmpfecnemoiaaDoor.Q Go.Proofs.YtfjmpfecnemoiaaDoorW.PrintWords Go.Proofs.YtfjmpfecnemoiaaDoorW.PrintLast
set_option linter.unusedVariables false

theorem alive_40 : fescuelaw06_alive.f 40 = some true := by decide +kernel
theorem alive_some (k : Nat) (hk : 40 ≤ k) : fescuelaw06_alive.f k = some true := at_rounds (fun k => fescuelaw06_alive.mono k) hk alive_40
theorem back_no (k : Nat) (f r e : Int) (he : e ≠ 0) (t : List S78) (fs : List S55) (x9 x12 : Int) (h : x12 = e ∧ (x9 = 0 ∨ x9 = e)) : fescuelaw06_ShapeBack.j1 (k + 1) f r true (0 : Int) x9 0 0 x12 true t fs = some true := by
  rw [fescuelaw06_ShapeBack.j1, if_pos rfl, if_pos rfl]
  by_cases h9 : x9 = 0
  · rw [if_pos h9, if_pos rfl]; rfl
  · rw [if_neg h9, if_pos (by omega), if_pos rfl]; rfl
theorem ShapeBack (t : List S78) (fs : List S55) (hS : SaneP fs) (f r : Int) : ∃ K, fescuelaw06_ShapeBack.f K t fs f r = some true := by
  obtain ⟨K, b, hK, hb⟩ := greatP_some t fs hS
  have hG : fescueref06_Great.f (K + 50) t fs 300 = some b := hK (K + 50) (by omega)
  refine ⟨K + 50, ?_⟩
  unfold fescuelaw06_ShapeBack.f
  rw [alive_some _ (by omega), Option.bind_some, hG, Option.bind_some]
  clear hG
  cases b
  · have hM := hb rfl
    rw [if_neg (by simp), fescuelaw06_ShapeBack.j0, if_neg (by simp)]
    generalize hk : K + 49 = k
    have hk24 : 30 ≤ k := by omega
    obtain ⟨k, rfl⟩ : ∃ m, k = m + 2 := ⟨k - 2, by omega⟩
    by_cases hv : chkP t fs = 0 ∧ 0 ≤ f ∧ f < fs.length
    · obtain ⟨h0, hf0, hf1⟩ := hv
      obtain ⟨i, rfl⟩ := Int.eq_ofNat_of_zero_le hf0
      have hi : i < fs.length := by omega
      have hR := reg_le hS hM h0 i hi
      rw [regsP_yes hS hM h0 i hi _ (by omega), Option.bind_some]
      by_cases hr : 0 ≤ r ∧ r < regN t fs[i]
      · obtain ⟨hr0, hr1⟩ := hr
        obtain ⟨q, rfl⟩ := Int.eq_ofNat_of_zero_le hr0
        by_cases hq : q < parN t fs[i]
        · rw [placeP_par hS hM h0 i hi q hq _ (by omega), Option.bind_some]
          dsimp only
          rw [if_pos rfl, fescuelaw06_ShapeBack.j1, if_neg (by decide), if_pos (by decide), if_pos rfl, if_pos rfl, if_pos rfl, if_pos (by omega), decide_eq_true hr1]
        · obtain ⟨b, a, hp, hb, ha, hc⟩ := placeP_at hS hM h0 i hi q (by omega) (by omega) (k + 2) (by omega)
          rw [hp, Option.bind_some]
          dsimp only
          rw [if_pos rfl, fescuelaw06_ShapeBack.j1, if_neg (by decide), if_neg (by omega), regP_at hS hM h0 i hi b a hb ha _ (by omega), Option.bind_some]
          dsimp only
          rw [if_pos rfl, if_pos (by omega), decide_eq_false (by omega), fescuelaw06_ShapeBack.j2, if_neg (by simp), wrapS (by omega)]
          by_cases hn : q + 1 < regN t fs[i]
          · obtain ⟨b2, a2, hp2, hb2, ha2, hc2⟩ := placeP_at hS hM h0 i hi (q + 1) (by omega) hn k (by omega)
            have hnext := next_place fs[i].f1 b a b2 a2 hb ha hb2 ha2 (by omega)
            have hsm := hM.all _ (List.getElem_mem hi)
            have hla := (hsm.2 _ (List.getElem_mem hb)).1
            rw [hp2, Option.bind_some]
            dsimp only
            rw [if_pos rfl, if_pos rfl]
            rcases hnext with ⟨rfl, rfl⟩ | ⟨hlt, rfl⟩
            · rw [if_pos rfl, wrapS (by omega), if_pos rfl]
            · rw [if_neg (by omega), if_pos (by omega)]
              rfl
          · rw [placeP_far hS hM h0 i hi _ (by omega) k (by omega), Option.bind_some]
            dsimp only
            rw [if_neg (by decide), if_pos rfl]
            exact congrArg some (beq_iff_eq.mpr (by omega))
      · rw [placeP_far hS hM h0 i hi r hr _ (by omega), Option.bind_some]
        dsimp only
        rw [if_pos rfl, fescuelaw06_ShapeBack.j1, if_pos (by decide), if_pos rfl, if_pos rfl, if_pos rfl]
        rfl
    · have hp : shape_Place.f (k + 2) t fs f r = some (0, 0, if chkP t fs = 0 then 2 else chkP t fs) := by
        unfold shape_Place.f
        rw [askedP_no t fs hS hM.few f hv _ (by omega), Option.bind_some]
        dsimp only
        by_cases h0 : chkP t fs = 0
        · rw [if_pos h0, if_neg (by decide)]
        · rw [if_neg h0, if_neg h0]
      rw [regsP_no t fs hS hM.few f hv _ (by omega), Option.bind_some, hp, Option.bind_some]
      dsimp only
      have he : (if chkP t fs = 0 then (2 : Int) else chkP t fs) ≠ 0 := by
        split
        · decide
        · assumption
      generalize (if chkP t fs = 0 then (2 : Int) else chkP t fs) = e at *
      rw [if_neg he]
      exact back_no _ f r e he t fs e e ⟨rfl, .inr rfl⟩
  · rw [if_pos rfl, fescuelaw06_ShapeBack.j0, if_pos rfl]
end Go.Proofs.YtfjmpfecnemoiaaDoor.Pure
