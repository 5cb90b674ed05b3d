-- Printed by wip/myprint.py (a wrapper of this claim's session over the kit's print.py) out of the translation; Lean checks it.
import Derived.Test.YtfjmpfecnemoiaaQx0
import Derived.Test.YtfjmpfecnemoiaaQx1
import Derived.Test.YtfjmpfecnemoiaaQx4
import Derived.Test.YtfjmpfecnemoiaaQx5
import Derived.Test.YtfjmpfecnemoiaaQx6
import Derived.Test.YtfjmpfecnemoiaaQx8
import Derived.Test.YtfjmpfecnemoiaaQPart
namespace Go.Proofs.Ytfjmpfecnemoiaa.Q
open Go.RowKit Go.Proofs.YtfjmpfecnemoiaaW.PrintWords Go.Proofs.YtfjmpfecnemoiaaW.PrintLast Go.Proofs.YtfjmpfecnemoiaaW.PrintMore
attribute [local go_sem] max2_int min2_int max_two min_two max_three min_three max_four min_four   -- for this text's walks alone
set_option linter.unusedVariables false
set_option linter.unusedSimpArgs false

/-! ### fescuelaw03_TypesAsks: function 8 -/
mutual
def fescuelaw03_TypesAsks.j0 : Nat → List (S31) → List (S31) → List Int → Bool → Option (Bool)
  | 0, _, _, _, _ => none
  | k + 1, x0, x7, x12, x24 => fescuelaw03_TypesAsks.l0 k x0 x7 x12 x24 0
def fescuelaw03_TypesAsks.l0 : Nat → List (S31) → List (S31) → List Int → Bool → Int → Option (Bool)
  | 0, _, _, _, _, _ => none
  | k + 1, x0, x7, x12, x24, x25 => if x25 < (x12.length : Int) then (if 0 ≤ x25 then (fescuelaw03_TypesAsks.l0 k x0 x7 (x12.set (x25 : Int).toNat (-7)) x24 (wrap64 (x25 + 1))) else (none)) else (if x24 = true then ((fescueref03_Same.f k x7 x0).bind fun t471 => (some t471)) else (some false))
end
def fescuelaw03_TypesAsks.f (k : Nat) (l0 : List (S31)) (a1 : Int) (a2 : Int) : Option (Bool) := (fescueref03_Great.f k l0).bind fun t445 => (if t445 = true then (some true) else ((fescueref03_Twin.f k l0).bind fun t446 => ((types_Scalar.f k t446 a1).bind fun bt449 => ((fescueref03_Scalar.f k l0 a1).bind fun bt451 => ((types_Cells.f k t446 a1).bind fun bt453 => ((fescueref03_Cells.f k l0 a1).bind fun bt457 => ((types_Part.f k t446 a1 a2).bind fun bt461 => ((fescueref03_Part.f k l0 a1 a2).bind fun bt463 => ((types_Offset.f k t446 a1 a2).bind fun bt465 => ((fescueref03_Offset.f k l0 a1 a2).bind fun bt467 => (if (bt449.1 == bt451.1) = true then (if bt449.2 = bt451.2 then ((fescueref02_SameInts.f k bt453.1 bt457.1).bind fun t469 => (if t469 = true then (if bt453.2 = bt457.2 then (if bt461.1 = bt463.1 then (if bt461.2 = bt463.2 then (if bt465.1 = bt467.1 then (fescuelaw03_TypesAsks.j0 k l0 t446 bt453.1 (bt465.2 == bt467.2)) else (fescuelaw03_TypesAsks.j0 k l0 t446 bt453.1 false)) else (fescuelaw03_TypesAsks.j0 k l0 t446 bt453.1 false)) else (fescuelaw03_TypesAsks.j0 k l0 t446 bt453.1 false)) else (fescuelaw03_TypesAsks.j0 k l0 t446 bt453.1 false)) else (fescuelaw03_TypesAsks.j0 k l0 t446 bt453.1 false))) else (fescuelaw03_TypesAsks.j0 k l0 t446 bt453.1 false)) else (fescuelaw03_TypesAsks.j0 k l0 t446 bt453.1 false))))))))))))
theorem fescuelaw03_TypesAsks.mono_l : ∀ k, (∀ y0 y1 y2 y3, LeO (fescuelaw03_TypesAsks.j0 k y0 y1 y2 y3) (fescuelaw03_TypesAsks.j0 (k + 1) y0 y1 y2 y3)) ∧ (∀ y0 y1 y2 y3 y4, LeO (fescuelaw03_TypesAsks.l0 k y0 y1 y2 y3 y4) (fescuelaw03_TypesAsks.l0 (k + 1) y0 y1 y2 y3 y4))
  | 0 => ⟨fun _ _ _ _ r h => by simp [fescuelaw03_TypesAsks.j0] at h, fun _ _ _ _ _ r h => by simp [fescuelaw03_TypesAsks.l0] at h⟩
  | k + 1 => by
    obtain ⟨ih0, ih1⟩ := fescuelaw03_TypesAsks.mono_l k
    refine ⟨?_, ?_⟩
    · intro y0 y1 y2 y3
      unfold fescuelaw03_TypesAsks.j0
      repeat' first
      | (with_reducible exact ih0 _ _ _ _)
      | (with_reducible exact ih1 _ _ _ _ _)
      | (with_reducible exact fescueref02_SameInts.mono _ _ _)
      | (with_reducible exact fescueref03_Cells.mono _ _ _)
      | (with_reducible exact fescueref03_Great.mono _ _)
      | (with_reducible exact fescueref03_Offset.mono _ _ _ _)
      | (with_reducible exact fescueref03_Part.mono _ _ _ _)
      | (with_reducible exact fescueref03_Same.mono _ _ _)
      | (with_reducible exact fescueref03_Scalar.mono _ _ _)
      | (with_reducible exact fescueref03_Twin.mono _ _)
      | (with_reducible exact types_Cells.mono _ _ _)
      | (with_reducible exact types_Offset.mono _ _ _ _)
      | (with_reducible exact types_Part.mono _ _ _ _)
      | (with_reducible exact types_Scalar.mono _ _ _)
      | (with_reducible exact LeO.refl _)
      | (with_reducible exact LeO.none _)
      | (with_reducible refine LeO.ite ?_ ?_)
      | (with_reducible refine LeO.bind ?_ (fun _ => ?_))
      | exact ih0 _ _ _ _
      | exact ih1 _ _ _ _ _
      | exact fescueref02_SameInts.mono _ _ _
      | exact fescueref03_Cells.mono _ _ _
      | exact fescueref03_Great.mono _ _
      | exact fescueref03_Offset.mono _ _ _ _
      | exact fescueref03_Part.mono _ _ _ _
      | exact fescueref03_Same.mono _ _ _
      | exact fescueref03_Scalar.mono _ _ _
      | exact fescueref03_Twin.mono _ _
      | exact types_Cells.mono _ _ _
      | exact types_Offset.mono _ _ _ _
      | exact types_Part.mono _ _ _ _
      | exact types_Scalar.mono _ _ _
      | exact LeO.none _
      | refine LeO.ite ?_ ?_
      | refine LeO.bind ?_ (fun _ => ?_)
    · intro y0 y1 y2 y3 y4
      unfold fescuelaw03_TypesAsks.l0
      repeat' first
      | (with_reducible exact ih0 _ _ _ _)
      | (with_reducible exact ih1 _ _ _ _ _)
      | (with_reducible exact fescueref02_SameInts.mono _ _ _)
      | (with_reducible exact fescueref03_Cells.mono _ _ _)
      | (with_reducible exact fescueref03_Great.mono _ _)
      | (with_reducible exact fescueref03_Offset.mono _ _ _ _)
      | (with_reducible exact fescueref03_Part.mono _ _ _ _)
      | (with_reducible exact fescueref03_Same.mono _ _ _)
      | (with_reducible exact fescueref03_Scalar.mono _ _ _)
      | (with_reducible exact fescueref03_Twin.mono _ _)
      | (with_reducible exact types_Cells.mono _ _ _)
      | (with_reducible exact types_Offset.mono _ _ _ _)
      | (with_reducible exact types_Part.mono _ _ _ _)
      | (with_reducible exact types_Scalar.mono _ _ _)
      | (with_reducible exact LeO.refl _)
      | (with_reducible exact LeO.none _)
      | (with_reducible refine LeO.ite ?_ ?_)
      | (with_reducible refine LeO.bind ?_ (fun _ => ?_))
      | exact ih0 _ _ _ _
      | exact ih1 _ _ _ _ _
      | exact fescueref02_SameInts.mono _ _ _
      | exact fescueref03_Cells.mono _ _ _
      | exact fescueref03_Great.mono _ _
      | exact fescueref03_Offset.mono _ _ _ _
      | exact fescueref03_Part.mono _ _ _ _
      | exact fescueref03_Same.mono _ _ _
      | exact fescueref03_Scalar.mono _ _ _
      | exact fescueref03_Twin.mono _ _
      | exact types_Cells.mono _ _ _
      | exact types_Offset.mono _ _ _ _
      | exact types_Part.mono _ _ _ _
      | exact types_Scalar.mono _ _ _
      | exact LeO.none _
      | refine LeO.ite ?_ ?_
      | refine LeO.bind ?_ (fun _ => ?_)
theorem fescuelaw03_TypesAsks.mono : ∀ a0 a1 a2 k, LeO (fescuelaw03_TypesAsks.f k a0 a1 a2) (fescuelaw03_TypesAsks.f (k + 1) a0 a1 a2) := by
  intro a0 a1 a2 k
  obtain ⟨ih0, ih1⟩ := fescuelaw03_TypesAsks.mono_l k
  unfold fescuelaw03_TypesAsks.f
  repeat' first
      | (with_reducible exact ih0 _ _ _ _)
      | (with_reducible exact ih1 _ _ _ _ _)
      | (with_reducible exact fescueref02_SameInts.mono _ _ _)
      | (with_reducible exact fescueref03_Cells.mono _ _ _)
      | (with_reducible exact fescueref03_Great.mono _ _)
      | (with_reducible exact fescueref03_Offset.mono _ _ _ _)
      | (with_reducible exact fescueref03_Part.mono _ _ _ _)
      | (with_reducible exact fescueref03_Same.mono _ _ _)
      | (with_reducible exact fescueref03_Scalar.mono _ _ _)
      | (with_reducible exact fescueref03_Twin.mono _ _)
      | (with_reducible exact types_Cells.mono _ _ _)
      | (with_reducible exact types_Offset.mono _ _ _ _)
      | (with_reducible exact types_Part.mono _ _ _ _)
      | (with_reducible exact types_Scalar.mono _ _ _)
      | (with_reducible exact LeO.refl _)
      | (with_reducible exact LeO.none _)
      | (with_reducible refine LeO.ite ?_ ?_)
      | (with_reducible refine LeO.bind ?_ (fun _ => ?_))
      | exact ih0 _ _ _ _
      | exact ih1 _ _ _ _ _
      | exact fescueref02_SameInts.mono _ _ _
      | exact fescueref03_Cells.mono _ _ _
      | exact fescueref03_Great.mono _ _
      | exact fescueref03_Offset.mono _ _ _ _
      | exact fescueref03_Part.mono _ _ _ _
      | exact fescueref03_Same.mono _ _ _
      | exact fescueref03_Scalar.mono _ _ _
      | exact fescueref03_Twin.mono _ _
      | exact types_Cells.mono _ _ _
      | exact types_Offset.mono _ _ _ _
      | exact types_Part.mono _ _ _ _
      | exact types_Scalar.mono _ _ _
      | exact LeO.none _
      | refine LeO.ite ?_ ?_
      | refine LeO.bind ?_ (fun _ => ?_)
set_option maxHeartbeats 8000000 in
set_option maxRecDepth 100000 in
theorem fescuelaw03_TypesAsks.calls (k : Nat) (A0 : Option Addr) (c0 : Nat) (l0 : List (S31)) (a1 : Int) (a2 : Int) (r : Bool) (w : World) (hr0 : Kd.C k31 w A0 l0.length l0) (hc0 : l0.length ≤ c0) (h : fescuelaw03_TypesAsks.f k l0 a1 a2 = some r) :
    Calls Try.prog 8 #[.slice A0 l0.length c0, .int .i64 a1, .int .i64 a2] w fun e w' => e = .returned (.bool r) ∧ Below w.heap.size w w' := by
  have HR0 := Aside0.mk hr0
  have HC0 := Aside0.mk hc0
  clear hr0 hc0
  have HB := Aside0.mk (Below.refl w.heap.size w)
  have H : ((fescueref03_Great.f k l0).bind fun t445 => (if t445 = true then (some true) else ((fescueref03_Twin.f k l0).bind fun t446 => ((types_Scalar.f k t446 a1).bind fun bt449 => ((fescueref03_Scalar.f k l0 a1).bind fun bt451 => ((types_Cells.f k t446 a1).bind fun bt453 => ((fescueref03_Cells.f k l0 a1).bind fun bt457 => ((types_Part.f k t446 a1 a2).bind fun bt461 => ((fescueref03_Part.f k l0 a1 a2).bind fun bt463 => ((types_Offset.f k t446 a1 a2).bind fun bt465 => ((fescueref03_Offset.f k l0 a1 a2).bind fun bt467 => (if (bt449.1 == bt451.1) = true then (if bt449.2 = bt451.2 then ((fescueref02_SameInts.f k bt453.1 bt457.1).bind fun t469 => (if t469 = true then (if bt453.2 = bt457.2 then (if bt461.1 = bt463.1 then (if bt461.2 = bt463.2 then (if bt465.1 = bt467.1 then (fescuelaw03_TypesAsks.j0 k l0 t446 bt453.1 (bt465.2 == bt467.2)) else (fescuelaw03_TypesAsks.j0 k l0 t446 bt453.1 false)) else (fescuelaw03_TypesAsks.j0 k l0 t446 bt453.1 false)) else (fescuelaw03_TypesAsks.j0 k l0 t446 bt453.1 false)) else (fescuelaw03_TypesAsks.j0 k l0 t446 bt453.1 false)) else (fescuelaw03_TypesAsks.j0 k l0 t446 bt453.1 false))) else (fescuelaw03_TypesAsks.j0 k l0 t446 bt453.1 false)) else (fescuelaw03_TypesAsks.j0 k l0 t446 bt453.1 false))))))))))))) = some r := h
  clear h
  replace H := Option.bind_eq_some_iff.mp H
  obtain ⟨t445, A40, H⟩ := H
  replace H : (if t445 = true then (some true) else ((fescueref03_Twin.f k l0).bind fun t446 => ((types_Scalar.f k t446 a1).bind fun bt449 => ((fescueref03_Scalar.f k l0 a1).bind fun bt451 => ((types_Cells.f k t446 a1).bind fun bt453 => ((fescueref03_Cells.f k l0 a1).bind fun bt457 => ((types_Part.f k t446 a1 a2).bind fun bt461 => ((fescueref03_Part.f k l0 a1 a2).bind fun bt463 => ((types_Offset.f k t446 a1 a2).bind fun bt465 => ((fescueref03_Offset.f k l0 a1 a2).bind fun bt467 => (if (bt449.1 == bt451.1) = true then (if bt449.2 = bt451.2 then ((fescueref02_SameInts.f k bt453.1 bt457.1).bind fun t469 => (if t469 = true then (if bt453.2 = bt457.2 then (if bt461.1 = bt463.1 then (if bt461.2 = bt463.2 then (if bt465.1 = bt467.1 then (fescuelaw03_TypesAsks.j0 k l0 t446 bt453.1 (bt465.2 == bt467.2)) else (fescuelaw03_TypesAsks.j0 k l0 t446 bt453.1 false)) else (fescuelaw03_TypesAsks.j0 k l0 t446 bt453.1 false)) else (fescuelaw03_TypesAsks.j0 k l0 t446 bt453.1 false)) else (fescuelaw03_TypesAsks.j0 k l0 t446 bt453.1 false)) else (fescuelaw03_TypesAsks.j0 k l0 t446 bt453.1 false))) else (fescuelaw03_TypesAsks.j0 k l0 t446 bt453.1 false)) else (fescuelaw03_TypesAsks.j0 k l0 t446 bt453.1 false)))))))))))) = some r := H
  have A4 := Aside0.mk A40
  clear A40
  by_cases c5 : t445 = true
  · subst c5
    have H1 : (some true) = some r := by rw [if_pos rfl] at H; exact H
    clear H
    have H := H1
    clear H1
    obtain rfl := Option.some.inj H
    go_enter Try.func8, Try.ntmps8
    go_wp2_with (first | ((with_reducible refine gate_callee (f := 12) rfl ?_); refine goesL_ (some 27) rfl rfl Try.func12 (by kernel_rfl) rfl #[.slice A0 l0.length c0] rfl (by (try simp only [List.map_toArray, List.map_cons, List.map_nil]); first | done | rfl | (simp only [List.length_drop, List.length_take]; rfl)) ?_; (with_reducible refine (fescueref03_Great.calls k _ _ l0 true _ ?side1 ?side2 A4.out).mono ?_); (case side1 => repeat (first | exact HR0.out | (with_reducible refine Kd.C_alloc ?_ _) | (with_reducible refine Kd.C_drewN ?_ _) | (with_reducible refine Kd.C_drew ?_))); (case side2 => exact HC0.out); rintro e w' ⟨rfl, ⟨nd, rfl⟩⟩; refine ⟨_, rfl, ?_⟩))
    go_ret
    exact ⟨by first | rfl | (simp [errW_none, errW_some] <;> rfl) | (simp [*, errW_none, errW_some] <;> rfl), by repeat (first | (with_reducible first | exact HB.out | apply below_alloc | apply pw_below_drewN | apply below_drew1) | exact HB.out)⟩
  · replace c5 := Bool.eq_false_iff.mpr c5
    subst c5
    have H1 : ((fescueref03_Twin.f k l0).bind fun t446 => ((types_Scalar.f k t446 a1).bind fun bt449 => ((fescueref03_Scalar.f k l0 a1).bind fun bt451 => ((types_Cells.f k t446 a1).bind fun bt453 => ((fescueref03_Cells.f k l0 a1).bind fun bt457 => ((types_Part.f k t446 a1 a2).bind fun bt461 => ((fescueref03_Part.f k l0 a1 a2).bind fun bt463 => ((types_Offset.f k t446 a1 a2).bind fun bt465 => ((fescueref03_Offset.f k l0 a1 a2).bind fun bt467 => (if (bt449.1 == bt451.1) = true then (if bt449.2 = bt451.2 then ((fescueref02_SameInts.f k bt453.1 bt457.1).bind fun t469 => (if t469 = true then (if bt453.2 = bt457.2 then (if bt461.1 = bt463.1 then (if bt461.2 = bt463.2 then (if bt465.1 = bt467.1 then (fescuelaw03_TypesAsks.j0 k l0 t446 bt453.1 (bt465.2 == bt467.2)) else (fescuelaw03_TypesAsks.j0 k l0 t446 bt453.1 false)) else (fescuelaw03_TypesAsks.j0 k l0 t446 bt453.1 false)) else (fescuelaw03_TypesAsks.j0 k l0 t446 bt453.1 false)) else (fescuelaw03_TypesAsks.j0 k l0 t446 bt453.1 false)) else (fescuelaw03_TypesAsks.j0 k l0 t446 bt453.1 false))) else (fescuelaw03_TypesAsks.j0 k l0 t446 bt453.1 false)) else (fescuelaw03_TypesAsks.j0 k l0 t446 bt453.1 false))))))))))) = some r := by rw [if_neg (show ¬ (false = true) by decide)] at H; exact H
    clear H
    have H := H1
    clear H1
    replace H := Option.bind_eq_some_iff.mp H
    obtain ⟨t446, A60, H⟩ := H
    replace H : ((types_Scalar.f k t446 a1).bind fun bt449 => ((fescueref03_Scalar.f k l0 a1).bind fun bt451 => ((types_Cells.f k t446 a1).bind fun bt453 => ((fescueref03_Cells.f k l0 a1).bind fun bt457 => ((types_Part.f k t446 a1 a2).bind fun bt461 => ((fescueref03_Part.f k l0 a1 a2).bind fun bt463 => ((types_Offset.f k t446 a1 a2).bind fun bt465 => ((fescueref03_Offset.f k l0 a1 a2).bind fun bt467 => (if (bt449.1 == bt451.1) = true then (if bt449.2 = bt451.2 then ((fescueref02_SameInts.f k bt453.1 bt457.1).bind fun t469 => (if t469 = true then (if bt453.2 = bt457.2 then (if bt461.1 = bt463.1 then (if bt461.2 = bt463.2 then (if bt465.1 = bt467.1 then (fescuelaw03_TypesAsks.j0 k l0 t446 bt453.1 (bt465.2 == bt467.2)) else (fescuelaw03_TypesAsks.j0 k l0 t446 bt453.1 false)) else (fescuelaw03_TypesAsks.j0 k l0 t446 bt453.1 false)) else (fescuelaw03_TypesAsks.j0 k l0 t446 bt453.1 false)) else (fescuelaw03_TypesAsks.j0 k l0 t446 bt453.1 false)) else (fescuelaw03_TypesAsks.j0 k l0 t446 bt453.1 false))) else (fescuelaw03_TypesAsks.j0 k l0 t446 bt453.1 false)) else (fescuelaw03_TypesAsks.j0 k l0 t446 bt453.1 false)))))))))) = some r := H
    have A6 := Aside0.mk A60
    clear A60
    replace H := Option.bind_eq_some_iff.mp H
    obtain ⟨⟨t449, t450⟩, A70, H⟩ := H
    replace H : ((fescueref03_Scalar.f k l0 a1).bind fun bt451 => ((types_Cells.f k t446 a1).bind fun bt453 => ((fescueref03_Cells.f k l0 a1).bind fun bt457 => ((types_Part.f k t446 a1 a2).bind fun bt461 => ((fescueref03_Part.f k l0 a1 a2).bind fun bt463 => ((types_Offset.f k t446 a1 a2).bind fun bt465 => ((fescueref03_Offset.f k l0 a1 a2).bind fun bt467 => (if (t449 == bt451.1) = true then (if t450 = bt451.2 then ((fescueref02_SameInts.f k bt453.1 bt457.1).bind fun t469 => (if t469 = true then (if bt453.2 = bt457.2 then (if bt461.1 = bt463.1 then (if bt461.2 = bt463.2 then (if bt465.1 = bt467.1 then (fescuelaw03_TypesAsks.j0 k l0 t446 bt453.1 (bt465.2 == bt467.2)) else (fescuelaw03_TypesAsks.j0 k l0 t446 bt453.1 false)) else (fescuelaw03_TypesAsks.j0 k l0 t446 bt453.1 false)) else (fescuelaw03_TypesAsks.j0 k l0 t446 bt453.1 false)) else (fescuelaw03_TypesAsks.j0 k l0 t446 bt453.1 false)) else (fescuelaw03_TypesAsks.j0 k l0 t446 bt453.1 false))) else (fescuelaw03_TypesAsks.j0 k l0 t446 bt453.1 false)) else (fescuelaw03_TypesAsks.j0 k l0 t446 bt453.1 false))))))))) = some r := H
    have A7 := Aside0.mk A70
    clear A70
    replace H := Option.bind_eq_some_iff.mp H
    obtain ⟨⟨t451, t452⟩, A80, H⟩ := H
    replace H : ((types_Cells.f k t446 a1).bind fun bt453 => ((fescueref03_Cells.f k l0 a1).bind fun bt457 => ((types_Part.f k t446 a1 a2).bind fun bt461 => ((fescueref03_Part.f k l0 a1 a2).bind fun bt463 => ((types_Offset.f k t446 a1 a2).bind fun bt465 => ((fescueref03_Offset.f k l0 a1 a2).bind fun bt467 => (if (t449 == t451) = true then (if t450 = t452 then ((fescueref02_SameInts.f k bt453.1 bt457.1).bind fun t469 => (if t469 = true then (if bt453.2 = bt457.2 then (if bt461.1 = bt463.1 then (if bt461.2 = bt463.2 then (if bt465.1 = bt467.1 then (fescuelaw03_TypesAsks.j0 k l0 t446 bt453.1 (bt465.2 == bt467.2)) else (fescuelaw03_TypesAsks.j0 k l0 t446 bt453.1 false)) else (fescuelaw03_TypesAsks.j0 k l0 t446 bt453.1 false)) else (fescuelaw03_TypesAsks.j0 k l0 t446 bt453.1 false)) else (fescuelaw03_TypesAsks.j0 k l0 t446 bt453.1 false)) else (fescuelaw03_TypesAsks.j0 k l0 t446 bt453.1 false))) else (fescuelaw03_TypesAsks.j0 k l0 t446 bt453.1 false)) else (fescuelaw03_TypesAsks.j0 k l0 t446 bt453.1 false)))))))) = some r := H
    have A8 := Aside0.mk A80
    clear A80
    replace H := Option.bind_eq_some_iff.mp H
    obtain ⟨⟨t453, t454⟩, A90, H⟩ := H
    replace H : ((fescueref03_Cells.f k l0 a1).bind fun bt457 => ((types_Part.f k t446 a1 a2).bind fun bt461 => ((fescueref03_Part.f k l0 a1 a2).bind fun bt463 => ((types_Offset.f k t446 a1 a2).bind fun bt465 => ((fescueref03_Offset.f k l0 a1 a2).bind fun bt467 => (if (t449 == t451) = true then (if t450 = t452 then ((fescueref02_SameInts.f k t453 bt457.1).bind fun t469 => (if t469 = true then (if t454 = bt457.2 then (if bt461.1 = bt463.1 then (if bt461.2 = bt463.2 then (if bt465.1 = bt467.1 then (fescuelaw03_TypesAsks.j0 k l0 t446 t453 (bt465.2 == bt467.2)) else (fescuelaw03_TypesAsks.j0 k l0 t446 t453 false)) else (fescuelaw03_TypesAsks.j0 k l0 t446 t453 false)) else (fescuelaw03_TypesAsks.j0 k l0 t446 t453 false)) else (fescuelaw03_TypesAsks.j0 k l0 t446 t453 false)) else (fescuelaw03_TypesAsks.j0 k l0 t446 t453 false))) else (fescuelaw03_TypesAsks.j0 k l0 t446 t453 false)) else (fescuelaw03_TypesAsks.j0 k l0 t446 t453 false))))))) = some r := H
    have A9 := Aside0.mk A90
    clear A90
    replace H := Option.bind_eq_some_iff.mp H
    obtain ⟨⟨t457, t458⟩, A100, H⟩ := H
    replace H : ((types_Part.f k t446 a1 a2).bind fun bt461 => ((fescueref03_Part.f k l0 a1 a2).bind fun bt463 => ((types_Offset.f k t446 a1 a2).bind fun bt465 => ((fescueref03_Offset.f k l0 a1 a2).bind fun bt467 => (if (t449 == t451) = true then (if t450 = t452 then ((fescueref02_SameInts.f k t453 t457).bind fun t469 => (if t469 = true then (if t454 = t458 then (if bt461.1 = bt463.1 then (if bt461.2 = bt463.2 then (if bt465.1 = bt467.1 then (fescuelaw03_TypesAsks.j0 k l0 t446 t453 (bt465.2 == bt467.2)) else (fescuelaw03_TypesAsks.j0 k l0 t446 t453 false)) else (fescuelaw03_TypesAsks.j0 k l0 t446 t453 false)) else (fescuelaw03_TypesAsks.j0 k l0 t446 t453 false)) else (fescuelaw03_TypesAsks.j0 k l0 t446 t453 false)) else (fescuelaw03_TypesAsks.j0 k l0 t446 t453 false))) else (fescuelaw03_TypesAsks.j0 k l0 t446 t453 false)) else (fescuelaw03_TypesAsks.j0 k l0 t446 t453 false)))))) = some r := H
    have A10 := Aside0.mk A100
    clear A100
    replace H := Option.bind_eq_some_iff.mp H
    obtain ⟨⟨t461, t462⟩, A110, H⟩ := H
    replace H : ((fescueref03_Part.f k l0 a1 a2).bind fun bt463 => ((types_Offset.f k t446 a1 a2).bind fun bt465 => ((fescueref03_Offset.f k l0 a1 a2).bind fun bt467 => (if (t449 == t451) = true then (if t450 = t452 then ((fescueref02_SameInts.f k t453 t457).bind fun t469 => (if t469 = true then (if t454 = t458 then (if t461 = bt463.1 then (if t462 = bt463.2 then (if bt465.1 = bt467.1 then (fescuelaw03_TypesAsks.j0 k l0 t446 t453 (bt465.2 == bt467.2)) else (fescuelaw03_TypesAsks.j0 k l0 t446 t453 false)) else (fescuelaw03_TypesAsks.j0 k l0 t446 t453 false)) else (fescuelaw03_TypesAsks.j0 k l0 t446 t453 false)) else (fescuelaw03_TypesAsks.j0 k l0 t446 t453 false)) else (fescuelaw03_TypesAsks.j0 k l0 t446 t453 false))) else (fescuelaw03_TypesAsks.j0 k l0 t446 t453 false)) else (fescuelaw03_TypesAsks.j0 k l0 t446 t453 false))))) = some r := H
    have A11 := Aside0.mk A110
    clear A110
    replace H := Option.bind_eq_some_iff.mp H
    obtain ⟨⟨t463, t464⟩, A120, H⟩ := H
    replace H : ((types_Offset.f k t446 a1 a2).bind fun bt465 => ((fescueref03_Offset.f k l0 a1 a2).bind fun bt467 => (if (t449 == t451) = true then (if t450 = t452 then ((fescueref02_SameInts.f k t453 t457).bind fun t469 => (if t469 = true then (if t454 = t458 then (if t461 = t463 then (if t462 = t464 then (if bt465.1 = bt467.1 then (fescuelaw03_TypesAsks.j0 k l0 t446 t453 (bt465.2 == bt467.2)) else (fescuelaw03_TypesAsks.j0 k l0 t446 t453 false)) else (fescuelaw03_TypesAsks.j0 k l0 t446 t453 false)) else (fescuelaw03_TypesAsks.j0 k l0 t446 t453 false)) else (fescuelaw03_TypesAsks.j0 k l0 t446 t453 false)) else (fescuelaw03_TypesAsks.j0 k l0 t446 t453 false))) else (fescuelaw03_TypesAsks.j0 k l0 t446 t453 false)) else (fescuelaw03_TypesAsks.j0 k l0 t446 t453 false)))) = some r := H
    have A12 := Aside0.mk A120
    clear A120
    replace H := Option.bind_eq_some_iff.mp H
    obtain ⟨⟨t465, t466⟩, A130, H⟩ := H
    replace H : ((fescueref03_Offset.f k l0 a1 a2).bind fun bt467 => (if (t449 == t451) = true then (if t450 = t452 then ((fescueref02_SameInts.f k t453 t457).bind fun t469 => (if t469 = true then (if t454 = t458 then (if t461 = t463 then (if t462 = t464 then (if t465 = bt467.1 then (fescuelaw03_TypesAsks.j0 k l0 t446 t453 (t466 == bt467.2)) else (fescuelaw03_TypesAsks.j0 k l0 t446 t453 false)) else (fescuelaw03_TypesAsks.j0 k l0 t446 t453 false)) else (fescuelaw03_TypesAsks.j0 k l0 t446 t453 false)) else (fescuelaw03_TypesAsks.j0 k l0 t446 t453 false)) else (fescuelaw03_TypesAsks.j0 k l0 t446 t453 false))) else (fescuelaw03_TypesAsks.j0 k l0 t446 t453 false)) else (fescuelaw03_TypesAsks.j0 k l0 t446 t453 false))) = some r := H
    have A13 := Aside0.mk A130
    clear A130
    replace H := Option.bind_eq_some_iff.mp H
    obtain ⟨⟨t467, t468⟩, A140, H⟩ := H
    replace H : (if (t449 == t451) = true then (if t450 = t452 then ((fescueref02_SameInts.f k t453 t457).bind fun t469 => (if t469 = true then (if t454 = t458 then (if t461 = t463 then (if t462 = t464 then (if t465 = t467 then (fescuelaw03_TypesAsks.j0 k l0 t446 t453 (t466 == t468)) else (fescuelaw03_TypesAsks.j0 k l0 t446 t453 false)) else (fescuelaw03_TypesAsks.j0 k l0 t446 t453 false)) else (fescuelaw03_TypesAsks.j0 k l0 t446 t453 false)) else (fescuelaw03_TypesAsks.j0 k l0 t446 t453 false)) else (fescuelaw03_TypesAsks.j0 k l0 t446 t453 false))) else (fescuelaw03_TypesAsks.j0 k l0 t446 t453 false)) else (fescuelaw03_TypesAsks.j0 k l0 t446 t453 false)) = some r := H
    have A14 := Aside0.mk A140
    clear A140
    have HC15 := Aside0.mk H
    clear H
    go_enter Try.func8, Try.ntmps8
    go_upto_region 12 with (first | ((with_reducible refine gate_callee (f := 12) rfl ?_); refine goesL_ (some 27) rfl rfl Try.func12 (by kernel_rfl) rfl #[.slice A0 l0.length c0] rfl (by (try simp only [List.map_toArray, List.map_cons, List.map_nil]); first | done | rfl | (simp only [List.length_drop, List.length_take]; rfl)) ?_; (with_reducible refine (fescueref03_Great.calls k _ _ l0 false _ ?side1 ?side2 A4.out).mono ?_); (case side1 => repeat (first | exact HR0.out | (with_reducible refine Kd.C_alloc ?_ _) | (with_reducible refine Kd.C_drewN ?_ _) | (with_reducible refine Kd.C_drew ?_))); (case side2 => exact HC0.out); rintro e w' ⟨rfl, ⟨nd, rfl⟩⟩; refine ⟨_, rfl, ?_⟩) | ((with_reducible refine gate_callee (f := 13) rfl ?_); refine goesL_ (some 29) rfl rfl Try.func13 (by kernel_rfl) rfl #[.slice A0 l0.length c0] rfl (by (try simp only [List.map_toArray, List.map_cons, List.map_nil]); first | done | rfl | (simp only [List.length_drop, List.length_take]; rfl)) ?_; (with_reducible refine (fescueref03_Twin.calls k _ _ l0 t446 _ ?side1 ?side2 A6.out).mono ?_); (case side1 => repeat (first | exact HR0.out | (with_reducible refine Kd.C_alloc ?_ _) | (with_reducible refine Kd.C_drewN ?_ _) | (with_reducible refine Kd.C_drew ?_))); (case side2 => exact HC0.out); rintro e w16 ⟨v447, rfl, ho0, hb⟩; refine ⟨_, rfl, ?_⟩; have n0_ := Aside0.mk (Kd.S_lower ho0 (below_size (by repeat (first | (with_reducible first | exact HB.out | apply below_alloc | apply pw_below_drewN | apply below_drew1) | exact HB.out)))); have n1_ := Aside0.mk (below_step (by repeat (first | (with_reducible first | exact HB.out | apply below_alloc | apply pw_below_drewN | apply below_drew1) | exact HB.out)) hb); clear HB; have HO448 := n0_; have HB := n1_; clear n0_ n1_; (try clear hb); (try clear hb2); (try clear hk); (try clear hi); (try clear ho0); obtain ⟨Ao17, co17, eo17⟩ := Kd.S_slice HO448.out; subst eo17) | ((with_reducible refine gate_callee (f := 30) rfl ?_); refine goesL_ (some 33) rfl rfl Try.func30 (by kernel_rfl) rfl #[.slice Ao17 t446.length co17, .int .i64 a1] rfl (by (try simp only [List.map_toArray, List.map_cons, List.map_nil]); first | done | rfl | (simp only [List.length_drop, List.length_take]; rfl)) ?_; (with_reducible refine (types_Scalar.calls k _ _ t446 a1 t449 t450 _ ?side1 ?side2 A7.out).mono ?_); (case side1 => repeat (first | exact (Kd.S_reads' HO448.out).2.2 | (with_reducible refine Kd.C_alloc ?_ _) | (with_reducible refine Kd.C_drewN ?_ _) | (with_reducible refine Kd.C_drew ?_))); (case side2 => exact (Kd.S_reads' HO448.out).2.1); rintro e w18 ⟨rfl, hb⟩; refine ⟨_, rfl, ?_⟩; have n0_ := Aside0.mk (Kd.S_below (by (with_reducible repeat (first | apply Kd.S_alloc | apply Kd.S_drewN | apply Kd.S_drew)); exact HO448.out) hb); have n1_ := Aside0.mk (below_step (by repeat (first | (with_reducible first | exact HB.out | apply below_alloc | apply pw_below_drewN | apply below_drew1) | exact HB.out)) hb); clear HO448; clear HB; have HO448 := n0_; have HB := n1_; clear n0_ n1_; (try clear hb); (try clear hb2); (try clear hk); (try clear hi)) | ((with_reducible refine gate_callee (f := 31) rfl ?_); refine goesL_ (some 39) rfl rfl Try.func31 (by kernel_rfl) rfl #[.slice A0 l0.length c0, .int .i64 a1] rfl (by (try simp only [List.map_toArray, List.map_cons, List.map_nil]); first | done | rfl | (simp only [List.length_drop, List.length_take]; rfl)) ?_; (with_reducible refine (fescueref03_Scalar.calls k _ _ l0 a1 t451 t452 _ ?side1 ?side2 A8.out).mono ?_); (case side1 => repeat (first | exact (Kd.C_below HR0.out HB.out) | (with_reducible refine Kd.C_alloc ?_ _) | (with_reducible refine Kd.C_drewN ?_ _) | (with_reducible refine Kd.C_drew ?_))); (case side2 => exact HC0.out); rintro e w19 ⟨rfl, hb⟩; refine ⟨_, rfl, ?_⟩; have n0_ := Aside0.mk (Kd.S_below (by (with_reducible repeat (first | apply Kd.S_alloc | apply Kd.S_drewN | apply Kd.S_drew)); exact HO448.out) hb); have n1_ := Aside0.mk (below_step (by repeat (first | (with_reducible first | exact HB.out | apply below_alloc | apply pw_below_drewN | apply below_drew1) | exact HB.out)) hb); clear HO448; clear HB; have HO448 := n0_; have HB := n1_; clear n0_ n1_; (try clear hb); (try clear hb2); (try clear hk); (try clear hi)) | ((with_reducible refine gate_callee (f := 20) rfl ?_); refine goesL_ (some 45) rfl rfl Try.func20 (by kernel_rfl) rfl #[.slice Ao17 t446.length co17, .int .i64 a1] rfl (by (try simp only [List.map_toArray, List.map_cons, List.map_nil]); first | done | rfl | (simp only [List.length_drop, List.length_take]; rfl)) ?_; (with_reducible refine (types_Cells.calls k _ _ t446 a1 t453 t454 _ ?side1 ?side2 A9.out).mono ?_); (case side1 => repeat (first | exact (Kd.S_reads' HO448.out).2.2 | (with_reducible refine Kd.C_alloc ?_ _) | (with_reducible refine Kd.C_drewN ?_ _) | (with_reducible refine Kd.C_drew ?_))); (case side2 => exact (Kd.S_reads' HO448.out).2.1); rintro e w20 ⟨v455, rfl, ho0, hb⟩; refine ⟨_, rfl, ?_⟩; have n0_ := Aside0.mk (Kd.S_elder' (by (with_reducible repeat (first | apply Kd.S_alloc | apply Kd.S_drewN | apply Kd.S_drew)); exact HO448.out) (Kd.R_base ho0) hb); have n1_ := Aside0.mk (Kd.R_lower ho0 (below_size (by repeat (first | (with_reducible first | exact HB.out | apply below_alloc | apply pw_below_drewN | apply below_drew1) | exact HB.out)))); have n2_ := Aside0.mk (below_step (by repeat (first | (with_reducible first | exact HB.out | apply below_alloc | apply pw_below_drewN | apply below_drew1) | exact HB.out)) hb); clear HO448; clear HB; have HO448 := n0_; have HO456 := n1_; have HB := n2_; clear n0_ n1_ n2_; (try clear hb); (try clear hb2); (try clear hk); (try clear hi); (try clear ho0)) | ((with_reducible refine gate_callee (f := 32) rfl ?_); refine goesL_ (some 51) rfl rfl Try.func32 (by kernel_rfl) rfl #[.slice A0 l0.length c0, .int .i64 a1] rfl (by (try simp only [List.map_toArray, List.map_cons, List.map_nil]); first | done | rfl | (simp only [List.length_drop, List.length_take]; rfl)) ?_; (with_reducible refine (fescueref03_Cells.calls k _ _ l0 a1 t457 t458 _ ?side1 ?side2 A10.out).mono ?_); (case side1 => repeat (first | exact (Kd.C_below HR0.out HB.out) | (with_reducible refine Kd.C_alloc ?_ _) | (with_reducible refine Kd.C_drewN ?_ _) | (with_reducible refine Kd.C_drew ?_))); (case side2 => exact HC0.out); rintro e w21 ⟨v459, rfl, ho0, hb⟩; refine ⟨_, rfl, ?_⟩; have n0_ := Aside0.mk (Kd.S_elder' (by (with_reducible repeat (first | apply Kd.S_alloc | apply Kd.S_drewN | apply Kd.S_drew)); exact HO448.out) (Kd.R_base ho0) hb); have n1_ := Aside0.mk (Kd.R_elder' (by (with_reducible repeat (first | apply Kd.R_alloc | apply Kd.R_drewN | apply Kd.R_drew)); exact HO456.out) (Kd.R_base ho0) hb); have n2_ := Aside0.mk (Kd.R_lower (Kd.R_new' ho0 (Kd.R_lt (by (with_reducible repeat (first | apply Kd.R_alloc | apply Kd.R_drewN | apply Kd.R_drew)); exact HO456.out))) (below_size (by repeat (first | (with_reducible first | exact HB.out | apply below_alloc | apply pw_below_drewN | apply below_drew1) | exact HB.out)))); have n3_ := Aside0.mk (below_step (by repeat (first | (with_reducible first | exact HB.out | apply below_alloc | apply pw_below_drewN | apply below_drew1) | exact HB.out)) hb); clear HO448; clear HO456; clear HB; have HO448 := n0_; have HO456 := n1_; have HO460 := n2_; have HB := n3_; clear n0_ n1_ n2_ n3_; (try clear hb); (try clear hb2); (try clear hk); (try clear hi); (try clear ho0)) | ((with_reducible refine gate_callee (f := 21) rfl ?_); refine goesL_ (some 58) rfl rfl Try.func21 (by kernel_rfl) rfl #[.slice Ao17 t446.length co17, .int .i64 a1, .int .i64 a2] rfl (by (try simp only [List.map_toArray, List.map_cons, List.map_nil]); first | done | rfl | (simp only [List.length_drop, List.length_take]; rfl)) ?_; (with_reducible refine (types_Part.calls k _ _ t446 a1 a2 t461 t462 _ ?side1 ?side2 A11.out).mono ?_); (case side1 => repeat (first | exact (Kd.S_reads' HO448.out).2.2 | (with_reducible refine Kd.C_alloc ?_ _) | (with_reducible refine Kd.C_drewN ?_ _) | (with_reducible refine Kd.C_drew ?_))); (case side2 => exact (Kd.S_reads' HO448.out).2.1); rintro e w22 ⟨rfl, hb⟩; refine ⟨_, rfl, ?_⟩; have n0_ := Aside0.mk (Kd.S_below (by (with_reducible repeat (first | apply Kd.S_alloc | apply Kd.S_drewN | apply Kd.S_drew)); exact HO448.out) hb); have n1_ := Aside0.mk (Kd.R_below (by (with_reducible repeat (first | apply Kd.R_alloc | apply Kd.R_drewN | apply Kd.R_drew)); exact HO456.out) hb); have n2_ := Aside0.mk (Kd.R_below (by (with_reducible repeat (first | apply Kd.R_alloc | apply Kd.R_drewN | apply Kd.R_drew)); exact HO460.out) hb); have n3_ := Aside0.mk (below_step (by repeat (first | (with_reducible first | exact HB.out | apply below_alloc | apply pw_below_drewN | apply below_drew1) | exact HB.out)) hb); clear HO448; clear HO456; clear HO460; clear HB; have HO448 := n0_; have HO456 := n1_; have HO460 := n2_; have HB := n3_; clear n0_ n1_ n2_ n3_; (try clear hb); (try clear hb2); (try clear hk); (try clear hi)) | ((with_reducible refine gate_callee (f := 33) rfl ?_); refine goesL_ (some 65) rfl rfl Try.func33 (by kernel_rfl) rfl #[.slice A0 l0.length c0, .int .i64 a1, .int .i64 a2] rfl (by (try simp only [List.map_toArray, List.map_cons, List.map_nil]); first | done | rfl | (simp only [List.length_drop, List.length_take]; rfl)) ?_; (with_reducible refine (fescueref03_Part.calls k _ _ l0 a1 a2 t463 t464 _ ?side1 ?side2 A12.out).mono ?_); (case side1 => repeat (first | exact (Kd.C_below HR0.out HB.out) | (with_reducible refine Kd.C_alloc ?_ _) | (with_reducible refine Kd.C_drewN ?_ _) | (with_reducible refine Kd.C_drew ?_))); (case side2 => exact HC0.out); rintro e w23 ⟨rfl, hb⟩; refine ⟨_, rfl, ?_⟩; have n0_ := Aside0.mk (Kd.S_below (by (with_reducible repeat (first | apply Kd.S_alloc | apply Kd.S_drewN | apply Kd.S_drew)); exact HO448.out) hb); have n1_ := Aside0.mk (Kd.R_below (by (with_reducible repeat (first | apply Kd.R_alloc | apply Kd.R_drewN | apply Kd.R_drew)); exact HO456.out) hb); have n2_ := Aside0.mk (Kd.R_below (by (with_reducible repeat (first | apply Kd.R_alloc | apply Kd.R_drewN | apply Kd.R_drew)); exact HO460.out) hb); have n3_ := Aside0.mk (below_step (by repeat (first | (with_reducible first | exact HB.out | apply below_alloc | apply pw_below_drewN | apply below_drew1) | exact HB.out)) hb); clear HO448; clear HO456; clear HO460; clear HB; have HO448 := n0_; have HO456 := n1_; have HO460 := n2_; have HB := n3_; clear n0_ n1_ n2_ n3_; (try clear hb); (try clear hb2); (try clear hk); (try clear hi)) | ((with_reducible refine gate_callee (f := 22) rfl ?_); refine goesL_ (some 72) rfl rfl Try.func22 (by kernel_rfl) rfl #[.slice Ao17 t446.length co17, .int .i64 a1, .int .i64 a2] rfl (by (try simp only [List.map_toArray, List.map_cons, List.map_nil]); first | done | rfl | (simp only [List.length_drop, List.length_take]; rfl)) ?_; (with_reducible refine (types_Offset.calls k _ _ t446 a1 a2 t465 t466 _ ?side1 ?side2 A13.out).mono ?_); (case side1 => repeat (first | exact (Kd.S_reads' HO448.out).2.2 | (with_reducible refine Kd.C_alloc ?_ _) | (with_reducible refine Kd.C_drewN ?_ _) | (with_reducible refine Kd.C_drew ?_))); (case side2 => exact (Kd.S_reads' HO448.out).2.1); rintro e w24 ⟨rfl, hb⟩; refine ⟨_, rfl, ?_⟩; have n0_ := Aside0.mk (Kd.S_below (by (with_reducible repeat (first | apply Kd.S_alloc | apply Kd.S_drewN | apply Kd.S_drew)); exact HO448.out) hb); have n1_ := Aside0.mk (Kd.R_below (by (with_reducible repeat (first | apply Kd.R_alloc | apply Kd.R_drewN | apply Kd.R_drew)); exact HO456.out) hb); have n2_ := Aside0.mk (Kd.R_below (by (with_reducible repeat (first | apply Kd.R_alloc | apply Kd.R_drewN | apply Kd.R_drew)); exact HO460.out) hb); have n3_ := Aside0.mk (below_step (by repeat (first | (with_reducible first | exact HB.out | apply below_alloc | apply pw_below_drewN | apply below_drew1) | exact HB.out)) hb); clear HO448; clear HO456; clear HO460; clear HB; have HO448 := n0_; have HO456 := n1_; have HO460 := n2_; have HB := n3_; clear n0_ n1_ n2_ n3_; (try clear hb); (try clear hb2); (try clear hk); (try clear hi)) | ((with_reducible refine gate_callee (f := 34) rfl ?_); refine goesL_ (some 79) rfl rfl Try.func34 (by kernel_rfl) rfl #[.slice A0 l0.length c0, .int .i64 a1, .int .i64 a2] rfl (by (try simp only [List.map_toArray, List.map_cons, List.map_nil]); first | done | rfl | (simp only [List.length_drop, List.length_take]; rfl)) ?_; (with_reducible refine (fescueref03_Offset.calls k _ _ l0 a1 a2 t467 t468 _ ?side1 ?side2 A14.out).mono ?_); (case side1 => repeat (first | exact (Kd.C_below HR0.out HB.out) | (with_reducible refine Kd.C_alloc ?_ _) | (with_reducible refine Kd.C_drewN ?_ _) | (with_reducible refine Kd.C_drew ?_))); (case side2 => exact HC0.out); rintro e w25 ⟨rfl, hb⟩; refine ⟨_, rfl, ?_⟩; have n0_ := Aside0.mk (Kd.S_below (by (with_reducible repeat (first | apply Kd.S_alloc | apply Kd.S_drewN | apply Kd.S_drew)); exact HO448.out) hb); have n1_ := Aside0.mk (Kd.R_below (by (with_reducible repeat (first | apply Kd.R_alloc | apply Kd.R_drewN | apply Kd.R_drew)); exact HO456.out) hb); have n2_ := Aside0.mk (Kd.R_below (by (with_reducible repeat (first | apply Kd.R_alloc | apply Kd.R_drewN | apply Kd.R_drew)); exact HO460.out) hb); have n3_ := Aside0.mk (below_step (by repeat (first | (with_reducible first | exact HB.out | apply below_alloc | apply pw_below_drewN | apply below_drew1) | exact HB.out)) hb); clear HO448; clear HO456; clear HO460; clear HB; have HO448 := n0_; have HO456 := n1_; have HO460 := n2_; have HB := n3_; clear n0_ n1_ n2_ n3_; (try clear hb); (try clear hb2); (try clear hk); (try clear hi)))
    (try simp only [Act.put, List.setIfInBounds_toArray, List.set_cons_zero, List.set_cons_succ])
    go_cut [24] (fun v24 wc => ∃ (kq : Nat) (x24_14 : Bool), v24 = .bool x24_14 ∧ Aside0 (fescuelaw03_TypesAsks.j0 kq l0 t446 t453 x24_14 = some r) ∧ Aside0 (kq ≤ k) ∧ Aside0 (Kd.S k31 31 wc w.heap.size (fun k_ => some k_ ≠ (v455 : Value).ownBlock) (.slice Ao17 t446.length co17) t446) ∧ Aside0 (Kd.R (Kd.int .i64) 3 wc w.heap.size (fun _ => True) v455 t453) ∧ Aside0 (Below w.heap.size w wc))
    case first =>
      have H := HC15.out
      clear HC15
      by_cases c26 : (t449 == t451) = true
      · rw [if_pos c26] at H
        have c26b0 : (t449 == t451) = true := c26
        (try (have c26b1 : decide (t449 = t451) = true := by simpa using c26))
        (try (have c26b2 : (t449 == t451) = true := by simpa using c26))
        clear c26
        (first | rw [c26b0] | (simp only [i64_w, i32_w]; rw [c26b0]) | skip)
        by_cases c27 : t450 = t452
        · rw [if_pos c27] at H
          have c27b0 : (t450 == t452) = true := beq_iff_eq.mpr c27
          have c27b1 : (t450 != t452) = false := bne_eq_false_iff_eq.mpr c27
          clear c27
          replace H := Option.bind_eq_some_iff.mp H
          obtain ⟨t469, A280, H⟩ := H
          replace H : (if t469 = true then (if t454 = t458 then (if t461 = t463 then (if t462 = t464 then (if t465 = t467 then (fescuelaw03_TypesAsks.j0 k l0 t446 t453 (t466 == t468)) else (fescuelaw03_TypesAsks.j0 k l0 t446 t453 false)) else (fescuelaw03_TypesAsks.j0 k l0 t446 t453 false)) else (fescuelaw03_TypesAsks.j0 k l0 t446 t453 false)) else (fescuelaw03_TypesAsks.j0 k l0 t446 t453 false)) else (fescuelaw03_TypesAsks.j0 k l0 t446 t453 false)) = some r := H
          have A28 := Aside0.mk A280
          clear A280
          by_cases c29 : t469 = true
          · subst c29
            have H1 : (if t454 = t458 then (if t461 = t463 then (if t462 = t464 then (if t465 = t467 then (fescuelaw03_TypesAsks.j0 k l0 t446 t453 (t466 == t468)) else (fescuelaw03_TypesAsks.j0 k l0 t446 t453 false)) else (fescuelaw03_TypesAsks.j0 k l0 t446 t453 false)) else (fescuelaw03_TypesAsks.j0 k l0 t446 t453 false)) else (fescuelaw03_TypesAsks.j0 k l0 t446 t453 false)) = some r := by rw [if_pos rfl] at H; exact H
            clear H
            have H := H1
            clear H1
            by_cases c30 : t454 = t458
            · rw [if_pos c30] at H
              have c30b0 : (t454 == t458) = true := beq_iff_eq.mpr c30
              have c30b1 : (t454 != t458) = false := bne_eq_false_iff_eq.mpr c30
              clear c30
              by_cases c31 : t461 = t463
              · rw [if_pos c31] at H
                have c31b0 : (t461 == t463) = true := beq_iff_eq.mpr c31
                have c31b1 : (t461 != t463) = false := bne_eq_false_iff_eq.mpr c31
                clear c31
                by_cases c32 : t462 = t464
                · rw [if_pos c32] at H
                  have c32b0 : (t462 == t464) = true := beq_iff_eq.mpr c32
                  have c32b1 : (t462 != t464) = false := bne_eq_false_iff_eq.mpr c32
                  clear c32
                  by_cases c33 : t465 = t467
                  · rw [if_pos c33] at H
                    have c33b0 : (t465 == t467) = true := beq_iff_eq.mpr c33
                    have c33b1 : (t465 != t467) = false := bne_eq_false_iff_eq.mpr c33
                    clear c33
                    have H' := Aside0.mk H
                    clear H
                    obtain ⟨Ao34, co34, eo34⟩ := Kd.R_slice HO456.out
                    subst eo34
                    obtain ⟨Ao35, co35, eo35⟩ := Kd.R_slice HO460.out
                    subst eo35
                    go_wp2_with (first | (go_at_call 23; (with_reducible refine (fescueref02_SameInts.calls k _ _ t453 _ _ t457 true _ ?side1 ?side2 ?side3 ?side4 A28.out).mono ?_); (case side1 => repeat (first | exact (Kd.R_reads' HO456.out).2.2 | (with_reducible refine Kd.C_alloc ?_ _) | (with_reducible refine Kd.C_drewN ?_ _) | (with_reducible refine Kd.C_drew ?_))); (case side2 => exact (Kd.R_reads' HO456.out).2.1); (case side3 => repeat (first | exact (Kd.R_reads' HO460.out).2.2 | (with_reducible refine Kd.C_alloc ?_ _) | (with_reducible refine Kd.C_drewN ?_ _) | (with_reducible refine Kd.C_drew ?_))); (case side4 => exact (Kd.R_reads' HO460.out).2.1); rintro e w' ⟨rfl, ⟨nd, rfl⟩⟩))
                    go_meet
                    case rel => exact ⟨_, ((t466 == t468)), (by first | rfl | (simp; done) | (simp [*]; done)), H', ⟨by first | omega | exact Nat.le_refl _⟩, ⟨by (with_reducible repeat (first | apply Kd.S_alloc | apply Kd.S_drewN | apply Kd.S_drew)); exact Kd.S_mono HO448.out (fun _ hk => hk.1.2)⟩, ⟨by (with_reducible repeat (first | apply Kd.R_alloc | apply Kd.R_drewN | apply Kd.R_drew)); exact Kd.R_mono HO456.out (fun _ hk => trivial)⟩, ⟨by repeat (first | (with_reducible first | exact HB.out | apply below_alloc | apply pw_below_drewN | apply below_drew1) | exact HB.out)⟩⟩
                  · rw [if_neg c33] at H
                    have c33b0 : (t465 == t467) = false := beq_eq_false_iff_ne.mpr c33
                    have c33b1 : (t465 != t467) = true := bne_iff_ne.mpr c33
                    have H' := Aside0.mk H
                    clear H
                    obtain ⟨Ao36, co36, eo36⟩ := Kd.R_slice HO456.out
                    subst eo36
                    obtain ⟨Ao37, co37, eo37⟩ := Kd.R_slice HO460.out
                    subst eo37
                    go_wp2_with (first | (go_at_call 23; (with_reducible refine (fescueref02_SameInts.calls k _ _ t453 _ _ t457 true _ ?side1 ?side2 ?side3 ?side4 A28.out).mono ?_); (case side1 => repeat (first | exact (Kd.R_reads' HO456.out).2.2 | (with_reducible refine Kd.C_alloc ?_ _) | (with_reducible refine Kd.C_drewN ?_ _) | (with_reducible refine Kd.C_drew ?_))); (case side2 => exact (Kd.R_reads' HO456.out).2.1); (case side3 => repeat (first | exact (Kd.R_reads' HO460.out).2.2 | (with_reducible refine Kd.C_alloc ?_ _) | (with_reducible refine Kd.C_drewN ?_ _) | (with_reducible refine Kd.C_drew ?_))); (case side4 => exact (Kd.R_reads' HO460.out).2.1); rintro e w' ⟨rfl, ⟨nd, rfl⟩⟩))
                    go_meet
                    case rel => exact ⟨_, (false), (by first | rfl | (simp; done) | (simp [*]; done)), H', ⟨by first | omega | exact Nat.le_refl _⟩, ⟨by (with_reducible repeat (first | apply Kd.S_alloc | apply Kd.S_drewN | apply Kd.S_drew)); exact Kd.S_mono HO448.out (fun _ hk => hk.1.2)⟩, ⟨by (with_reducible repeat (first | apply Kd.R_alloc | apply Kd.R_drewN | apply Kd.R_drew)); exact Kd.R_mono HO456.out (fun _ hk => trivial)⟩, ⟨by repeat (first | (with_reducible first | exact HB.out | apply below_alloc | apply pw_below_drewN | apply below_drew1) | exact HB.out)⟩⟩
                · rw [if_neg c32] at H
                  have c32b0 : (t462 == t464) = false := beq_eq_false_iff_ne.mpr c32
                  have c32b1 : (t462 != t464) = true := bne_iff_ne.mpr c32
                  have H' := Aside0.mk H
                  clear H
                  obtain ⟨Ao38, co38, eo38⟩ := Kd.R_slice HO456.out
                  subst eo38
                  obtain ⟨Ao39, co39, eo39⟩ := Kd.R_slice HO460.out
                  subst eo39
                  go_wp2_with (first | (go_at_call 23; (with_reducible refine (fescueref02_SameInts.calls k _ _ t453 _ _ t457 true _ ?side1 ?side2 ?side3 ?side4 A28.out).mono ?_); (case side1 => repeat (first | exact (Kd.R_reads' HO456.out).2.2 | (with_reducible refine Kd.C_alloc ?_ _) | (with_reducible refine Kd.C_drewN ?_ _) | (with_reducible refine Kd.C_drew ?_))); (case side2 => exact (Kd.R_reads' HO456.out).2.1); (case side3 => repeat (first | exact (Kd.R_reads' HO460.out).2.2 | (with_reducible refine Kd.C_alloc ?_ _) | (with_reducible refine Kd.C_drewN ?_ _) | (with_reducible refine Kd.C_drew ?_))); (case side4 => exact (Kd.R_reads' HO460.out).2.1); rintro e w' ⟨rfl, ⟨nd, rfl⟩⟩))
                  go_meet
                  case rel => exact ⟨_, (false), (by first | rfl | (simp; done) | (simp [*]; done)), H', ⟨by first | omega | exact Nat.le_refl _⟩, ⟨by (with_reducible repeat (first | apply Kd.S_alloc | apply Kd.S_drewN | apply Kd.S_drew)); exact Kd.S_mono HO448.out (fun _ hk => hk.1.2)⟩, ⟨by (with_reducible repeat (first | apply Kd.R_alloc | apply Kd.R_drewN | apply Kd.R_drew)); exact Kd.R_mono HO456.out (fun _ hk => trivial)⟩, ⟨by repeat (first | (with_reducible first | exact HB.out | apply below_alloc | apply pw_below_drewN | apply below_drew1) | exact HB.out)⟩⟩
              · rw [if_neg c31] at H
                have c31b0 : (t461 == t463) = false := beq_eq_false_iff_ne.mpr c31
                have c31b1 : (t461 != t463) = true := bne_iff_ne.mpr c31
                have H' := Aside0.mk H
                clear H
                obtain ⟨Ao40, co40, eo40⟩ := Kd.R_slice HO456.out
                subst eo40
                obtain ⟨Ao41, co41, eo41⟩ := Kd.R_slice HO460.out
                subst eo41
                go_wp2_with (first | (go_at_call 23; (with_reducible refine (fescueref02_SameInts.calls k _ _ t453 _ _ t457 true _ ?side1 ?side2 ?side3 ?side4 A28.out).mono ?_); (case side1 => repeat (first | exact (Kd.R_reads' HO456.out).2.2 | (with_reducible refine Kd.C_alloc ?_ _) | (with_reducible refine Kd.C_drewN ?_ _) | (with_reducible refine Kd.C_drew ?_))); (case side2 => exact (Kd.R_reads' HO456.out).2.1); (case side3 => repeat (first | exact (Kd.R_reads' HO460.out).2.2 | (with_reducible refine Kd.C_alloc ?_ _) | (with_reducible refine Kd.C_drewN ?_ _) | (with_reducible refine Kd.C_drew ?_))); (case side4 => exact (Kd.R_reads' HO460.out).2.1); rintro e w' ⟨rfl, ⟨nd, rfl⟩⟩))
                go_meet
                case rel => exact ⟨_, (false), (by first | rfl | (simp; done) | (simp [*]; done)), H', ⟨by first | omega | exact Nat.le_refl _⟩, ⟨by (with_reducible repeat (first | apply Kd.S_alloc | apply Kd.S_drewN | apply Kd.S_drew)); exact Kd.S_mono HO448.out (fun _ hk => hk.1.2)⟩, ⟨by (with_reducible repeat (first | apply Kd.R_alloc | apply Kd.R_drewN | apply Kd.R_drew)); exact Kd.R_mono HO456.out (fun _ hk => trivial)⟩, ⟨by repeat (first | (with_reducible first | exact HB.out | apply below_alloc | apply pw_below_drewN | apply below_drew1) | exact HB.out)⟩⟩
            · rw [if_neg c30] at H
              have c30b0 : (t454 == t458) = false := beq_eq_false_iff_ne.mpr c30
              have c30b1 : (t454 != t458) = true := bne_iff_ne.mpr c30
              have H' := Aside0.mk H
              clear H
              obtain ⟨Ao42, co42, eo42⟩ := Kd.R_slice HO456.out
              subst eo42
              obtain ⟨Ao43, co43, eo43⟩ := Kd.R_slice HO460.out
              subst eo43
              go_wp2_with (first | (go_at_call 23; (with_reducible refine (fescueref02_SameInts.calls k _ _ t453 _ _ t457 true _ ?side1 ?side2 ?side3 ?side4 A28.out).mono ?_); (case side1 => repeat (first | exact (Kd.R_reads' HO456.out).2.2 | (with_reducible refine Kd.C_alloc ?_ _) | (with_reducible refine Kd.C_drewN ?_ _) | (with_reducible refine Kd.C_drew ?_))); (case side2 => exact (Kd.R_reads' HO456.out).2.1); (case side3 => repeat (first | exact (Kd.R_reads' HO460.out).2.2 | (with_reducible refine Kd.C_alloc ?_ _) | (with_reducible refine Kd.C_drewN ?_ _) | (with_reducible refine Kd.C_drew ?_))); (case side4 => exact (Kd.R_reads' HO460.out).2.1); rintro e w' ⟨rfl, ⟨nd, rfl⟩⟩))
              go_meet
              case rel => exact ⟨_, (false), (by first | rfl | (simp; done) | (simp [*]; done)), H', ⟨by first | omega | exact Nat.le_refl _⟩, ⟨by (with_reducible repeat (first | apply Kd.S_alloc | apply Kd.S_drewN | apply Kd.S_drew)); exact Kd.S_mono HO448.out (fun _ hk => hk.1.2)⟩, ⟨by (with_reducible repeat (first | apply Kd.R_alloc | apply Kd.R_drewN | apply Kd.R_drew)); exact Kd.R_mono HO456.out (fun _ hk => trivial)⟩, ⟨by repeat (first | (with_reducible first | exact HB.out | apply below_alloc | apply pw_below_drewN | apply below_drew1) | exact HB.out)⟩⟩
          · replace c29 := Bool.eq_false_iff.mpr c29
            subst c29
            have H1 : (fescuelaw03_TypesAsks.j0 k l0 t446 t453 false) = some r := by rw [if_neg (show ¬ (false = true) by decide)] at H; exact H
            clear H
            have H := H1
            clear H1
            have H' := Aside0.mk H
            clear H
            obtain ⟨Ao44, co44, eo44⟩ := Kd.R_slice HO456.out
            subst eo44
            obtain ⟨Ao45, co45, eo45⟩ := Kd.R_slice HO460.out
            subst eo45
            go_wp2_with (first | (go_at_call 23; (with_reducible refine (fescueref02_SameInts.calls k _ _ t453 _ _ t457 false _ ?side1 ?side2 ?side3 ?side4 A28.out).mono ?_); (case side1 => repeat (first | exact (Kd.R_reads' HO456.out).2.2 | (with_reducible refine Kd.C_alloc ?_ _) | (with_reducible refine Kd.C_drewN ?_ _) | (with_reducible refine Kd.C_drew ?_))); (case side2 => exact (Kd.R_reads' HO456.out).2.1); (case side3 => repeat (first | exact (Kd.R_reads' HO460.out).2.2 | (with_reducible refine Kd.C_alloc ?_ _) | (with_reducible refine Kd.C_drewN ?_ _) | (with_reducible refine Kd.C_drew ?_))); (case side4 => exact (Kd.R_reads' HO460.out).2.1); rintro e w' ⟨rfl, ⟨nd, rfl⟩⟩))
            go_meet
            case rel => exact ⟨_, (false), (by first | rfl | (simp; done) | (simp [*]; done)), H', ⟨by first | omega | exact Nat.le_refl _⟩, ⟨by (with_reducible repeat (first | apply Kd.S_alloc | apply Kd.S_drewN | apply Kd.S_drew)); exact Kd.S_mono HO448.out (fun _ hk => hk.1.2)⟩, ⟨by (with_reducible repeat (first | apply Kd.R_alloc | apply Kd.R_drewN | apply Kd.R_drew)); exact Kd.R_mono HO456.out (fun _ hk => trivial)⟩, ⟨by repeat (first | (with_reducible first | exact HB.out | apply below_alloc | apply pw_below_drewN | apply below_drew1) | exact HB.out)⟩⟩
        · rw [if_neg c27] at H
          have c27b0 : (t450 == t452) = false := beq_eq_false_iff_ne.mpr c27
          have c27b1 : (t450 != t452) = true := bne_iff_ne.mpr c27
          have H' := Aside0.mk H
          clear H
          go_wp2
          go_meet
          case rel => exact ⟨_, (false), (by first | rfl | (simp; done) | (simp [*]; done)), H', ⟨by first | omega | exact Nat.le_refl _⟩, ⟨by (with_reducible repeat (first | apply Kd.S_alloc | apply Kd.S_drewN | apply Kd.S_drew)); exact Kd.S_mono HO448.out (fun _ hk => hk.1.2)⟩, ⟨by (with_reducible repeat (first | apply Kd.R_alloc | apply Kd.R_drewN | apply Kd.R_drew)); exact Kd.R_mono HO456.out (fun _ hk => trivial)⟩, ⟨by repeat (first | (with_reducible first | exact HB.out | apply below_alloc | apply pw_below_drewN | apply below_drew1) | exact HB.out)⟩⟩
      · rw [if_neg c26] at H
        have c26b0 : (t449 == t451) = false := by simpa using c26
        (try (have c26b1 : decide (t449 = t451) = false := by simpa using c26))
        (try (have c26b2 : (t449 == t451) = false := by simpa using c26))
        (try (have c26b3 : ¬ (t449 = t451) := by simpa using c26))
        clear c26
        (first | rw [c26b0] | (simp only [i64_w, i32_w]; rw [c26b0]) | skip)
        have H' := Aside0.mk H
        clear H
        go_wp2
        go_meet
        case rel => exact ⟨_, (false), (by first | rfl | (simp; done) | (simp [*]; done)), H', ⟨by first | omega | exact Nat.le_refl _⟩, ⟨by (with_reducible repeat (first | apply Kd.S_alloc | apply Kd.S_drewN | apply Kd.S_drew)); exact Kd.S_mono HO448.out (fun _ hk => hk.1.2)⟩, ⟨by (with_reducible repeat (first | apply Kd.R_alloc | apply Kd.R_drewN | apply Kd.R_drew)); exact Kd.R_mono HO456.out (fun _ hk => trivial)⟩, ⟨by repeat (first | (with_reducible first | exact HB.out | apply below_alloc | apply pw_below_drewN | apply below_drew1) | exact HB.out)⟩⟩
    case rest =>
      clear HC15
      try clear c1
      try clear c2
      try clear p2
      try clear c3
      try clear c5
      try clear c8
      try clear c12
      try clear c13
      try clear c20
      try clear c21
      try clear c22
      try clear c26
      try clear c26b0
      try clear c26b1
      try clear c26b2
      try clear c27
      try clear c27b0
      try clear c27b1
      try clear c29
      try clear c30
      try clear c30b0
      try clear c30b1
      try clear c31
      try clear c31b0
      try clear c31b1
      try clear c32
      try clear c32b0
      try clear c32b1
      try clear c33
      try clear c33b0
      try clear c33b1
      try clear c34
      obtain ⟨kq, x24_14, rfl, HA, HJ14, HO_7, HO_12, HB⟩ := hcut
      cases kq with
      | zero => exact absurd HA.out (by simp [fescuelaw03_TypesAsks.j0])
      | succ kj14 =>
        have H := HA.out
        clear HA
        simp only [fescuelaw03_TypesAsks.j0] at H
        have H' := Aside0.mk H
        clear H
        go_wp2
        go_loopg [25] kj14 (fun kq v25 w' => ∃ (x12_2 : List Int) (x25_2 : Int), v25 = .int .i64 x25_2 ∧ Aside0 (fescuelaw03_TypesAsks.l0 kq l0 t446 x12_2 x24_14 x25_2 = some r) ∧ Aside0 (kq ≤ kj14) ∧ Aside0 (Kd.S k31 31 w' w.heap.size (fun k_ => some k_ ≠ (v455 : Value).ownBlock) (.slice Ao17 t446.length co17) t446) ∧ Aside0 (Kd.R (Kd.int .i64) 3 w' w.heap.size (fun _ => True) v455 x12_2) ∧ Aside0 (Below w.heap.size w w'))
        case atStart => exact ⟨(t453), (0), (by first | rfl | (simp; done) | (simp [*]; done)), H', ⟨Nat.le_refl _⟩, ⟨by (with_reducible repeat (first | apply Kd.S_alloc | apply Kd.S_drewN | apply Kd.S_drew)); exact HO_7.out⟩, ⟨by (with_reducible repeat (first | apply Kd.R_alloc | apply Kd.R_drewN | apply Kd.R_drew)); exact HO_12.out⟩, ⟨by repeat (first | (with_reducible first | exact HB.out | apply below_alloc | apply pw_below_drewN | apply below_drew1) | exact HB.out)⟩⟩
        case round =>
          clear H'
          try clear c1
          try clear c2
          try clear p2
          try clear c3
          try clear c5
          try clear c8
          try clear c12
          try clear c13
          try clear c20
          try clear c21
          try clear c22
          try clear c26
          try clear c26b0
          try clear c26b1
          try clear c26b2
          try clear c27
          try clear c27b0
          try clear c27b1
          try clear c29
          try clear c30
          try clear c30b0
          try clear c30b1
          try clear c31
          try clear c31b0
          try clear c31b1
          try clear c32
          try clear c32b0
          try clear c32b1
          try clear c33
          try clear c33b0
          try clear c33b1
          try clear c34
          try clear p2
          obtain ⟨x12_2, x25_2, rfl, HA, HK2, HO_7, HO_12, HB⟩ := hrel
          cases gk with
          | zero => exact absurd HA.out (by simp [fescuelaw03_TypesAsks.l0])
          | succ k2 =>
            have H := HA.out
            clear HA
            simp only [fescuelaw03_TypesAsks.l0] at H
            by_cases c46 : x25_2 < (x12_2.length : Int)
            · rw [if_pos c46] at H
              have c46b0 : decide (x25_2 < (x12_2.length : Int)) = true := decide_eq_true c46
              clear c46
              by_cases c47 : 0 ≤ x25_2
              · rw [if_pos c47] at H
                have c47b0 : decide (0 ≤ x25_2) = true := decide_eq_true c47
                clear c47
                obtain ⟨y470, hy470⟩ : ∃ y_ : List Int, y_ = (x12_2.set (x25_2 : Int).toNat (-7)) := ⟨_, rfl⟩
                replace H : (fescuelaw03_TypesAsks.l0 k2 l0 t446 y470 x24_14 (wrap64 (x25_2 + 1))) = some r := by first | (rw [hy470]; with_reducible exact H) | (have H2_ := (Option.bind_some _ _).symm.trans H; rw [hy470]; with_reducible exact H2_) | (have H2_ := (Option.bind_some _ _).symm.trans H; with_reducible exact H2_) | with_reducible exact H | (rw [hy470]; exact H) | exact H
                have Ny470 := Aside0.mk hy470
                clear hy470
                have H' := Aside0.mk H
                clear H
                obtain ⟨Ao49, co49, eo49⟩ := Kd.R_slice HO_12.out
                subst eo49
                have p48 : 0 ≤ (x25_2 : Int) := of_decide_eq_true (by first | (with_reducible assumption) | assumption)
                have q48 : (x25_2 : Int) < ((x12_2.length : Int) : Int) := of_decide_eq_true (by first | (with_reducible assumption) | assumption)
                obtain ⟨go48, co48, eo48, gb48, gl48, cl48, HG48⟩ := Kd.R_form HO_12.out (by omega)
                (first | cases eo48 | (injection eo48 with ea_ en_ ec_; (first | subst ea_ | (injection ea_ with ea_; subst ea_)); subst ec_; clear en_))
                have GB48 := Aside0.mk gb48
                have GG48 := Aside0.mk HG48
                clear gb48 gl48 HG48
                obtain ⟨hx48_0, hf48_0⟩ := Kd.R_celln 0 HO_12.out (x25_2 : Int) p48 q48
                replace p48 := eq_true p48
                replace q48 := eq_true q48
                have HP50 := Kd.R_putg HO_12.out (x25_2 : Int) (-7)
                go_wp2_with (first | ((with_reducible refine gate_store (t := 3) (p := 128) rfl ?_); refine store_event (t := 3) (p := 128) (v := ?vo_w51) (w1 := (wr.setCell ⟨go48, (x25_2 : Int).toNat, none⟩ (.int .i64 (-7)))) ?hg ?ho ?hn ?hr ?_; (case ho => rfl); (case hg => rfl); (case hn => rfl); (case hr => first | (go_simp; done) | (go_simp; rfl)); intro w51 hw; have hg : wr.grownBy w51 (some go48) := (by rw [hw]; exact HP50.2); have hp_ : Kd.R (Kd.int .i64) 3 w51 w.heap.size (fun _ => True) (.slice (some ⟨go48, 0, none⟩) x12_2.length co49) y470 := (by rw [hw, Ny470.out]; exact HP50.1); clear HP50; have n0_ := Aside0.mk (Kd.S_after (v := (.slice (some ⟨go48, 0, none⟩) x12_2.length co49)) (v1 := (.slice (some ⟨go48, 0, none⟩) x12_2.length co49)) (ok := (fun _ => True)) (by (with_reducible repeat (first | apply Kd.S_alloc | apply Kd.S_drewN | apply Kd.S_drew)); exact Kd.S_mono HO_7.out (fun _ hk => ⟨trivial, hk⟩)) hg (.inl rfl)); have n1_ := Aside0.mk (hp_); have n2_ := Aside0.mk ((by rw [hw]; exact below_set (HB.out) GB48.out : Below w.heap.size w w51)); clear HO_7; clear HO_12; clear HB; have HO_7 := n0_; have HO_12 := n1_; have HB := n2_; clear n0_ n1_ n2_; clear hg hw hp_))
                go_roundg k2
                case measure => have := HJ14.out; have := HK2.out; omega
                case rel => exact ⟨(y470), (wrap64 (x25_2 + 1)), (by first | rfl | (simp; done) | (simp [*]; done)), H', ⟨by have := HJ14.out; have := HK2.out; omega⟩, ⟨by (with_reducible repeat (first | apply Kd.S_alloc | apply Kd.S_drewN | apply Kd.S_drew)); exact Kd.S_mono HO_7.out (fun _ hk => hk.2)⟩, ⟨by (with_reducible repeat (first | apply Kd.R_alloc | apply Kd.R_drewN | apply Kd.R_drew)); exact HO_12.out⟩, ⟨by repeat (first | (with_reducible first | exact HB.out | apply below_alloc | apply pw_below_drewN | apply below_drew1) | exact HB.out)⟩⟩
              · rw [if_neg c47] at H
                exact absurd H (by simp)
            · rw [if_neg c46] at H
              have c46b0 : decide (x25_2 < (x12_2.length : Int)) = false := decide_eq_false c46
              clear c46
              by_cases c52 : x24_14 = true
              · subst c52
                have H1 : ((fescueref03_Same.f k2 t446 l0).bind fun t471 => (some t471)) = some r := by rw [if_pos rfl] at H; exact H
                clear H
                have H := H1
                clear H1
                replace H := Option.bind_eq_some_iff.mp H
                obtain ⟨t471, A530, H⟩ := H
                replace H : (some t471) = some r := H
                have A53 := Aside0.mk A530
                clear A530
                obtain rfl := Option.some.inj H
                obtain ⟨Ao54, co54, eo54⟩ := Kd.R_slice HO_12.out
                subst eo54
                go_wp2_with (first | (go_at_call 18; (with_reducible refine (fescueref03_Same.calls k2 _ _ t446 _ _ l0 t471 _ ?side1 ?side2 ?side3 ?side4 A53.out).mono ?_); (case side1 => repeat (first | exact (Kd.S_reads' HO_7.out).2.2 | (with_reducible refine Kd.C_alloc ?_ _) | (with_reducible refine Kd.C_drewN ?_ _) | (with_reducible refine Kd.C_drew ?_))); (case side2 => exact (Kd.S_reads' HO_7.out).2.1); (case side3 => repeat (first | exact (Kd.C_below HR0.out HB.out) | (with_reducible refine Kd.C_alloc ?_ _) | (with_reducible refine Kd.C_drewN ?_ _) | (with_reducible refine Kd.C_drew ?_))); (case side4 => exact HC0.out); rintro e w' ⟨rfl, ⟨nd, rfl⟩⟩))
                go_ret
                exact ⟨by first | rfl | (simp [errW_none, errW_some] <;> rfl) | (simp [*, errW_none, errW_some] <;> rfl), by repeat (first | (with_reducible first | exact HB.out | apply below_alloc | apply pw_below_drewN | apply below_drew1) | exact HB.out)⟩
              · replace c52 := Bool.eq_false_iff.mpr c52
                subst c52
                have H1 : (some false) = some r := by rw [if_neg (show ¬ (false = true) by decide)] at H; exact H
                clear H
                have H := H1
                clear H1
                obtain rfl := Option.some.inj H
                obtain ⟨Ao55, co55, eo55⟩ := Kd.R_slice HO_12.out
                subst eo55
                go_wp2
                go_ret
                exact ⟨by first | rfl | (simp [errW_none, errW_some] <;> rfl) | (simp [*, errW_none, errW_some] <;> rfl), by repeat (first | (with_reducible first | exact HB.out | apply below_alloc | apply pw_below_drewN | apply below_drew1) | exact HB.out)⟩

end Go.Proofs.Ytfjmpfecnemoiaa.Q
