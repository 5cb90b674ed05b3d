-- Printed by wip/myprint.py (a wrapper of this claim's session over the kit's print.py) out of the translation; Lean checks it.
import Derived.Test.YtfjmpfecnemoiaaQx0
import Derived.Test.YtfjmpfecnemoiaaQx1
import Derived.Test.YtfjmpfecnemoiaaQx4
import Derived.Test.YtfjmpfecnemoiaaQx5
import Derived.Test.YtfjmpfecnemoiaaQx6
import Derived.Test.YtfjmpfecnemoiaaQx7
import Derived.Test.YtfjmpfecnemoiaaQFlat
import Derived.Test.YtfjmpfecnemoiaaQStep
namespace Go.Proofs.Ytfjmpfecnemoiaa.Q
open Go.RowKit Go.Proofs.YtfjmpfecnemoiaaW.PrintWords Go.Proofs.YtfjmpfecnemoiaaW.PrintLast Go.Proofs.YtfjmpfecnemoiaaW.PrintMore
attribute [local go_sem] max2_int min2_int max_two min_two max_three min_three max_four min_four   -- for this text's walks alone
set_option linter.unusedVariables false
set_option linter.unusedSimpArgs false

/-! ### fescuelaw04_FlatTells: function 11 -/
mutual
def fescuelaw04_FlatTells.j0 : Nat → List (S31) → List (S31) → List Int → Bool → Option (Bool)
  | 0, _, _, _, _ => none
  | k + 1, x0, x7, x8, x20 => fescuelaw04_FlatTells.l0 k x0 x7 x8 x20 0
def fescuelaw04_FlatTells.l0 : Nat → List (S31) → List (S31) → List Int → Bool → Int → Option (Bool)
  | 0, _, _, _, _, _ => none
  | k + 1, x0, x7, x8, x20, x21 => if x21 < (x8.length : Int) then (if 0 ≤ x21 then (fescuelaw04_FlatTells.l0 k x0 x7 (x8.set (x21 : Int).toNat (-7)) x20 (wrap64 (x21 + 1))) else (none)) else (if x20 = true then ((fescueref03_Same.f k x7 x0).bind fun t591 => (some t591)) else (some false))
end
def fescuelaw04_FlatTells.f (k : Nat) (l0 : List (S31)) (a1 : Int) (a2 : Int) : Option (Bool) := (fescueref03_Great.f k l0).bind fun t569 => (if t569 = true then (some true) else ((fescueref03_Twin.f k l0).bind fun t570 => ((flat_Fields.f k t570 a1).bind fun bt573 => ((fescueref04_Fields.f k l0 a1).bind fun bt577 => ((flat_Flat.f k t570 a1 a2).bind fun bt581 => ((fescueref04_Flat.f k l0 a1 a2).bind fun bt583 => ((flat_Step.f k t570 a1 a2).bind fun bt585 => ((fescueref04_Step.f k l0 a1 a2).bind fun bt587 => ((fescueref02_SameInts.f k bt573.1 bt577.1).bind fun t589 => (if t589 = true then (if bt573.2 = bt577.2 then (if bt581.1 = bt583.1 then (if bt581.2 = bt583.2 then (if bt585.1 = bt587.1 then (fescuelaw04_FlatTells.j0 k l0 t570 bt573.1 (bt585.2 == bt587.2)) else (fescuelaw04_FlatTells.j0 k l0 t570 bt573.1 false)) else (fescuelaw04_FlatTells.j0 k l0 t570 bt573.1 false)) else (fescuelaw04_FlatTells.j0 k l0 t570 bt573.1 false)) else (fescuelaw04_FlatTells.j0 k l0 t570 bt573.1 false)) else (fescuelaw04_FlatTells.j0 k l0 t570 bt573.1 false)))))))))))
theorem fescuelaw04_FlatTells.mono_l : ∀ k, (∀ y0 y1 y2 y3, LeO (fescuelaw04_FlatTells.j0 k y0 y1 y2 y3) (fescuelaw04_FlatTells.j0 (k + 1) y0 y1 y2 y3)) ∧ (∀ y0 y1 y2 y3 y4, LeO (fescuelaw04_FlatTells.l0 k y0 y1 y2 y3 y4) (fescuelaw04_FlatTells.l0 (k + 1) y0 y1 y2 y3 y4))
  | 0 => ⟨fun _ _ _ _ r h => by simp [fescuelaw04_FlatTells.j0] at h, fun _ _ _ _ _ r h => by simp [fescuelaw04_FlatTells.l0] at h⟩
  | k + 1 => by
    obtain ⟨ih0, ih1⟩ := fescuelaw04_FlatTells.mono_l k
    refine ⟨?_, ?_⟩
    · intro y0 y1 y2 y3
      unfold fescuelaw04_FlatTells.j0
      repeat' first
      | (with_reducible exact ih0 _ _ _ _)
      | (with_reducible exact ih1 _ _ _ _ _)
      | (with_reducible exact fescueref02_SameInts.mono _ _ _)
      | (with_reducible exact fescueref03_Great.mono _ _)
      | (with_reducible exact fescueref03_Same.mono _ _ _)
      | (with_reducible exact fescueref03_Twin.mono _ _)
      | (with_reducible exact fescueref04_Fields.mono _ _ _)
      | (with_reducible exact fescueref04_Flat.mono _ _ _ _)
      | (with_reducible exact fescueref04_Step.mono _ _ _ _)
      | (with_reducible exact flat_Fields.mono _ _ _)
      | (with_reducible exact flat_Flat.mono _ _ _ _)
      | (with_reducible exact flat_Step.mono _ _ _ _)
      | (with_reducible exact LeO.refl _)
      | (with_reducible exact LeO.none _)
      | (with_reducible refine LeO.ite ?_ ?_)
      | (with_reducible refine LeO.bind ?_ (fun _ => ?_))
      | exact ih0 _ _ _ _
      | exact ih1 _ _ _ _ _
      | exact fescueref02_SameInts.mono _ _ _
      | exact fescueref03_Great.mono _ _
      | exact fescueref03_Same.mono _ _ _
      | exact fescueref03_Twin.mono _ _
      | exact fescueref04_Fields.mono _ _ _
      | exact fescueref04_Flat.mono _ _ _ _
      | exact fescueref04_Step.mono _ _ _ _
      | exact flat_Fields.mono _ _ _
      | exact flat_Flat.mono _ _ _ _
      | exact flat_Step.mono _ _ _ _
      | exact LeO.none _
      | refine LeO.ite ?_ ?_
      | refine LeO.bind ?_ (fun _ => ?_)
    · intro y0 y1 y2 y3 y4
      unfold fescuelaw04_FlatTells.l0
      repeat' first
      | (with_reducible exact ih0 _ _ _ _)
      | (with_reducible exact ih1 _ _ _ _ _)
      | (with_reducible exact fescueref02_SameInts.mono _ _ _)
      | (with_reducible exact fescueref03_Great.mono _ _)
      | (with_reducible exact fescueref03_Same.mono _ _ _)
      | (with_reducible exact fescueref03_Twin.mono _ _)
      | (with_reducible exact fescueref04_Fields.mono _ _ _)
      | (with_reducible exact fescueref04_Flat.mono _ _ _ _)
      | (with_reducible exact fescueref04_Step.mono _ _ _ _)
      | (with_reducible exact flat_Fields.mono _ _ _)
      | (with_reducible exact flat_Flat.mono _ _ _ _)
      | (with_reducible exact flat_Step.mono _ _ _ _)
      | (with_reducible exact LeO.refl _)
      | (with_reducible exact LeO.none _)
      | (with_reducible refine LeO.ite ?_ ?_)
      | (with_reducible refine LeO.bind ?_ (fun _ => ?_))
      | exact ih0 _ _ _ _
      | exact ih1 _ _ _ _ _
      | exact fescueref02_SameInts.mono _ _ _
      | exact fescueref03_Great.mono _ _
      | exact fescueref03_Same.mono _ _ _
      | exact fescueref03_Twin.mono _ _
      | exact fescueref04_Fields.mono _ _ _
      | exact fescueref04_Flat.mono _ _ _ _
      | exact fescueref04_Step.mono _ _ _ _
      | exact flat_Fields.mono _ _ _
      | exact flat_Flat.mono _ _ _ _
      | exact flat_Step.mono _ _ _ _
      | exact LeO.none _
      | refine LeO.ite ?_ ?_
      | refine LeO.bind ?_ (fun _ => ?_)
theorem fescuelaw04_FlatTells.mono : ∀ a0 a1 a2 k, LeO (fescuelaw04_FlatTells.f k a0 a1 a2) (fescuelaw04_FlatTells.f (k + 1) a0 a1 a2) := by
  intro a0 a1 a2 k
  obtain ⟨ih0, ih1⟩ := fescuelaw04_FlatTells.mono_l k
  unfold fescuelaw04_FlatTells.f
  repeat' first
      | (with_reducible exact ih0 _ _ _ _)
      | (with_reducible exact ih1 _ _ _ _ _)
      | (with_reducible exact fescueref02_SameInts.mono _ _ _)
      | (with_reducible exact fescueref03_Great.mono _ _)
      | (with_reducible exact fescueref03_Same.mono _ _ _)
      | (with_reducible exact fescueref03_Twin.mono _ _)
      | (with_reducible exact fescueref04_Fields.mono _ _ _)
      | (with_reducible exact fescueref04_Flat.mono _ _ _ _)
      | (with_reducible exact fescueref04_Step.mono _ _ _ _)
      | (with_reducible exact flat_Fields.mono _ _ _)
      | (with_reducible exact flat_Flat.mono _ _ _ _)
      | (with_reducible exact flat_Step.mono _ _ _ _)
      | (with_reducible exact LeO.refl _)
      | (with_reducible exact LeO.none _)
      | (with_reducible refine LeO.ite ?_ ?_)
      | (with_reducible refine LeO.bind ?_ (fun _ => ?_))
      | exact ih0 _ _ _ _
      | exact ih1 _ _ _ _ _
      | exact fescueref02_SameInts.mono _ _ _
      | exact fescueref03_Great.mono _ _
      | exact fescueref03_Same.mono _ _ _
      | exact fescueref03_Twin.mono _ _
      | exact fescueref04_Fields.mono _ _ _
      | exact fescueref04_Flat.mono _ _ _ _
      | exact fescueref04_Step.mono _ _ _ _
      | exact flat_Fields.mono _ _ _
      | exact flat_Flat.mono _ _ _ _
      | exact flat_Step.mono _ _ _ _
      | exact LeO.none _
      | refine LeO.ite ?_ ?_
      | refine LeO.bind ?_ (fun _ => ?_)
set_option maxHeartbeats 8000000 in
set_option maxRecDepth 100000 in
theorem fescuelaw04_FlatTells.calls (k : Nat) (A0 : Option Addr) (c0 : Nat) (l0 : List (S31)) (a1 : Int) (a2 : Int) (r : Bool) (w : World) (hr0 : Kd.C k31 w A0 l0.length l0) (hc0 : l0.length ≤ c0) (h : fescuelaw04_FlatTells.f k l0 a1 a2 = some r) :
    Calls Try.prog 11 #[.slice A0 l0.length c0, .int .i64 a1, .int .i64 a2] w fun e w' => e = .returned (.bool r) ∧ Below w.heap.size w w' := by
  have HR0 := Aside0.mk hr0
  have HC0 := Aside0.mk hc0
  clear hr0 hc0
  have HB := Aside0.mk (Below.refl w.heap.size w)
  have H : ((fescueref03_Great.f k l0).bind fun t569 => (if t569 = true then (some true) else ((fescueref03_Twin.f k l0).bind fun t570 => ((flat_Fields.f k t570 a1).bind fun bt573 => ((fescueref04_Fields.f k l0 a1).bind fun bt577 => ((flat_Flat.f k t570 a1 a2).bind fun bt581 => ((fescueref04_Flat.f k l0 a1 a2).bind fun bt583 => ((flat_Step.f k t570 a1 a2).bind fun bt585 => ((fescueref04_Step.f k l0 a1 a2).bind fun bt587 => ((fescueref02_SameInts.f k bt573.1 bt577.1).bind fun t589 => (if t589 = true then (if bt573.2 = bt577.2 then (if bt581.1 = bt583.1 then (if bt581.2 = bt583.2 then (if bt585.1 = bt587.1 then (fescuelaw04_FlatTells.j0 k l0 t570 bt573.1 (bt585.2 == bt587.2)) else (fescuelaw04_FlatTells.j0 k l0 t570 bt573.1 false)) else (fescuelaw04_FlatTells.j0 k l0 t570 bt573.1 false)) else (fescuelaw04_FlatTells.j0 k l0 t570 bt573.1 false)) else (fescuelaw04_FlatTells.j0 k l0 t570 bt573.1 false)) else (fescuelaw04_FlatTells.j0 k l0 t570 bt573.1 false)))))))))))) = some r := h
  clear h
  replace H := Option.bind_eq_some_iff.mp H
  obtain ⟨t569, A40, H⟩ := H
  replace H : (if t569 = true then (some true) else ((fescueref03_Twin.f k l0).bind fun t570 => ((flat_Fields.f k t570 a1).bind fun bt573 => ((fescueref04_Fields.f k l0 a1).bind fun bt577 => ((flat_Flat.f k t570 a1 a2).bind fun bt581 => ((fescueref04_Flat.f k l0 a1 a2).bind fun bt583 => ((flat_Step.f k t570 a1 a2).bind fun bt585 => ((fescueref04_Step.f k l0 a1 a2).bind fun bt587 => ((fescueref02_SameInts.f k bt573.1 bt577.1).bind fun t589 => (if t589 = true then (if bt573.2 = bt577.2 then (if bt581.1 = bt583.1 then (if bt581.2 = bt583.2 then (if bt585.1 = bt587.1 then (fescuelaw04_FlatTells.j0 k l0 t570 bt573.1 (bt585.2 == bt587.2)) else (fescuelaw04_FlatTells.j0 k l0 t570 bt573.1 false)) else (fescuelaw04_FlatTells.j0 k l0 t570 bt573.1 false)) else (fescuelaw04_FlatTells.j0 k l0 t570 bt573.1 false)) else (fescuelaw04_FlatTells.j0 k l0 t570 bt573.1 false)) else (fescuelaw04_FlatTells.j0 k l0 t570 bt573.1 false))))))))))) = some r := H
  have A4 := Aside0.mk A40
  clear A40
  by_cases c5 : t569 = true
  · subst c5
    have H1 : (some true) = some r := by rw [if_pos rfl] at H; exact H
    clear H
    have H := H1
    clear H1
    obtain rfl := Option.some.inj H
    go_enter Try.func11, Try.ntmps11
    go_wp2_with (first | ((with_reducible refine gate_callee (f := 12) rfl ?_); refine goesL_ (some 23) rfl rfl Try.func12 (by kernel_rfl) rfl #[.slice A0 l0.length c0] rfl (by (try simp only [List.map_toArray, List.map_cons, List.map_nil]); first | done | rfl | (simp only [List.length_drop, List.length_take]; rfl)) ?_; (with_reducible refine (fescueref03_Great.calls k _ _ l0 true _ ?side1 ?side2 A4.out).mono ?_); (case side1 => repeat (first | exact HR0.out | (with_reducible refine Kd.C_alloc ?_ _) | (with_reducible refine Kd.C_drewN ?_ _) | (with_reducible refine Kd.C_drew ?_))); (case side2 => exact HC0.out); rintro e w' ⟨rfl, ⟨nd, rfl⟩⟩; refine ⟨_, rfl, ?_⟩))
    go_ret
    exact ⟨by first | rfl | (simp [errW_none, errW_some] <;> rfl) | (simp [*, errW_none, errW_some] <;> rfl), by repeat (first | (with_reducible first | exact HB.out | apply below_alloc | apply pw_below_drewN | apply below_drew1) | exact HB.out)⟩
  · replace c5 := Bool.eq_false_iff.mpr c5
    subst c5
    have H1 : ((fescueref03_Twin.f k l0).bind fun t570 => ((flat_Fields.f k t570 a1).bind fun bt573 => ((fescueref04_Fields.f k l0 a1).bind fun bt577 => ((flat_Flat.f k t570 a1 a2).bind fun bt581 => ((fescueref04_Flat.f k l0 a1 a2).bind fun bt583 => ((flat_Step.f k t570 a1 a2).bind fun bt585 => ((fescueref04_Step.f k l0 a1 a2).bind fun bt587 => ((fescueref02_SameInts.f k bt573.1 bt577.1).bind fun t589 => (if t589 = true then (if bt573.2 = bt577.2 then (if bt581.1 = bt583.1 then (if bt581.2 = bt583.2 then (if bt585.1 = bt587.1 then (fescuelaw04_FlatTells.j0 k l0 t570 bt573.1 (bt585.2 == bt587.2)) else (fescuelaw04_FlatTells.j0 k l0 t570 bt573.1 false)) else (fescuelaw04_FlatTells.j0 k l0 t570 bt573.1 false)) else (fescuelaw04_FlatTells.j0 k l0 t570 bt573.1 false)) else (fescuelaw04_FlatTells.j0 k l0 t570 bt573.1 false)) else (fescuelaw04_FlatTells.j0 k l0 t570 bt573.1 false)))))))))) = some r := by rw [if_neg (show ¬ (false = true) by decide)] at H; exact H
    clear H
    have H := H1
    clear H1
    replace H := Option.bind_eq_some_iff.mp H
    obtain ⟨t570, A60, H⟩ := H
    replace H : ((flat_Fields.f k t570 a1).bind fun bt573 => ((fescueref04_Fields.f k l0 a1).bind fun bt577 => ((flat_Flat.f k t570 a1 a2).bind fun bt581 => ((fescueref04_Flat.f k l0 a1 a2).bind fun bt583 => ((flat_Step.f k t570 a1 a2).bind fun bt585 => ((fescueref04_Step.f k l0 a1 a2).bind fun bt587 => ((fescueref02_SameInts.f k bt573.1 bt577.1).bind fun t589 => (if t589 = true then (if bt573.2 = bt577.2 then (if bt581.1 = bt583.1 then (if bt581.2 = bt583.2 then (if bt585.1 = bt587.1 then (fescuelaw04_FlatTells.j0 k l0 t570 bt573.1 (bt585.2 == bt587.2)) else (fescuelaw04_FlatTells.j0 k l0 t570 bt573.1 false)) else (fescuelaw04_FlatTells.j0 k l0 t570 bt573.1 false)) else (fescuelaw04_FlatTells.j0 k l0 t570 bt573.1 false)) else (fescuelaw04_FlatTells.j0 k l0 t570 bt573.1 false)) else (fescuelaw04_FlatTells.j0 k l0 t570 bt573.1 false))))))))) = some r := H
    have A6 := Aside0.mk A60
    clear A60
    replace H := Option.bind_eq_some_iff.mp H
    obtain ⟨⟨t573, t574⟩, A70, H⟩ := H
    replace H : ((fescueref04_Fields.f k l0 a1).bind fun bt577 => ((flat_Flat.f k t570 a1 a2).bind fun bt581 => ((fescueref04_Flat.f k l0 a1 a2).bind fun bt583 => ((flat_Step.f k t570 a1 a2).bind fun bt585 => ((fescueref04_Step.f k l0 a1 a2).bind fun bt587 => ((fescueref02_SameInts.f k t573 bt577.1).bind fun t589 => (if t589 = true then (if t574 = bt577.2 then (if bt581.1 = bt583.1 then (if bt581.2 = bt583.2 then (if bt585.1 = bt587.1 then (fescuelaw04_FlatTells.j0 k l0 t570 t573 (bt585.2 == bt587.2)) else (fescuelaw04_FlatTells.j0 k l0 t570 t573 false)) else (fescuelaw04_FlatTells.j0 k l0 t570 t573 false)) else (fescuelaw04_FlatTells.j0 k l0 t570 t573 false)) else (fescuelaw04_FlatTells.j0 k l0 t570 t573 false)) else (fescuelaw04_FlatTells.j0 k l0 t570 t573 false)))))))) = some r := H
    have A7 := Aside0.mk A70
    clear A70
    replace H := Option.bind_eq_some_iff.mp H
    obtain ⟨⟨t577, t578⟩, A80, H⟩ := H
    replace H : ((flat_Flat.f k t570 a1 a2).bind fun bt581 => ((fescueref04_Flat.f k l0 a1 a2).bind fun bt583 => ((flat_Step.f k t570 a1 a2).bind fun bt585 => ((fescueref04_Step.f k l0 a1 a2).bind fun bt587 => ((fescueref02_SameInts.f k t573 t577).bind fun t589 => (if t589 = true then (if t574 = t578 then (if bt581.1 = bt583.1 then (if bt581.2 = bt583.2 then (if bt585.1 = bt587.1 then (fescuelaw04_FlatTells.j0 k l0 t570 t573 (bt585.2 == bt587.2)) else (fescuelaw04_FlatTells.j0 k l0 t570 t573 false)) else (fescuelaw04_FlatTells.j0 k l0 t570 t573 false)) else (fescuelaw04_FlatTells.j0 k l0 t570 t573 false)) else (fescuelaw04_FlatTells.j0 k l0 t570 t573 false)) else (fescuelaw04_FlatTells.j0 k l0 t570 t573 false))))))) = some r := H
    have A8 := Aside0.mk A80
    clear A80
    replace H := Option.bind_eq_some_iff.mp H
    obtain ⟨⟨t581, t582⟩, A90, H⟩ := H
    replace H : ((fescueref04_Flat.f k l0 a1 a2).bind fun bt583 => ((flat_Step.f k t570 a1 a2).bind fun bt585 => ((fescueref04_Step.f k l0 a1 a2).bind fun bt587 => ((fescueref02_SameInts.f k t573 t577).bind fun t589 => (if t589 = true then (if t574 = t578 then (if t581 = bt583.1 then (if t582 = bt583.2 then (if bt585.1 = bt587.1 then (fescuelaw04_FlatTells.j0 k l0 t570 t573 (bt585.2 == bt587.2)) else (fescuelaw04_FlatTells.j0 k l0 t570 t573 false)) else (fescuelaw04_FlatTells.j0 k l0 t570 t573 false)) else (fescuelaw04_FlatTells.j0 k l0 t570 t573 false)) else (fescuelaw04_FlatTells.j0 k l0 t570 t573 false)) else (fescuelaw04_FlatTells.j0 k l0 t570 t573 false)))))) = some r := H
    have A9 := Aside0.mk A90
    clear A90
    replace H := Option.bind_eq_some_iff.mp H
    obtain ⟨⟨t583, t584⟩, A100, H⟩ := H
    replace H : ((flat_Step.f k t570 a1 a2).bind fun bt585 => ((fescueref04_Step.f k l0 a1 a2).bind fun bt587 => ((fescueref02_SameInts.f k t573 t577).bind fun t589 => (if t589 = true then (if t574 = t578 then (if t581 = t583 then (if t582 = t584 then (if bt585.1 = bt587.1 then (fescuelaw04_FlatTells.j0 k l0 t570 t573 (bt585.2 == bt587.2)) else (fescuelaw04_FlatTells.j0 k l0 t570 t573 false)) else (fescuelaw04_FlatTells.j0 k l0 t570 t573 false)) else (fescuelaw04_FlatTells.j0 k l0 t570 t573 false)) else (fescuelaw04_FlatTells.j0 k l0 t570 t573 false)) else (fescuelaw04_FlatTells.j0 k l0 t570 t573 false))))) = some r := H
    have A10 := Aside0.mk A100
    clear A100
    replace H := Option.bind_eq_some_iff.mp H
    obtain ⟨⟨t585, t586⟩, A110, H⟩ := H
    replace H : ((fescueref04_Step.f k l0 a1 a2).bind fun bt587 => ((fescueref02_SameInts.f k t573 t577).bind fun t589 => (if t589 = true then (if t574 = t578 then (if t581 = t583 then (if t582 = t584 then (if t585 = bt587.1 then (fescuelaw04_FlatTells.j0 k l0 t570 t573 (t586 == bt587.2)) else (fescuelaw04_FlatTells.j0 k l0 t570 t573 false)) else (fescuelaw04_FlatTells.j0 k l0 t570 t573 false)) else (fescuelaw04_FlatTells.j0 k l0 t570 t573 false)) else (fescuelaw04_FlatTells.j0 k l0 t570 t573 false)) else (fescuelaw04_FlatTells.j0 k l0 t570 t573 false)))) = some r := H
    have A11 := Aside0.mk A110
    clear A110
    replace H := Option.bind_eq_some_iff.mp H
    obtain ⟨⟨t587, t588⟩, A120, H⟩ := H
    replace H : ((fescueref02_SameInts.f k t573 t577).bind fun t589 => (if t589 = true then (if t574 = t578 then (if t581 = t583 then (if t582 = t584 then (if t585 = t587 then (fescuelaw04_FlatTells.j0 k l0 t570 t573 (t586 == t588)) else (fescuelaw04_FlatTells.j0 k l0 t570 t573 false)) else (fescuelaw04_FlatTells.j0 k l0 t570 t573 false)) else (fescuelaw04_FlatTells.j0 k l0 t570 t573 false)) else (fescuelaw04_FlatTells.j0 k l0 t570 t573 false)) else (fescuelaw04_FlatTells.j0 k l0 t570 t573 false))) = some r := H
    have A12 := Aside0.mk A120
    clear A120
    have HC13 := Aside0.mk H
    clear H
    go_enter Try.func11, Try.ntmps11
    go_upto_region 10 with (first | ((with_reducible refine gate_callee (f := 12) rfl ?_); refine goesL_ (some 23) rfl rfl Try.func12 (by kernel_rfl) rfl #[.slice A0 l0.length c0] rfl (by (try simp only [List.map_toArray, List.map_cons, List.map_nil]); first | done | rfl | (simp only [List.length_drop, List.length_take]; rfl)) ?_; (with_reducible refine (fescueref03_Great.calls k _ _ l0 false _ ?side1 ?side2 A4.out).mono ?_); (case side1 => repeat (first | exact HR0.out | (with_reducible refine Kd.C_alloc ?_ _) | (with_reducible refine Kd.C_drewN ?_ _) | (with_reducible refine Kd.C_drew ?_))); (case side2 => exact HC0.out); rintro e w' ⟨rfl, ⟨nd, rfl⟩⟩; refine ⟨_, rfl, ?_⟩) | ((with_reducible refine gate_callee (f := 13) rfl ?_); refine goesL_ (some 25) rfl rfl Try.func13 (by kernel_rfl) rfl #[.slice A0 l0.length c0] rfl (by (try simp only [List.map_toArray, List.map_cons, List.map_nil]); first | done | rfl | (simp only [List.length_drop, List.length_take]; rfl)) ?_; (with_reducible refine (fescueref03_Twin.calls k _ _ l0 t570 _ ?side1 ?side2 A6.out).mono ?_); (case side1 => repeat (first | exact HR0.out | (with_reducible refine Kd.C_alloc ?_ _) | (with_reducible refine Kd.C_drewN ?_ _) | (with_reducible refine Kd.C_drew ?_))); (case side2 => exact HC0.out); rintro e w14 ⟨v571, rfl, ho0, hb⟩; refine ⟨_, rfl, ?_⟩; have n0_ := Aside0.mk (Kd.S_lower ho0 (below_size (by repeat (first | (with_reducible first | exact HB.out | apply below_alloc | apply pw_below_drewN | apply below_drew1) | exact HB.out)))); have n1_ := Aside0.mk (below_step (by repeat (first | (with_reducible first | exact HB.out | apply below_alloc | apply pw_below_drewN | apply below_drew1) | exact HB.out)) hb); clear HB; have HO572 := n0_; have HB := n1_; clear n0_ n1_; (try clear hb); (try clear hb2); (try clear hk); (try clear hi); (try clear ho0); obtain ⟨Ao15, co15, eo15⟩ := Kd.S_slice HO572.out; subst eo15) | ((with_reducible refine gate_callee (f := 25) rfl ?_); refine goesL_ (some 29) rfl rfl Try.func25 (by kernel_rfl) rfl #[.slice Ao15 t570.length co15, .int .i64 a1] rfl (by (try simp only [List.map_toArray, List.map_cons, List.map_nil]); first | done | rfl | (simp only [List.length_drop, List.length_take]; rfl)) ?_; (with_reducible refine (flat_Fields.calls k _ _ t570 a1 t573 t574 _ ?side1 ?side2 A7.out).mono ?_); (case side1 => repeat (first | exact (Kd.S_reads' HO572.out).2.2 | (with_reducible refine Kd.C_alloc ?_ _) | (with_reducible refine Kd.C_drewN ?_ _) | (with_reducible refine Kd.C_drew ?_))); (case side2 => exact (Kd.S_reads' HO572.out).2.1); rintro e w16 ⟨v575, rfl, ho0, hb⟩; refine ⟨_, rfl, ?_⟩; have n0_ := Aside0.mk (Kd.S_elder' (by (with_reducible repeat (first | apply Kd.S_alloc | apply Kd.S_drewN | apply Kd.S_drew)); exact HO572.out) (Kd.R_base ho0) hb); have n1_ := Aside0.mk (Kd.R_lower ho0 (below_size (by repeat (first | (with_reducible first | exact HB.out | apply below_alloc | apply pw_below_drewN | apply below_drew1) | exact HB.out)))); have n2_ := Aside0.mk (below_step (by repeat (first | (with_reducible first | exact HB.out | apply below_alloc | apply pw_below_drewN | apply below_drew1) | exact HB.out)) hb); clear HO572; clear HB; have HO572 := n0_; have HO576 := n1_; have HB := n2_; clear n0_ n1_ n2_; (try clear hb); (try clear hb2); (try clear hk); (try clear hi); (try clear ho0)) | ((with_reducible refine gate_callee (f := 36) rfl ?_); refine goesL_ (some 35) rfl rfl Try.func36 (by kernel_rfl) rfl #[.slice A0 l0.length c0, .int .i64 a1] rfl (by (try simp only [List.map_toArray, List.map_cons, List.map_nil]); first | done | rfl | (simp only [List.length_drop, List.length_take]; rfl)) ?_; (with_reducible refine (fescueref04_Fields.calls k _ _ l0 a1 t577 t578 _ ?side1 ?side2 A8.out).mono ?_); (case side1 => repeat (first | exact (Kd.C_below HR0.out HB.out) | (with_reducible refine Kd.C_alloc ?_ _) | (with_reducible refine Kd.C_drewN ?_ _) | (with_reducible refine Kd.C_drew ?_))); (case side2 => exact HC0.out); rintro e w17 ⟨v579, rfl, ho0, hb⟩; refine ⟨_, rfl, ?_⟩; have n0_ := Aside0.mk (Kd.S_elder' (by (with_reducible repeat (first | apply Kd.S_alloc | apply Kd.S_drewN | apply Kd.S_drew)); exact HO572.out) (Kd.R_base ho0) hb); have n1_ := Aside0.mk (Kd.R_elder' (by (with_reducible repeat (first | apply Kd.R_alloc | apply Kd.R_drewN | apply Kd.R_drew)); exact HO576.out) (Kd.R_base ho0) hb); have n2_ := Aside0.mk (Kd.R_lower (Kd.R_new' ho0 (Kd.R_lt (by (with_reducible repeat (first | apply Kd.R_alloc | apply Kd.R_drewN | apply Kd.R_drew)); exact HO576.out))) (below_size (by repeat (first | (with_reducible first | exact HB.out | apply below_alloc | apply pw_below_drewN | apply below_drew1) | exact HB.out)))); have n3_ := Aside0.mk (below_step (by repeat (first | (with_reducible first | exact HB.out | apply below_alloc | apply pw_below_drewN | apply below_drew1) | exact HB.out)) hb); clear HO572; clear HO576; clear HB; have HO572 := n0_; have HO576 := n1_; have HO580 := n2_; have HB := n3_; clear n0_ n1_ n2_ n3_; (try clear hb); (try clear hb2); (try clear hk); (try clear hi); (try clear ho0)) | ((with_reducible refine gate_callee (f := 26) rfl ?_); refine goesL_ (some 42) rfl rfl Try.func26 (by kernel_rfl) rfl #[.slice Ao15 t570.length co15, .int .i64 a1, .int .i64 a2] rfl (by (try simp only [List.map_toArray, List.map_cons, List.map_nil]); first | done | rfl | (simp only [List.length_drop, List.length_take]; rfl)) ?_; (with_reducible refine (flat_Flat.calls k _ _ t570 a1 a2 t581 t582 _ ?side1 ?side2 A9.out).mono ?_); (case side1 => repeat (first | exact (Kd.S_reads' HO572.out).2.2 | (with_reducible refine Kd.C_alloc ?_ _) | (with_reducible refine Kd.C_drewN ?_ _) | (with_reducible refine Kd.C_drew ?_))); (case side2 => exact (Kd.S_reads' HO572.out).2.1); rintro e w18 ⟨rfl, hb⟩; refine ⟨_, rfl, ?_⟩; have n0_ := Aside0.mk (Kd.S_below (by (with_reducible repeat (first | apply Kd.S_alloc | apply Kd.S_drewN | apply Kd.S_drew)); exact HO572.out) hb); have n1_ := Aside0.mk (Kd.R_below (by (with_reducible repeat (first | apply Kd.R_alloc | apply Kd.R_drewN | apply Kd.R_drew)); exact HO576.out) hb); have n2_ := Aside0.mk (Kd.R_below (by (with_reducible repeat (first | apply Kd.R_alloc | apply Kd.R_drewN | apply Kd.R_drew)); exact HO580.out) hb); have n3_ := Aside0.mk (below_step (by repeat (first | (with_reducible first | exact HB.out | apply below_alloc | apply pw_below_drewN | apply below_drew1) | exact HB.out)) hb); clear HO572; clear HO576; clear HO580; clear HB; have HO572 := n0_; have HO576 := n1_; have HO580 := n2_; have HB := n3_; clear n0_ n1_ n2_ n3_; (try clear hb); (try clear hb2); (try clear hk); (try clear hi)) | ((with_reducible refine gate_callee (f := 37) rfl ?_); refine goesL_ (some 49) rfl rfl Try.func37 (by kernel_rfl) rfl #[.slice A0 l0.length c0, .int .i64 a1, .int .i64 a2] rfl (by (try simp only [List.map_toArray, List.map_cons, List.map_nil]); first | done | rfl | (simp only [List.length_drop, List.length_take]; rfl)) ?_; (with_reducible refine (fescueref04_Flat.calls k _ _ l0 a1 a2 t583 t584 _ ?side1 ?side2 A10.out).mono ?_); (case side1 => repeat (first | exact (Kd.C_below HR0.out HB.out) | (with_reducible refine Kd.C_alloc ?_ _) | (with_reducible refine Kd.C_drewN ?_ _) | (with_reducible refine Kd.C_drew ?_))); (case side2 => exact HC0.out); rintro e w19 ⟨rfl, hb⟩; refine ⟨_, rfl, ?_⟩; have n0_ := Aside0.mk (Kd.S_below (by (with_reducible repeat (first | apply Kd.S_alloc | apply Kd.S_drewN | apply Kd.S_drew)); exact HO572.out) hb); have n1_ := Aside0.mk (Kd.R_below (by (with_reducible repeat (first | apply Kd.R_alloc | apply Kd.R_drewN | apply Kd.R_drew)); exact HO576.out) hb); have n2_ := Aside0.mk (Kd.R_below (by (with_reducible repeat (first | apply Kd.R_alloc | apply Kd.R_drewN | apply Kd.R_drew)); exact HO580.out) hb); have n3_ := Aside0.mk (below_step (by repeat (first | (with_reducible first | exact HB.out | apply below_alloc | apply pw_below_drewN | apply below_drew1) | exact HB.out)) hb); clear HO572; clear HO576; clear HO580; clear HB; have HO572 := n0_; have HO576 := n1_; have HO580 := n2_; have HB := n3_; clear n0_ n1_ n2_ n3_; (try clear hb); (try clear hb2); (try clear hk); (try clear hi)) | ((with_reducible refine gate_callee (f := 27) rfl ?_); refine goesL_ (some 56) rfl rfl Try.func27 (by kernel_rfl) rfl #[.slice Ao15 t570.length co15, .int .i64 a1, .int .i64 a2] rfl (by (try simp only [List.map_toArray, List.map_cons, List.map_nil]); first | done | rfl | (simp only [List.length_drop, List.length_take]; rfl)) ?_; (with_reducible refine (flat_Step.calls k _ _ t570 a1 a2 t585 t586 _ ?side1 ?side2 A11.out).mono ?_); (case side1 => repeat (first | exact (Kd.S_reads' HO572.out).2.2 | (with_reducible refine Kd.C_alloc ?_ _) | (with_reducible refine Kd.C_drewN ?_ _) | (with_reducible refine Kd.C_drew ?_))); (case side2 => exact (Kd.S_reads' HO572.out).2.1); rintro e w20 ⟨rfl, hb⟩; refine ⟨_, rfl, ?_⟩; have n0_ := Aside0.mk (Kd.S_below (by (with_reducible repeat (first | apply Kd.S_alloc | apply Kd.S_drewN | apply Kd.S_drew)); exact HO572.out) hb); have n1_ := Aside0.mk (Kd.R_below (by (with_reducible repeat (first | apply Kd.R_alloc | apply Kd.R_drewN | apply Kd.R_drew)); exact HO576.out) hb); have n2_ := Aside0.mk (Kd.R_below (by (with_reducible repeat (first | apply Kd.R_alloc | apply Kd.R_drewN | apply Kd.R_drew)); exact HO580.out) hb); have n3_ := Aside0.mk (below_step (by repeat (first | (with_reducible first | exact HB.out | apply below_alloc | apply pw_below_drewN | apply below_drew1) | exact HB.out)) hb); clear HO572; clear HO576; clear HO580; clear HB; have HO572 := n0_; have HO576 := n1_; have HO580 := n2_; have HB := n3_; clear n0_ n1_ n2_ n3_; (try clear hb); (try clear hb2); (try clear hk); (try clear hi)) | ((with_reducible refine gate_callee (f := 38) rfl ?_); refine goesL_ (some 63) rfl rfl Try.func38 (by kernel_rfl) rfl #[.slice A0 l0.length c0, .int .i64 a1, .int .i64 a2] rfl (by (try simp only [List.map_toArray, List.map_cons, List.map_nil]); first | done | rfl | (simp only [List.length_drop, List.length_take]; rfl)) ?_; (with_reducible refine (fescueref04_Step.calls k _ _ l0 a1 a2 t587 t588 _ ?side1 ?side2 A12.out).mono ?_); (case side1 => repeat (first | exact (Kd.C_below HR0.out HB.out) | (with_reducible refine Kd.C_alloc ?_ _) | (with_reducible refine Kd.C_drewN ?_ _) | (with_reducible refine Kd.C_drew ?_))); (case side2 => exact HC0.out); rintro e w21 ⟨rfl, hb⟩; refine ⟨_, rfl, ?_⟩; have n0_ := Aside0.mk (Kd.S_below (by (with_reducible repeat (first | apply Kd.S_alloc | apply Kd.S_drewN | apply Kd.S_drew)); exact HO572.out) hb); have n1_ := Aside0.mk (Kd.R_below (by (with_reducible repeat (first | apply Kd.R_alloc | apply Kd.R_drewN | apply Kd.R_drew)); exact HO576.out) hb); have n2_ := Aside0.mk (Kd.R_below (by (with_reducible repeat (first | apply Kd.R_alloc | apply Kd.R_drewN | apply Kd.R_drew)); exact HO580.out) hb); have n3_ := Aside0.mk (below_step (by repeat (first | (with_reducible first | exact HB.out | apply below_alloc | apply pw_below_drewN | apply below_drew1) | exact HB.out)) hb); clear HO572; clear HO576; clear HO580; clear HB; have HO572 := n0_; have HO576 := n1_; have HO580 := n2_; have HB := n3_; clear n0_ n1_ n2_ n3_; (try clear hb); (try clear hb2); (try clear hk); (try clear hi)))
    (try simp only [Act.put, List.setIfInBounds_toArray, List.set_cons_zero, List.set_cons_succ])
    go_cut [20] (fun v20 wc => ∃ (kq : Nat) (x20_12 : Bool), v20 = .bool x20_12 ∧ Aside0 (fescuelaw04_FlatTells.j0 kq l0 t570 t573 x20_12 = some r) ∧ Aside0 (kq ≤ k) ∧ Aside0 (Kd.S k31 31 wc w.heap.size (fun k_ => some k_ ≠ (v575 : Value).ownBlock) (.slice Ao15 t570.length co15) t570) ∧ Aside0 (Kd.R (Kd.int .i64) 3 wc w.heap.size (fun _ => True) v575 t573) ∧ Aside0 (Below w.heap.size w wc))
    case first =>
      have H := HC13.out
      clear HC13
      replace H := Option.bind_eq_some_iff.mp H
      obtain ⟨t589, A220, H⟩ := H
      replace H : (if t589 = true then (if t574 = t578 then (if t581 = t583 then (if t582 = t584 then (if t585 = t587 then (fescuelaw04_FlatTells.j0 k l0 t570 t573 (t586 == t588)) else (fescuelaw04_FlatTells.j0 k l0 t570 t573 false)) else (fescuelaw04_FlatTells.j0 k l0 t570 t573 false)) else (fescuelaw04_FlatTells.j0 k l0 t570 t573 false)) else (fescuelaw04_FlatTells.j0 k l0 t570 t573 false)) else (fescuelaw04_FlatTells.j0 k l0 t570 t573 false)) = some r := H
      have A22 := Aside0.mk A220
      clear A220
      by_cases c23 : t589 = true
      · subst c23
        have H1 : (if t574 = t578 then (if t581 = t583 then (if t582 = t584 then (if t585 = t587 then (fescuelaw04_FlatTells.j0 k l0 t570 t573 (t586 == t588)) else (fescuelaw04_FlatTells.j0 k l0 t570 t573 false)) else (fescuelaw04_FlatTells.j0 k l0 t570 t573 false)) else (fescuelaw04_FlatTells.j0 k l0 t570 t573 false)) else (fescuelaw04_FlatTells.j0 k l0 t570 t573 false)) = some r := by rw [if_pos rfl] at H; exact H
        clear H
        have H := H1
        clear H1
        by_cases c24 : t574 = t578
        · rw [if_pos c24] at H
          have c24b0 : (t574 == t578) = true := beq_iff_eq.mpr c24
          have c24b1 : (t574 != t578) = false := bne_eq_false_iff_eq.mpr c24
          clear c24
          (first | rw [c24b0] | (simp only [i64_w, i32_w]; rw [c24b0]) | skip)
          by_cases c25 : t581 = t583
          · rw [if_pos c25] at H
            have c25b0 : (t581 == t583) = true := beq_iff_eq.mpr c25
            have c25b1 : (t581 != t583) = false := bne_eq_false_iff_eq.mpr c25
            clear c25
            by_cases c26 : t582 = t584
            · rw [if_pos c26] at H
              have c26b0 : (t582 == t584) = true := beq_iff_eq.mpr c26
              have c26b1 : (t582 != t584) = false := bne_eq_false_iff_eq.mpr c26
              clear c26
              by_cases c27 : t585 = t587
              · rw [if_pos c27] at H
                have c27b0 : (t585 == t587) = true := beq_iff_eq.mpr c27
                have c27b1 : (t585 != t587) = false := bne_eq_false_iff_eq.mpr c27
                clear c27
                have H' := Aside0.mk H
                clear H
                obtain ⟨Ao28, co28, eo28⟩ := Kd.R_slice HO576.out
                subst eo28
                obtain ⟨Ao29, co29, eo29⟩ := Kd.R_slice HO580.out
                subst eo29
                go_wp2_with (first | ((with_reducible refine gate_callee (f := 23) rfl ?_); refine goesL_ (some 68) rfl rfl Try.func23 (by kernel_rfl) rfl #[.slice Ao28 t573.length co28, .slice Ao29 t577.length co29] rfl (by (try simp only [List.map_toArray, List.map_cons, List.map_nil]); first | done | rfl | (simp only [List.length_drop, List.length_take]; rfl)) ?_; (with_reducible refine (fescueref02_SameInts.calls k _ _ t573 _ _ t577 true _ ?side1 ?side2 ?side3 ?side4 A22.out).mono ?_); (case side1 => repeat (first | exact (Kd.R_reads' HO576.out).2.2 | (with_reducible refine Kd.C_alloc ?_ _) | (with_reducible refine Kd.C_drewN ?_ _) | (with_reducible refine Kd.C_drew ?_))); (case side2 => exact (Kd.R_reads' HO576.out).2.1); (case side3 => repeat (first | exact (Kd.R_reads' HO580.out).2.2 | (with_reducible refine Kd.C_alloc ?_ _) | (with_reducible refine Kd.C_drewN ?_ _) | (with_reducible refine Kd.C_drew ?_))); (case side4 => exact (Kd.R_reads' HO580.out).2.1); rintro e w' ⟨rfl, ⟨nd, rfl⟩⟩; refine ⟨_, rfl, ?_⟩))
                go_meet
                case rel => exact ⟨_, ((t586 == t588)), (by first | rfl | (simp; done) | (simp [*]; done)), H', ⟨by first | omega | exact Nat.le_refl _⟩, ⟨by (with_reducible repeat (first | apply Kd.S_alloc | apply Kd.S_drewN | apply Kd.S_drew)); exact Kd.S_mono HO572.out (fun _ hk => hk.1.2)⟩, ⟨by (with_reducible repeat (first | apply Kd.R_alloc | apply Kd.R_drewN | apply Kd.R_drew)); exact Kd.R_mono HO576.out (fun _ hk => trivial)⟩, ⟨by repeat (first | (with_reducible first | exact HB.out | apply below_alloc | apply pw_below_drewN | apply below_drew1) | exact HB.out)⟩⟩
              · rw [if_neg c27] at H
                have c27b0 : (t585 == t587) = false := beq_eq_false_iff_ne.mpr c27
                have c27b1 : (t585 != t587) = true := bne_iff_ne.mpr c27
                have H' := Aside0.mk H
                clear H
                obtain ⟨Ao30, co30, eo30⟩ := Kd.R_slice HO576.out
                subst eo30
                obtain ⟨Ao31, co31, eo31⟩ := Kd.R_slice HO580.out
                subst eo31
                go_wp2_with (first | ((with_reducible refine gate_callee (f := 23) rfl ?_); refine goesL_ (some 68) rfl rfl Try.func23 (by kernel_rfl) rfl #[.slice Ao30 t573.length co30, .slice Ao31 t577.length co31] rfl (by (try simp only [List.map_toArray, List.map_cons, List.map_nil]); first | done | rfl | (simp only [List.length_drop, List.length_take]; rfl)) ?_; (with_reducible refine (fescueref02_SameInts.calls k _ _ t573 _ _ t577 true _ ?side1 ?side2 ?side3 ?side4 A22.out).mono ?_); (case side1 => repeat (first | exact (Kd.R_reads' HO576.out).2.2 | (with_reducible refine Kd.C_alloc ?_ _) | (with_reducible refine Kd.C_drewN ?_ _) | (with_reducible refine Kd.C_drew ?_))); (case side2 => exact (Kd.R_reads' HO576.out).2.1); (case side3 => repeat (first | exact (Kd.R_reads' HO580.out).2.2 | (with_reducible refine Kd.C_alloc ?_ _) | (with_reducible refine Kd.C_drewN ?_ _) | (with_reducible refine Kd.C_drew ?_))); (case side4 => exact (Kd.R_reads' HO580.out).2.1); rintro e w' ⟨rfl, ⟨nd, rfl⟩⟩; refine ⟨_, rfl, ?_⟩))
                go_meet
                case rel => exact ⟨_, (false), (by first | rfl | (simp; done) | (simp [*]; done)), H', ⟨by first | omega | exact Nat.le_refl _⟩, ⟨by (with_reducible repeat (first | apply Kd.S_alloc | apply Kd.S_drewN | apply Kd.S_drew)); exact Kd.S_mono HO572.out (fun _ hk => hk.1.2)⟩, ⟨by (with_reducible repeat (first | apply Kd.R_alloc | apply Kd.R_drewN | apply Kd.R_drew)); exact Kd.R_mono HO576.out (fun _ hk => trivial)⟩, ⟨by repeat (first | (with_reducible first | exact HB.out | apply below_alloc | apply pw_below_drewN | apply below_drew1) | exact HB.out)⟩⟩
            · rw [if_neg c26] at H
              have c26b0 : (t582 == t584) = false := beq_eq_false_iff_ne.mpr c26
              have c26b1 : (t582 != t584) = true := bne_iff_ne.mpr c26
              have H' := Aside0.mk H
              clear H
              obtain ⟨Ao32, co32, eo32⟩ := Kd.R_slice HO576.out
              subst eo32
              obtain ⟨Ao33, co33, eo33⟩ := Kd.R_slice HO580.out
              subst eo33
              go_wp2_with (first | ((with_reducible refine gate_callee (f := 23) rfl ?_); refine goesL_ (some 68) rfl rfl Try.func23 (by kernel_rfl) rfl #[.slice Ao32 t573.length co32, .slice Ao33 t577.length co33] rfl (by (try simp only [List.map_toArray, List.map_cons, List.map_nil]); first | done | rfl | (simp only [List.length_drop, List.length_take]; rfl)) ?_; (with_reducible refine (fescueref02_SameInts.calls k _ _ t573 _ _ t577 true _ ?side1 ?side2 ?side3 ?side4 A22.out).mono ?_); (case side1 => repeat (first | exact (Kd.R_reads' HO576.out).2.2 | (with_reducible refine Kd.C_alloc ?_ _) | (with_reducible refine Kd.C_drewN ?_ _) | (with_reducible refine Kd.C_drew ?_))); (case side2 => exact (Kd.R_reads' HO576.out).2.1); (case side3 => repeat (first | exact (Kd.R_reads' HO580.out).2.2 | (with_reducible refine Kd.C_alloc ?_ _) | (with_reducible refine Kd.C_drewN ?_ _) | (with_reducible refine Kd.C_drew ?_))); (case side4 => exact (Kd.R_reads' HO580.out).2.1); rintro e w' ⟨rfl, ⟨nd, rfl⟩⟩; refine ⟨_, rfl, ?_⟩))
              go_meet
              case rel => exact ⟨_, (false), (by first | rfl | (simp; done) | (simp [*]; done)), H', ⟨by first | omega | exact Nat.le_refl _⟩, ⟨by (with_reducible repeat (first | apply Kd.S_alloc | apply Kd.S_drewN | apply Kd.S_drew)); exact Kd.S_mono HO572.out (fun _ hk => hk.1.2)⟩, ⟨by (with_reducible repeat (first | apply Kd.R_alloc | apply Kd.R_drewN | apply Kd.R_drew)); exact Kd.R_mono HO576.out (fun _ hk => trivial)⟩, ⟨by repeat (first | (with_reducible first | exact HB.out | apply below_alloc | apply pw_below_drewN | apply below_drew1) | exact HB.out)⟩⟩
          · rw [if_neg c25] at H
            have c25b0 : (t581 == t583) = false := beq_eq_false_iff_ne.mpr c25
            have c25b1 : (t581 != t583) = true := bne_iff_ne.mpr c25
            have H' := Aside0.mk H
            clear H
            obtain ⟨Ao34, co34, eo34⟩ := Kd.R_slice HO576.out
            subst eo34
            obtain ⟨Ao35, co35, eo35⟩ := Kd.R_slice HO580.out
            subst eo35
            go_wp2_with (first | ((with_reducible refine gate_callee (f := 23) rfl ?_); refine goesL_ (some 68) rfl rfl Try.func23 (by kernel_rfl) rfl #[.slice Ao34 t573.length co34, .slice Ao35 t577.length co35] rfl (by (try simp only [List.map_toArray, List.map_cons, List.map_nil]); first | done | rfl | (simp only [List.length_drop, List.length_take]; rfl)) ?_; (with_reducible refine (fescueref02_SameInts.calls k _ _ t573 _ _ t577 true _ ?side1 ?side2 ?side3 ?side4 A22.out).mono ?_); (case side1 => repeat (first | exact (Kd.R_reads' HO576.out).2.2 | (with_reducible refine Kd.C_alloc ?_ _) | (with_reducible refine Kd.C_drewN ?_ _) | (with_reducible refine Kd.C_drew ?_))); (case side2 => exact (Kd.R_reads' HO576.out).2.1); (case side3 => repeat (first | exact (Kd.R_reads' HO580.out).2.2 | (with_reducible refine Kd.C_alloc ?_ _) | (with_reducible refine Kd.C_drewN ?_ _) | (with_reducible refine Kd.C_drew ?_))); (case side4 => exact (Kd.R_reads' HO580.out).2.1); rintro e w' ⟨rfl, ⟨nd, rfl⟩⟩; refine ⟨_, rfl, ?_⟩))
            go_meet
            case rel => exact ⟨_, (false), (by first | rfl | (simp; done) | (simp [*]; done)), H', ⟨by first | omega | exact Nat.le_refl _⟩, ⟨by (with_reducible repeat (first | apply Kd.S_alloc | apply Kd.S_drewN | apply Kd.S_drew)); exact Kd.S_mono HO572.out (fun _ hk => hk.1.2)⟩, ⟨by (with_reducible repeat (first | apply Kd.R_alloc | apply Kd.R_drewN | apply Kd.R_drew)); exact Kd.R_mono HO576.out (fun _ hk => trivial)⟩, ⟨by repeat (first | (with_reducible first | exact HB.out | apply below_alloc | apply pw_below_drewN | apply below_drew1) | exact HB.out)⟩⟩
        · rw [if_neg c24] at H
          have c24b0 : (t574 == t578) = false := beq_eq_false_iff_ne.mpr c24
          have c24b1 : (t574 != t578) = true := bne_iff_ne.mpr c24
          (first | rw [c24b0] | (simp only [i64_w, i32_w]; rw [c24b0]) | skip)
          have H' := Aside0.mk H
          clear H
          obtain ⟨Ao36, co36, eo36⟩ := Kd.R_slice HO576.out
          subst eo36
          obtain ⟨Ao37, co37, eo37⟩ := Kd.R_slice HO580.out
          subst eo37
          go_wp2_with (first | ((with_reducible refine gate_callee (f := 23) rfl ?_); refine goesL_ (some 68) rfl rfl Try.func23 (by kernel_rfl) rfl #[.slice Ao36 t573.length co36, .slice Ao37 t577.length co37] rfl (by (try simp only [List.map_toArray, List.map_cons, List.map_nil]); first | done | rfl | (simp only [List.length_drop, List.length_take]; rfl)) ?_; (with_reducible refine (fescueref02_SameInts.calls k _ _ t573 _ _ t577 true _ ?side1 ?side2 ?side3 ?side4 A22.out).mono ?_); (case side1 => repeat (first | exact (Kd.R_reads' HO576.out).2.2 | (with_reducible refine Kd.C_alloc ?_ _) | (with_reducible refine Kd.C_drewN ?_ _) | (with_reducible refine Kd.C_drew ?_))); (case side2 => exact (Kd.R_reads' HO576.out).2.1); (case side3 => repeat (first | exact (Kd.R_reads' HO580.out).2.2 | (with_reducible refine Kd.C_alloc ?_ _) | (with_reducible refine Kd.C_drewN ?_ _) | (with_reducible refine Kd.C_drew ?_))); (case side4 => exact (Kd.R_reads' HO580.out).2.1); rintro e w' ⟨rfl, ⟨nd, rfl⟩⟩; refine ⟨_, rfl, ?_⟩))
          go_meet
          case rel => exact ⟨_, (false), (by first | rfl | (simp; done) | (simp [*]; done)), H', ⟨by first | omega | exact Nat.le_refl _⟩, ⟨by (with_reducible repeat (first | apply Kd.S_alloc | apply Kd.S_drewN | apply Kd.S_drew)); exact Kd.S_mono HO572.out (fun _ hk => hk.1.2)⟩, ⟨by (with_reducible repeat (first | apply Kd.R_alloc | apply Kd.R_drewN | apply Kd.R_drew)); exact Kd.R_mono HO576.out (fun _ hk => trivial)⟩, ⟨by repeat (first | (with_reducible first | exact HB.out | apply below_alloc | apply pw_below_drewN | apply below_drew1) | exact HB.out)⟩⟩
      · replace c23 := Bool.eq_false_iff.mpr c23
        subst c23
        have H1 : (fescuelaw04_FlatTells.j0 k l0 t570 t573 false) = some r := by rw [if_neg (show ¬ (false = true) by decide)] at H; exact H
        clear H
        have H := H1
        clear H1
        have H' := Aside0.mk H
        clear H
        obtain ⟨Ao38, co38, eo38⟩ := Kd.R_slice HO576.out
        subst eo38
        obtain ⟨Ao39, co39, eo39⟩ := Kd.R_slice HO580.out
        subst eo39
        go_wp2_with (first | ((with_reducible refine gate_callee (f := 23) rfl ?_); refine goesL_ (some 68) rfl rfl Try.func23 (by kernel_rfl) rfl #[.slice Ao38 t573.length co38, .slice Ao39 t577.length co39] rfl (by (try simp only [List.map_toArray, List.map_cons, List.map_nil]); first | done | rfl | (simp only [List.length_drop, List.length_take]; rfl)) ?_; (with_reducible refine (fescueref02_SameInts.calls k _ _ t573 _ _ t577 false _ ?side1 ?side2 ?side3 ?side4 A22.out).mono ?_); (case side1 => repeat (first | exact (Kd.R_reads' HO576.out).2.2 | (with_reducible refine Kd.C_alloc ?_ _) | (with_reducible refine Kd.C_drewN ?_ _) | (with_reducible refine Kd.C_drew ?_))); (case side2 => exact (Kd.R_reads' HO576.out).2.1); (case side3 => repeat (first | exact (Kd.R_reads' HO580.out).2.2 | (with_reducible refine Kd.C_alloc ?_ _) | (with_reducible refine Kd.C_drewN ?_ _) | (with_reducible refine Kd.C_drew ?_))); (case side4 => exact (Kd.R_reads' HO580.out).2.1); rintro e w' ⟨rfl, ⟨nd, rfl⟩⟩; refine ⟨_, rfl, ?_⟩))
        go_meet
        case rel => exact ⟨_, (false), (by first | rfl | (simp; done) | (simp [*]; done)), H', ⟨by first | omega | exact Nat.le_refl _⟩, ⟨by (with_reducible repeat (first | apply Kd.S_alloc | apply Kd.S_drewN | apply Kd.S_drew)); exact Kd.S_mono HO572.out (fun _ hk => hk.1.2)⟩, ⟨by (with_reducible repeat (first | apply Kd.R_alloc | apply Kd.R_drewN | apply Kd.R_drew)); exact Kd.R_mono HO576.out (fun _ hk => trivial)⟩, ⟨by repeat (first | (with_reducible first | exact HB.out | apply below_alloc | apply pw_below_drewN | apply below_drew1) | exact HB.out)⟩⟩
    case rest =>
      clear HC13
      try clear c1
      try clear c2
      try clear p2
      try clear c3
      try clear c5
      try clear c11
      try clear c12
      try clear c13
      try clear c23
      try clear c24
      try clear c24b0
      try clear c24b1
      try clear c25
      try clear c25b0
      try clear c25b1
      try clear c26
      try clear c26b0
      try clear c26b1
      try clear c27
      try clear c27b0
      try clear c27b1
      try clear c36
      try clear c37
      try clear c38
      obtain ⟨kq, x20_12, rfl, HA, HJ12, HO_7, HO_8, HB⟩ := hcut
      cases kq with
      | zero => exact absurd HA.out (by simp [fescuelaw04_FlatTells.j0])
      | succ kj12 =>
        have H := HA.out
        clear HA
        simp only [fescuelaw04_FlatTells.j0] at H
        have H' := Aside0.mk H
        clear H
        go_wp2
        go_loopg [21] kj12 (fun kq v21 w' => ∃ (x8_2 : List Int) (x21_2 : Int), v21 = .int .i64 x21_2 ∧ Aside0 (fescuelaw04_FlatTells.l0 kq l0 t570 x8_2 x20_12 x21_2 = some r) ∧ Aside0 (kq ≤ kj12) ∧ Aside0 (Kd.S k31 31 w' w.heap.size (fun k_ => some k_ ≠ (v575 : Value).ownBlock) (.slice Ao15 t570.length co15) t570) ∧ Aside0 (Kd.R (Kd.int .i64) 3 w' w.heap.size (fun _ => True) v575 x8_2) ∧ Aside0 (Below w.heap.size w w'))
        case atStart => exact ⟨(t573), (0), (by first | rfl | (simp; done) | (simp [*]; done)), H', ⟨Nat.le_refl _⟩, ⟨by (with_reducible repeat (first | apply Kd.S_alloc | apply Kd.S_drewN | apply Kd.S_drew)); exact HO_7.out⟩, ⟨by (with_reducible repeat (first | apply Kd.R_alloc | apply Kd.R_drewN | apply Kd.R_drew)); exact HO_8.out⟩, ⟨by repeat (first | (with_reducible first | exact HB.out | apply below_alloc | apply pw_below_drewN | apply below_drew1) | exact HB.out)⟩⟩
        case round =>
          clear H'
          try clear c1
          try clear c2
          try clear p2
          try clear c3
          try clear c5
          try clear c11
          try clear c12
          try clear c13
          try clear c23
          try clear c24
          try clear c24b0
          try clear c24b1
          try clear c25
          try clear c25b0
          try clear c25b1
          try clear c26
          try clear c26b0
          try clear c26b1
          try clear c27
          try clear c27b0
          try clear c27b1
          try clear c36
          try clear c37
          try clear c38
          try clear p2
          obtain ⟨x8_2, x21_2, rfl, HA, HK2, HO_7, HO_8, HB⟩ := hrel
          cases gk with
          | zero => exact absurd HA.out (by simp [fescuelaw04_FlatTells.l0])
          | succ k2 =>
            have H := HA.out
            clear HA
            simp only [fescuelaw04_FlatTells.l0] at H
            by_cases c40 : x21_2 < (x8_2.length : Int)
            · rw [if_pos c40] at H
              have c40b0 : decide (x21_2 < (x8_2.length : Int)) = true := decide_eq_true c40
              clear c40
              by_cases c41 : 0 ≤ x21_2
              · rw [if_pos c41] at H
                have c41b0 : decide (0 ≤ x21_2) = true := decide_eq_true c41
                clear c41
                obtain ⟨y590, hy590⟩ : ∃ y_ : List Int, y_ = (x8_2.set (x21_2 : Int).toNat (-7)) := ⟨_, rfl⟩
                replace H : (fescuelaw04_FlatTells.l0 k2 l0 t570 y590 x20_12 (wrap64 (x21_2 + 1))) = some r := by first | (rw [hy590]; with_reducible exact H) | (have H2_ := (Option.bind_some _ _).symm.trans H; rw [hy590]; with_reducible exact H2_) | (have H2_ := (Option.bind_some _ _).symm.trans H; with_reducible exact H2_) | with_reducible exact H | (rw [hy590]; exact H) | exact H
                have Ny590 := Aside0.mk hy590
                clear hy590
                have H' := Aside0.mk H
                clear H
                obtain ⟨Ao43, co43, eo43⟩ := Kd.R_slice HO_8.out
                subst eo43
                have p42 : 0 ≤ (x21_2 : Int) := of_decide_eq_true (by first | (with_reducible assumption) | assumption)
                have q42 : (x21_2 : Int) < ((x8_2.length : Int) : Int) := of_decide_eq_true (by first | (with_reducible assumption) | assumption)
                obtain ⟨go42, co42, eo42, gb42, gl42, cl42, HG42⟩ := Kd.R_form HO_8.out (by omega)
                (first | cases eo42 | (injection eo42 with ea_ en_ ec_; (first | subst ea_ | (injection ea_ with ea_; subst ea_)); subst ec_; clear en_))
                have GB42 := Aside0.mk gb42
                have GG42 := Aside0.mk HG42
                clear gb42 gl42 HG42
                obtain ⟨hx42_0, hf42_0⟩ := Kd.R_celln 0 HO_8.out (x21_2 : Int) p42 q42
                replace p42 := eq_true p42
                replace q42 := eq_true q42
                have HP44 := Kd.R_putg HO_8.out (x21_2 : Int) (-7)
                go_wp2_with (first | ((with_reducible refine gate_store (t := 3) (p := 102) rfl ?_); refine store_event (t := 3) (p := 102) (v := ?vo_w45) (w1 := (wr.setCell ⟨go42, (x21_2 : Int).toNat, none⟩ (.int .i64 (-7)))) ?hg ?ho ?hn ?hr ?_; (case ho => rfl); (case hg => rfl); (case hn => rfl); (case hr => first | (go_simp; done) | (go_simp; rfl)); intro w45 hw; have hg : wr.grownBy w45 (some go42) := (by rw [hw]; exact HP44.2); have hp_ : Kd.R (Kd.int .i64) 3 w45 w.heap.size (fun _ => True) (.slice (some ⟨go42, 0, none⟩) x8_2.length co43) y590 := (by rw [hw, Ny590.out]; exact HP44.1); clear HP44; have n0_ := Aside0.mk (Kd.S_after (v := (.slice (some ⟨go42, 0, none⟩) x8_2.length co43)) (v1 := (.slice (some ⟨go42, 0, none⟩) x8_2.length co43)) (ok := (fun _ => True)) (by (with_reducible repeat (first | apply Kd.S_alloc | apply Kd.S_drewN | apply Kd.S_drew)); exact Kd.S_mono HO_7.out (fun _ hk => ⟨trivial, hk⟩)) hg (.inl rfl)); have n1_ := Aside0.mk (hp_); have n2_ := Aside0.mk ((by rw [hw]; exact below_set (HB.out) GB42.out : Below w.heap.size w w45)); clear HO_7; clear HO_8; clear HB; have HO_7 := n0_; have HO_8 := n1_; have HB := n2_; clear n0_ n1_ n2_; clear hg hw hp_))
                go_roundg k2
                case measure => have := HJ12.out; have := HK2.out; omega
                case rel => exact ⟨(y590), (wrap64 (x21_2 + 1)), (by first | rfl | (simp; done) | (simp [*]; done)), H', ⟨by have := HJ12.out; have := HK2.out; omega⟩, ⟨by (with_reducible repeat (first | apply Kd.S_alloc | apply Kd.S_drewN | apply Kd.S_drew)); exact Kd.S_mono HO_7.out (fun _ hk => hk.2)⟩, ⟨by (with_reducible repeat (first | apply Kd.R_alloc | apply Kd.R_drewN | apply Kd.R_drew)); exact HO_8.out⟩, ⟨by repeat (first | (with_reducible first | exact HB.out | apply below_alloc | apply pw_below_drewN | apply below_drew1) | exact HB.out)⟩⟩
              · rw [if_neg c41] at H
                exact absurd H (by simp)
            · rw [if_neg c40] at H
              have c40b0 : decide (x21_2 < (x8_2.length : Int)) = false := decide_eq_false c40
              clear c40
              by_cases c46 : x20_12 = true
              · subst c46
                have H1 : ((fescueref03_Same.f k2 t570 l0).bind fun t591 => (some t591)) = some r := by rw [if_pos rfl] at H; exact H
                clear H
                have H := H1
                clear H1
                replace H := Option.bind_eq_some_iff.mp H
                obtain ⟨t591, A470, H⟩ := H
                replace H : (some t591) = some r := H
                have A47 := Aside0.mk A470
                clear A470
                obtain rfl := Option.some.inj H
                obtain ⟨Ao48, co48, eo48⟩ := Kd.R_slice HO_8.out
                subst eo48
                go_wp2_with (first | (go_at_call 18; (with_reducible refine (fescueref03_Same.calls k2 _ _ t570 _ _ l0 t591 _ ?side1 ?side2 ?side3 ?side4 A47.out).mono ?_); (case side1 => repeat (first | exact (Kd.S_reads' HO_7.out).2.2 | (with_reducible refine Kd.C_alloc ?_ _) | (with_reducible refine Kd.C_drewN ?_ _) | (with_reducible refine Kd.C_drew ?_))); (case side2 => exact (Kd.S_reads' HO_7.out).2.1); (case side3 => repeat (first | exact (Kd.C_below HR0.out HB.out) | (with_reducible refine Kd.C_alloc ?_ _) | (with_reducible refine Kd.C_drewN ?_ _) | (with_reducible refine Kd.C_drew ?_))); (case side4 => exact HC0.out); rintro e w' ⟨rfl, ⟨nd, rfl⟩⟩))
                go_ret
                exact ⟨by first | rfl | (simp [errW_none, errW_some] <;> rfl) | (simp [*, errW_none, errW_some] <;> rfl), by repeat (first | (with_reducible first | exact HB.out | apply below_alloc | apply pw_below_drewN | apply below_drew1) | exact HB.out)⟩
              · replace c46 := Bool.eq_false_iff.mpr c46
                subst c46
                have H1 : (some false) = some r := by rw [if_neg (show ¬ (false = true) by decide)] at H; exact H
                clear H
                have H := H1
                clear H1
                obtain rfl := Option.some.inj H
                obtain ⟨Ao49, co49, eo49⟩ := Kd.R_slice HO_8.out
                subst eo49
                go_wp2
                go_ret
                exact ⟨by first | rfl | (simp [errW_none, errW_some] <;> rfl) | (simp [*, errW_none, errW_some] <;> rfl), by repeat (first | (with_reducible first | exact HB.out | apply below_alloc | apply pw_below_drewN | apply below_drew1) | exact HB.out)⟩

end Go.Proofs.Ytfjmpfecnemoiaa.Q
