-- Printed by wip/myprint.py (a wrapper of this claim's session over the kit's print.py) out of the translation; Lean checks it.
import Derived.Test.YtfjmpfecnemoiaaDoorQx0
import Derived.Test.YtfjmpfecnemoiaaDoorQBlk
namespace Go.Proofs.YtfjmpfecnemoiaaDoor.Q
open Go.RowKit Go.Proofs.YtfjmpfecnemoiaaDoorW.PrintWords Go.Proofs.YtfjmpfecnemoiaaDoorW.PrintLast Go.Proofs.YtfjmpfecnemoiaaDoorW.PrintMore
attribute [local go_sem] max2_int min2_int max_two min_two max_three min_three max_four min_four   -- for this text's walks alone
set_option linter.unusedVariables false
set_option linter.unusedSimpArgs false

/-! ### fescueref03_Same: function 46 -/
mutual
def fescueref03_Same.l0 : Nat → List (S78) → List (S78) → Int → Option (Bool)
  | 0, _, _, _ => none
  | k + 1, x0, x1, x5 => if x5 < (x0.length : Int) then (if 0 ≤ x5 then (if x5 < (x1.length : Int) then (if ((rd_T78 x0 x5).f0) = ((rd_T78 x1 x5).f0) then (if ((rd_T78 x0 x5).f1) = ((rd_T78 x1 x5).f1) then (if ((rd_T78 x0 x5).f2) = ((rd_T78 x1 x5).f2) then (fescueref03_Same.j1 k x0 x1 x5 ((((rd_T78 x0 x5).f3).length : Int) != (((rd_T78 x1 x5).f3).length : Int))) else (fescueref03_Same.j1 k x0 x1 x5 true)) else (fescueref03_Same.j1 k x0 x1 x5 true)) else (fescueref03_Same.j1 k x0 x1 x5 true)) else (none)) else (none)) else (some true)
def fescueref03_Same.j1 : Nat → List (S78) → List (S78) → Int → Bool → Option (Bool)
  | 0, _, _, _, _ => none
  | k + 1, x0, x1, x5, x69 => if x69 = true then (some false) else (fescueref03_Same.l1 k x0 x1 x5 0)
def fescueref03_Same.l1 : Nat → List (S78) → List (S78) → Int → Int → Option (Bool)
  | 0, _, _, _, _ => none
  | k + 1, x0, x1, x5, x6 => if 0 ≤ x5 then (if x5 < (x0.length : Int) then (if x6 < (((rd_T78 x0 x5).f3).length : Int) then (if 0 ≤ x6 then (if x5 < (x1.length : Int) then (if x6 < (((rd_T78 x1 x5).f3).length : Int) then (if (rd ((rd_T78 x0 x5).f3) x6) = (rd ((rd_T78 x1 x5).f3) x6) then (fescueref03_Same.l1 k x0 x1 x5 (wrap64 (x6 + 1))) else (some false)) else (none)) else (none)) else (none)) else (fescueref03_Same.l0 k x0 x1 (wrap64 (x5 + 1)))) else (none)) else (none)
end
def fescueref03_Same.f (k : Nat) (l0 : List (S78)) (l1 : List (S78)) : Option (Bool) := if (l0.length : Int) = (l1.length : Int) then (fescueref03_Same.l0 k l0 l1 0) else (some false)
theorem fescueref03_Same.mono_l : ∀ k, (∀ y0 y1 y2, LeO (fescueref03_Same.l0 k y0 y1 y2) (fescueref03_Same.l0 (k + 1) y0 y1 y2)) ∧ (∀ y0 y1 y2 y3, LeO (fescueref03_Same.j1 k y0 y1 y2 y3) (fescueref03_Same.j1 (k + 1) y0 y1 y2 y3)) ∧ (∀ y0 y1 y2 y3, LeO (fescueref03_Same.l1 k y0 y1 y2 y3) (fescueref03_Same.l1 (k + 1) y0 y1 y2 y3))
  | 0 => ⟨fun _ _ _ r h => by simp [fescueref03_Same.l0] at h, fun _ _ _ _ r h => by simp [fescueref03_Same.j1] at h, fun _ _ _ _ r h => by simp [fescueref03_Same.l1] at h⟩
  | k + 1 => by
    obtain ⟨ih0, ih1, ih2⟩ := fescueref03_Same.mono_l k
    refine ⟨?_, ?_, ?_⟩
    · intro y0 y1 y2
      unfold fescueref03_Same.l0
      repeat' first
      | (with_reducible exact ih0 _ _ _)
      | (with_reducible exact ih1 _ _ _ _)
      | (with_reducible exact ih2 _ _ _ _)
      | (with_reducible exact LeO.refl _)
      | (with_reducible exact LeO.none _)
      | (with_reducible refine LeO.ite ?_ ?_)
      | (with_reducible refine LeO.bind ?_ (fun _ => ?_))
      | exact ih0 _ _ _
      | exact ih1 _ _ _ _
      | exact ih2 _ _ _ _
      | exact LeO.none _
      | refine LeO.ite ?_ ?_
      | refine LeO.bind ?_ (fun _ => ?_)
    · intro y0 y1 y2 y3
      unfold fescueref03_Same.j1
      repeat' first
      | (with_reducible exact ih0 _ _ _)
      | (with_reducible exact ih1 _ _ _ _)
      | (with_reducible exact ih2 _ _ _ _)
      | (with_reducible exact LeO.refl _)
      | (with_reducible exact LeO.none _)
      | (with_reducible refine LeO.ite ?_ ?_)
      | (with_reducible refine LeO.bind ?_ (fun _ => ?_))
      | exact ih0 _ _ _
      | exact ih1 _ _ _ _
      | exact ih2 _ _ _ _
      | exact LeO.none _
      | refine LeO.ite ?_ ?_
      | refine LeO.bind ?_ (fun _ => ?_)
    intro y0 y1 y2 y3
    unfold fescueref03_Same.l1
    repeat' first
    | (with_reducible exact ih0 _ _ _)
    | (with_reducible exact ih1 _ _ _ _)
    | (with_reducible exact ih2 _ _ _ _)
    | (with_reducible exact LeO.refl _)
    | (with_reducible exact LeO.none _)
    | (with_reducible refine LeO.ite ?_ ?_)
    | (with_reducible refine LeO.bind ?_ (fun _ => ?_))
    | exact ih0 _ _ _
    | exact ih1 _ _ _ _
    | exact ih2 _ _ _ _
    | exact LeO.none _
    | refine LeO.ite ?_ ?_
    | refine LeO.bind ?_ (fun _ => ?_)
theorem fescueref03_Same.mono : ∀ a0 a1 k, LeO (fescueref03_Same.f k a0 a1) (fescueref03_Same.f (k + 1) a0 a1) := by
  intro a0 a1 k
  obtain ⟨ih0, ih1, ih2⟩ := fescueref03_Same.mono_l k
  unfold fescueref03_Same.f
  repeat' first
      | (with_reducible exact ih0 _ _ _)
      | (with_reducible exact ih1 _ _ _ _)
      | (with_reducible exact ih2 _ _ _ _)
      | (with_reducible exact LeO.refl _)
      | (with_reducible exact LeO.none _)
      | (with_reducible refine LeO.ite ?_ ?_)
      | (with_reducible refine LeO.bind ?_ (fun _ => ?_))
      | exact ih0 _ _ _
      | exact ih1 _ _ _ _
      | exact ih2 _ _ _ _
      | exact LeO.none _
      | refine LeO.ite ?_ ?_
      | refine LeO.bind ?_ (fun _ => ?_)
set_option maxHeartbeats 8000000 in
set_option maxRecDepth 100000 in
theorem fescueref03_Same.calls (k : Nat) (A0 : Option Addr) (c0 : Nat) (l0 : List (S78)) (A1 : Option Addr) (c1 : Nat) (l1 : List (S78)) (r : Bool) (w : World) (hr0 : Kd.C k78 w A0 l0.length l0) (hc0 : l0.length ≤ c0) (hr1 : Kd.C k78 w A1 l1.length l1) (hc1 : l1.length ≤ c1) (h : fescueref03_Same.f k l0 l1 = some r) :
    Calls Tryd.prog 46 #[.slice A0 l0.length c0, .slice A1 l1.length c1] w fun e w' => e = .returned (.bool r) ∧ Drawn0 w w' := by
  have HR0 := Aside0.mk hr0
  have HC0 := Aside0.mk hc0
  clear hr0 hc0
  have HR1 := Aside0.mk hr1
  have HC1 := Aside0.mk hc1
  clear hr1 hc1
  have H : (if (l0.length : Int) = (l1.length : Int) then (fescueref03_Same.l0 k l0 l1 0) else (some false)) = some r := h
  clear h
  by_cases c3 : (l0.length : Int) = (l1.length : Int)
  · rw [if_pos c3] at H
    have c3b0 : ((l0.length : Int) == (l1.length : Int)) = true := beq_iff_eq.mpr c3
    have c3b1 : ((l0.length : Int) != (l1.length : Int)) = false := bne_eq_false_iff_eq.mpr c3
    have c3b2 : (l0.length == l1.length) = true := by first | simpa using c3 | (simp at c3 ⊢; omega)
    clear c3
    have H' := Aside0.mk H; clear H
    go_enter Tryd.func46, Tryd.ntmps46
    go_wp2
    repeat (go_quiet (fail); try go_wp2)
    go_loopg [5] k (fun kq v5 w' => ∃ (x5_1 : Int), v5 = .int .i64 x5_1 ∧ Aside0 (fescueref03_Same.l0 kq l0 l1 x5_1 = some r) ∧ Aside0 (kq ≤ k) ∧ Drawn0 w w')
    case atStart => exact ⟨(0), (by first | rfl | (simp; done) | (simp [*]; done)), H', ⟨Nat.le_refl _⟩, by repeat (first | exact Drawn0.refl _ | apply Drawn0.step)⟩
    case round =>
      clear H'
      try clear c1
      try clear c3
      try clear c3b0
      try clear c3b1
      try clear c3b2
      obtain ⟨x5_1, rfl, HA, HK1, ⟨m1, rfl⟩⟩ := hrel
      cases gk with
      | zero => exact absurd HA.out (by simp [fescueref03_Same.l0])
      | succ k1 =>
        have H := HA.out
        clear HA
        simp only [fescueref03_Same.l0] at H
        by_cases c4 : x5_1 < (l0.length : Int)
        · rw [if_pos c4] at H
          have c4b0 : decide (x5_1 < (l0.length : Int)) = true := decide_eq_true c4
          clear c4
          have HC5 := Aside0.mk H; clear H
          go_upto_region 6 with (fail)
          repeat (go_quiet (fail); go_upto_region 6 with (fail))
          go_cut [69] (fun v69 wc => ∃ (kq : Nat) (x69_4 : Bool), v69 = .bool x69_4 ∧ Aside0 (fescueref03_Same.j1 kq l0 l1 x5_1 x69_4 = some r) ∧ Aside0 (kq ≤ k1) ∧ Drawn0 w wc)
          case first =>
            have H := HC5.out
            clear HC5
            by_cases c6 : 0 ≤ x5_1
            · rw [if_pos c6] at H
              have c6b0 : decide (0 ≤ x5_1) = true := decide_eq_true c6
              clear c6
              (first | rw [c6b0] | (simp only [i64_w, i32_w]; rw [c6b0]) | skip)
              by_cases c7 : x5_1 < (l1.length : Int)
              · rw [if_pos c7] at H
                have c7b0 : decide (x5_1 < (l1.length : Int)) = true := decide_eq_true c7
                clear c7
                by_cases c8 : ((rd_T78 l0 x5_1).f0) = ((rd_T78 l1 x5_1).f0)
                · rw [if_pos c8] at H
                  have c8b0 : (((rd_T78 l0 x5_1).f0) == ((rd_T78 l1 x5_1).f0)) = true := beq_iff_eq.mpr c8
                  have c8b1 : (((rd_T78 l0 x5_1).f0) != ((rd_T78 l1 x5_1).f0)) = false := bne_eq_false_iff_eq.mpr c8
                  clear c8
                  by_cases c9 : ((rd_T78 l0 x5_1).f1) = ((rd_T78 l1 x5_1).f1)
                  · rw [if_pos c9] at H
                    have c9b0 : (((rd_T78 l0 x5_1).f1) == ((rd_T78 l1 x5_1).f1)) = true := beq_iff_eq.mpr c9
                    have c9b1 : (((rd_T78 l0 x5_1).f1) != ((rd_T78 l1 x5_1).f1)) = false := bne_eq_false_iff_eq.mpr c9
                    clear c9
                    by_cases c10 : ((rd_T78 l0 x5_1).f2) = ((rd_T78 l1 x5_1).f2)
                    · rw [if_pos c10] at H
                      have c10b0 : (((rd_T78 l0 x5_1).f2) == ((rd_T78 l1 x5_1).f2)) = true := beq_iff_eq.mpr c10
                      have c10b1 : (((rd_T78 l0 x5_1).f2) != ((rd_T78 l1 x5_1).f2)) = false := bne_eq_false_iff_eq.mpr c10
                      clear c10
                      have H' := Aside0.mk H; clear H
                      have p421 : 0 ≤ (x5_1 : Int) := of_decide_eq_true (by first | (with_reducible assumption) | assumption)
                      have q421 : x5_1 < (l0.length : Int) := of_decide_eq_true (by first | (with_reducible assumption) | assumption)
                      obtain ⟨ad421, A421_3, c421_3, e421, hx421_0, hx421_1, hx421_2, hx421_3, hl421_3, hi421_3⟩ := at_T78 HR0.out x5_1 p421 q421
                      cases e421
                      have HR421_3 := Aside0.mk hi421_3
                      have HC421_3 := Aside0.mk hl421_3
                      clear hi421_3 hl421_3
                      replace p421 := eq_true p421
                      replace q421 := eq_true q421
                      have p422 : 0 ≤ (x5_1 : Int) := of_decide_eq_true (by first | (with_reducible assumption) | assumption)
                      have q422 : x5_1 < (l1.length : Int) := of_decide_eq_true (by first | (with_reducible assumption) | assumption)
                      obtain ⟨ad422, A422_3, c422_3, e422, hx422_0, hx422_1, hx422_2, hx422_3, hl422_3, hi422_3⟩ := at_T78 HR1.out x5_1 p422 q422
                      cases e422
                      have HR422_3 := Aside0.mk hi422_3
                      have HC422_3 := Aside0.mk hl422_3
                      clear hi422_3 hl422_3
                      replace p422 := eq_true p422
                      replace q422 := eq_true q422
                      have p423 : 0 ≤ (x5_1 : Int) := of_decide_eq_true (by first | (with_reducible assumption) | assumption)
                      have q423 : x5_1 < (l0.length : Int) := of_decide_eq_true (by first | (with_reducible assumption) | assumption)
                      obtain ⟨ad423, A423_3, c423_3, e423, hx423_0, hx423_1, hx423_2, hx423_3, hl423_3, hi423_3⟩ := at_T78 HR0.out x5_1 p423 q423
                      obtain rfl : ad421 = ad423 := (by injection e423)
                      have HR423_3 := Aside0.mk hi423_3
                      have HC423_3 := Aside0.mk hl423_3
                      clear hi423_3 hl423_3
                      replace p423 := eq_true p423
                      replace q423 := eq_true q423
                      have ea_ := Option.some.inj (hx421_3.symm.trans hx423_3)
                      injection ea_ with ea_ en_ ec_
                      subst ea_
                      subst ec_
                      clear en_
                      have p424 : 0 ≤ (x5_1 : Int) := of_decide_eq_true (by first | (with_reducible assumption) | assumption)
                      have q424 : x5_1 < (l1.length : Int) := of_decide_eq_true (by first | (with_reducible assumption) | assumption)
                      obtain ⟨ad424, A424_3, c424_3, e424, hx424_0, hx424_1, hx424_2, hx424_3, hl424_3, hi424_3⟩ := at_T78 HR1.out x5_1 p424 q424
                      obtain rfl : ad422 = ad424 := (by injection e424)
                      have HR424_3 := Aside0.mk hi424_3
                      have HC424_3 := Aside0.mk hl424_3
                      clear hi424_3 hl424_3
                      replace p424 := eq_true p424
                      replace q424 := eq_true q424
                      have ea_ := Option.some.inj (hx422_3.symm.trans hx424_3)
                      injection ea_ with ea_ en_ ec_
                      subst ea_
                      subst ec_
                      clear en_
                      have p425 : 0 ≤ (x5_1 : Int) := of_decide_eq_true (by first | (with_reducible assumption) | assumption)
                      have q425 : x5_1 < (l0.length : Int) := of_decide_eq_true (by first | (with_reducible assumption) | assumption)
                      obtain ⟨ad425, A425_3, c425_3, e425, hx425_0, hx425_1, hx425_2, hx425_3, hl425_3, hi425_3⟩ := at_T78 HR0.out x5_1 p425 q425
                      obtain rfl : ad421 = ad425 := (by injection e425)
                      have HR425_3 := Aside0.mk hi425_3
                      have HC425_3 := Aside0.mk hl425_3
                      clear hi425_3 hl425_3
                      replace p425 := eq_true p425
                      replace q425 := eq_true q425
                      have ea_ := Option.some.inj (hx421_3.symm.trans hx425_3)
                      injection ea_ with ea_ en_ ec_
                      subst ea_
                      subst ec_
                      clear en_
                      have p426 : 0 ≤ (x5_1 : Int) := of_decide_eq_true (by first | (with_reducible assumption) | assumption)
                      have q426 : x5_1 < (l1.length : Int) := of_decide_eq_true (by first | (with_reducible assumption) | assumption)
                      obtain ⟨ad426, A426_3, c426_3, e426, hx426_0, hx426_1, hx426_2, hx426_3, hl426_3, hi426_3⟩ := at_T78 HR1.out x5_1 p426 q426
                      obtain rfl : ad422 = ad426 := (by injection e426)
                      have HR426_3 := Aside0.mk hi426_3
                      have HC426_3 := Aside0.mk hl426_3
                      clear hi426_3 hl426_3
                      replace p426 := eq_true p426
                      replace q426 := eq_true q426
                      have ea_ := Option.some.inj (hx422_3.symm.trans hx426_3)
                      injection ea_ with ea_ en_ ec_
                      subst ea_
                      subst ec_
                      clear en_
                      have p427 : 0 ≤ (x5_1 : Int) := of_decide_eq_true (by first | (with_reducible assumption) | assumption)
                      have q427 : x5_1 < (l0.length : Int) := of_decide_eq_true (by first | (with_reducible assumption) | assumption)
                      obtain ⟨ad427, A427_3, c427_3, e427, hx427_0, hx427_1, hx427_2, hx427_3, hl427_3, hi427_3⟩ := at_T78 HR0.out x5_1 p427 q427
                      obtain rfl : ad421 = ad427 := (by injection e427)
                      have HR427_3 := Aside0.mk hi427_3
                      have HC427_3 := Aside0.mk hl427_3
                      clear hi427_3 hl427_3
                      replace p427 := eq_true p427
                      replace q427 := eq_true q427
                      have ea_ := Option.some.inj (hx421_3.symm.trans hx427_3)
                      injection ea_ with ea_ en_ ec_
                      subst ea_
                      subst ec_
                      clear en_
                      have p428 : 0 ≤ (x5_1 : Int) := of_decide_eq_true (by first | (with_reducible assumption) | assumption)
                      have q428 : x5_1 < (l1.length : Int) := of_decide_eq_true (by first | (with_reducible assumption) | assumption)
                      obtain ⟨ad428, A428_3, c428_3, e428, hx428_0, hx428_1, hx428_2, hx428_3, hl428_3, hi428_3⟩ := at_T78 HR1.out x5_1 p428 q428
                      obtain rfl : ad422 = ad428 := (by injection e428)
                      have HR428_3 := Aside0.mk hi428_3
                      have HC428_3 := Aside0.mk hl428_3
                      clear hi428_3 hl428_3
                      replace p428 := eq_true p428
                      replace q428 := eq_true q428
                      have ea_ := Option.some.inj (hx422_3.symm.trans hx428_3)
                      injection ea_ with ea_ en_ ec_
                      subst ea_
                      subst ec_
                      clear en_
                      go_wp2
                      repeat (go_quiet (fail); try go_wp2)
                      go_meet
                      case rel => exact ⟨_, (((((rd_T78 l0 x5_1).f3).length : Int) != (((rd_T78 l1 x5_1).f3).length : Int))), (by first | rfl | (simp; done) | (simp [*]; done)), H', ⟨by have := HK1.out; first | omega | exact Nat.le_refl _⟩, by repeat (first | exact Drawn0.refl _ | apply Drawn0.step)⟩
                    rw [if_neg c10] at H
                    have c10b0 : (((rd_T78 l0 x5_1).f2) == ((rd_T78 l1 x5_1).f2)) = false := beq_eq_false_iff_ne.mpr c10
                    have c10b1 : (((rd_T78 l0 x5_1).f2) != ((rd_T78 l1 x5_1).f2)) = true := bne_iff_ne.mpr c10
                    have H' := Aside0.mk H; clear H
                    have p421 : 0 ≤ (x5_1 : Int) := of_decide_eq_true (by first | (with_reducible assumption) | assumption)
                    have q421 : x5_1 < (l0.length : Int) := of_decide_eq_true (by first | (with_reducible assumption) | assumption)
                    obtain ⟨ad421, A421_3, c421_3, e421, hx421_0, hx421_1, hx421_2, hx421_3, hl421_3, hi421_3⟩ := at_T78 HR0.out x5_1 p421 q421
                    cases e421
                    have HR421_3 := Aside0.mk hi421_3
                    have HC421_3 := Aside0.mk hl421_3
                    clear hi421_3 hl421_3
                    replace p421 := eq_true p421
                    replace q421 := eq_true q421
                    have p422 : 0 ≤ (x5_1 : Int) := of_decide_eq_true (by first | (with_reducible assumption) | assumption)
                    have q422 : x5_1 < (l1.length : Int) := of_decide_eq_true (by first | (with_reducible assumption) | assumption)
                    obtain ⟨ad422, A422_3, c422_3, e422, hx422_0, hx422_1, hx422_2, hx422_3, hl422_3, hi422_3⟩ := at_T78 HR1.out x5_1 p422 q422
                    cases e422
                    have HR422_3 := Aside0.mk hi422_3
                    have HC422_3 := Aside0.mk hl422_3
                    clear hi422_3 hl422_3
                    replace p422 := eq_true p422
                    replace q422 := eq_true q422
                    have p423 : 0 ≤ (x5_1 : Int) := of_decide_eq_true (by first | (with_reducible assumption) | assumption)
                    have q423 : x5_1 < (l0.length : Int) := of_decide_eq_true (by first | (with_reducible assumption) | assumption)
                    obtain ⟨ad423, A423_3, c423_3, e423, hx423_0, hx423_1, hx423_2, hx423_3, hl423_3, hi423_3⟩ := at_T78 HR0.out x5_1 p423 q423
                    obtain rfl : ad421 = ad423 := (by injection e423)
                    have HR423_3 := Aside0.mk hi423_3
                    have HC423_3 := Aside0.mk hl423_3
                    clear hi423_3 hl423_3
                    replace p423 := eq_true p423
                    replace q423 := eq_true q423
                    have ea_ := Option.some.inj (hx421_3.symm.trans hx423_3)
                    injection ea_ with ea_ en_ ec_
                    subst ea_
                    subst ec_
                    clear en_
                    have p424 : 0 ≤ (x5_1 : Int) := of_decide_eq_true (by first | (with_reducible assumption) | assumption)
                    have q424 : x5_1 < (l1.length : Int) := of_decide_eq_true (by first | (with_reducible assumption) | assumption)
                    obtain ⟨ad424, A424_3, c424_3, e424, hx424_0, hx424_1, hx424_2, hx424_3, hl424_3, hi424_3⟩ := at_T78 HR1.out x5_1 p424 q424
                    obtain rfl : ad422 = ad424 := (by injection e424)
                    have HR424_3 := Aside0.mk hi424_3
                    have HC424_3 := Aside0.mk hl424_3
                    clear hi424_3 hl424_3
                    replace p424 := eq_true p424
                    replace q424 := eq_true q424
                    have ea_ := Option.some.inj (hx422_3.symm.trans hx424_3)
                    injection ea_ with ea_ en_ ec_
                    subst ea_
                    subst ec_
                    clear en_
                    have p425 : 0 ≤ (x5_1 : Int) := of_decide_eq_true (by first | (with_reducible assumption) | assumption)
                    have q425 : x5_1 < (l0.length : Int) := of_decide_eq_true (by first | (with_reducible assumption) | assumption)
                    obtain ⟨ad425, A425_3, c425_3, e425, hx425_0, hx425_1, hx425_2, hx425_3, hl425_3, hi425_3⟩ := at_T78 HR0.out x5_1 p425 q425
                    obtain rfl : ad421 = ad425 := (by injection e425)
                    have HR425_3 := Aside0.mk hi425_3
                    have HC425_3 := Aside0.mk hl425_3
                    clear hi425_3 hl425_3
                    replace p425 := eq_true p425
                    replace q425 := eq_true q425
                    have ea_ := Option.some.inj (hx421_3.symm.trans hx425_3)
                    injection ea_ with ea_ en_ ec_
                    subst ea_
                    subst ec_
                    clear en_
                    have p426 : 0 ≤ (x5_1 : Int) := of_decide_eq_true (by first | (with_reducible assumption) | assumption)
                    have q426 : x5_1 < (l1.length : Int) := of_decide_eq_true (by first | (with_reducible assumption) | assumption)
                    obtain ⟨ad426, A426_3, c426_3, e426, hx426_0, hx426_1, hx426_2, hx426_3, hl426_3, hi426_3⟩ := at_T78 HR1.out x5_1 p426 q426
                    obtain rfl : ad422 = ad426 := (by injection e426)
                    have HR426_3 := Aside0.mk hi426_3
                    have HC426_3 := Aside0.mk hl426_3
                    clear hi426_3 hl426_3
                    replace p426 := eq_true p426
                    replace q426 := eq_true q426
                    have ea_ := Option.some.inj (hx422_3.symm.trans hx426_3)
                    injection ea_ with ea_ en_ ec_
                    subst ea_
                    subst ec_
                    clear en_
                    go_wp2
                    repeat (go_quiet (fail); try go_wp2)
                    go_meet
                    case rel => exact ⟨_, (true), (by first | rfl | (simp; done) | (simp [*]; done)), H', ⟨by have := HK1.out; first | omega | exact Nat.le_refl _⟩, by repeat (first | exact Drawn0.refl _ | apply Drawn0.step)⟩
                  rw [if_neg c9] at H
                  have c9b0 : (((rd_T78 l0 x5_1).f1) == ((rd_T78 l1 x5_1).f1)) = false := beq_eq_false_iff_ne.mpr c9
                  have c9b1 : (((rd_T78 l0 x5_1).f1) != ((rd_T78 l1 x5_1).f1)) = true := bne_iff_ne.mpr c9
                  have H' := Aside0.mk H; clear H
                  have p421 : 0 ≤ (x5_1 : Int) := of_decide_eq_true (by first | (with_reducible assumption) | assumption)
                  have q421 : x5_1 < (l0.length : Int) := of_decide_eq_true (by first | (with_reducible assumption) | assumption)
                  obtain ⟨ad421, A421_3, c421_3, e421, hx421_0, hx421_1, hx421_2, hx421_3, hl421_3, hi421_3⟩ := at_T78 HR0.out x5_1 p421 q421
                  cases e421
                  have HR421_3 := Aside0.mk hi421_3
                  have HC421_3 := Aside0.mk hl421_3
                  clear hi421_3 hl421_3
                  replace p421 := eq_true p421
                  replace q421 := eq_true q421
                  have p422 : 0 ≤ (x5_1 : Int) := of_decide_eq_true (by first | (with_reducible assumption) | assumption)
                  have q422 : x5_1 < (l1.length : Int) := of_decide_eq_true (by first | (with_reducible assumption) | assumption)
                  obtain ⟨ad422, A422_3, c422_3, e422, hx422_0, hx422_1, hx422_2, hx422_3, hl422_3, hi422_3⟩ := at_T78 HR1.out x5_1 p422 q422
                  cases e422
                  have HR422_3 := Aside0.mk hi422_3
                  have HC422_3 := Aside0.mk hl422_3
                  clear hi422_3 hl422_3
                  replace p422 := eq_true p422
                  replace q422 := eq_true q422
                  have p423 : 0 ≤ (x5_1 : Int) := of_decide_eq_true (by first | (with_reducible assumption) | assumption)
                  have q423 : x5_1 < (l0.length : Int) := of_decide_eq_true (by first | (with_reducible assumption) | assumption)
                  obtain ⟨ad423, A423_3, c423_3, e423, hx423_0, hx423_1, hx423_2, hx423_3, hl423_3, hi423_3⟩ := at_T78 HR0.out x5_1 p423 q423
                  obtain rfl : ad421 = ad423 := (by injection e423)
                  have HR423_3 := Aside0.mk hi423_3
                  have HC423_3 := Aside0.mk hl423_3
                  clear hi423_3 hl423_3
                  replace p423 := eq_true p423
                  replace q423 := eq_true q423
                  have ea_ := Option.some.inj (hx421_3.symm.trans hx423_3)
                  injection ea_ with ea_ en_ ec_
                  subst ea_
                  subst ec_
                  clear en_
                  have p424 : 0 ≤ (x5_1 : Int) := of_decide_eq_true (by first | (with_reducible assumption) | assumption)
                  have q424 : x5_1 < (l1.length : Int) := of_decide_eq_true (by first | (with_reducible assumption) | assumption)
                  obtain ⟨ad424, A424_3, c424_3, e424, hx424_0, hx424_1, hx424_2, hx424_3, hl424_3, hi424_3⟩ := at_T78 HR1.out x5_1 p424 q424
                  obtain rfl : ad422 = ad424 := (by injection e424)
                  have HR424_3 := Aside0.mk hi424_3
                  have HC424_3 := Aside0.mk hl424_3
                  clear hi424_3 hl424_3
                  replace p424 := eq_true p424
                  replace q424 := eq_true q424
                  have ea_ := Option.some.inj (hx422_3.symm.trans hx424_3)
                  injection ea_ with ea_ en_ ec_
                  subst ea_
                  subst ec_
                  clear en_
                  go_wp2
                  repeat (go_quiet (fail); try go_wp2)
                  go_meet
                  case rel => exact ⟨_, (true), (by first | rfl | (simp; done) | (simp [*]; done)), H', ⟨by have := HK1.out; first | omega | exact Nat.le_refl _⟩, by repeat (first | exact Drawn0.refl _ | apply Drawn0.step)⟩
                rw [if_neg c8] at H
                have c8b0 : (((rd_T78 l0 x5_1).f0) == ((rd_T78 l1 x5_1).f0)) = false := beq_eq_false_iff_ne.mpr c8
                have c8b1 : (((rd_T78 l0 x5_1).f0) != ((rd_T78 l1 x5_1).f0)) = true := bne_iff_ne.mpr c8
                have H' := Aside0.mk H; clear H
                have p421 : 0 ≤ (x5_1 : Int) := of_decide_eq_true (by first | (with_reducible assumption) | assumption)
                have q421 : x5_1 < (l0.length : Int) := of_decide_eq_true (by first | (with_reducible assumption) | assumption)
                obtain ⟨ad421, A421_3, c421_3, e421, hx421_0, hx421_1, hx421_2, hx421_3, hl421_3, hi421_3⟩ := at_T78 HR0.out x5_1 p421 q421
                cases e421
                have HR421_3 := Aside0.mk hi421_3
                have HC421_3 := Aside0.mk hl421_3
                clear hi421_3 hl421_3
                replace p421 := eq_true p421
                replace q421 := eq_true q421
                have p422 : 0 ≤ (x5_1 : Int) := of_decide_eq_true (by first | (with_reducible assumption) | assumption)
                have q422 : x5_1 < (l1.length : Int) := of_decide_eq_true (by first | (with_reducible assumption) | assumption)
                obtain ⟨ad422, A422_3, c422_3, e422, hx422_0, hx422_1, hx422_2, hx422_3, hl422_3, hi422_3⟩ := at_T78 HR1.out x5_1 p422 q422
                cases e422
                have HR422_3 := Aside0.mk hi422_3
                have HC422_3 := Aside0.mk hl422_3
                clear hi422_3 hl422_3
                replace p422 := eq_true p422
                replace q422 := eq_true q422
                go_wp2
                repeat (go_quiet (fail); try go_wp2)
                go_meet
                case rel => exact ⟨_, (true), (by first | rfl | (simp; done) | (simp [*]; done)), H', ⟨by have := HK1.out; first | omega | exact Nat.le_refl _⟩, by repeat (first | exact Drawn0.refl _ | apply Drawn0.step)⟩
              rw [if_neg c7] at H
              exact absurd H (by simp)
            rw [if_neg c6] at H
            exact absurd H (by simp)
          clear HC5
          try clear c1
          try clear c3
          try clear c3b0
          try clear c3b1
          try clear c3b2
          try clear c4
          try clear c4b0
          try clear c6
          obtain ⟨kq, x69_4, rfl, HA, HJ4, ⟨mc4, rfl⟩⟩ := hcut
          cases kq with
          | zero => exact absurd HA.out (by simp [fescueref03_Same.j1])
          | succ kj4 =>
            have H := HA.out
            clear HA
            simp only [fescueref03_Same.j1] at H
            by_cases c11 : x69_4 = true
            · subst c11
              rw [if_pos rfl] at H
              obtain rfl := Option.some.inj H
              go_wp2
              repeat (go_quiet (fail); try go_wp2)
              go_ret
              exact ⟨by first | rfl | (simp; done) | (simp [*]; done), by repeat (first | exact Drawn0.refl _ | apply Drawn0.step)⟩
            replace c11 := Bool.eq_false_iff.mpr c11
            subst c11
            rw [if_neg (show ¬ (false = true) by decide)] at H
            have H' := Aside0.mk H; clear H
            go_wp2
            repeat (go_quiet (fail); try go_wp2)
            go_loopg [6] kj4 (fun kq v6 w' => ∃ (x6_3 : Int), v6 = .int .i64 x6_3 ∧ Aside0 (fescueref03_Same.l1 kq l0 l1 x5_1 x6_3 = some r) ∧ Aside0 (kq ≤ kj4) ∧ Drawn0 w w')
            case atStart => exact ⟨(0), (by first | rfl | (simp; done) | (simp [*]; done)), H', ⟨Nat.le_refl _⟩, by repeat (first | exact Drawn0.refl _ | apply Drawn0.step)⟩
            case round =>
              clear H'
              try clear c1
              try clear c3
              try clear c3b0
              try clear c3b1
              try clear c3b2
              try clear c4
              try clear c4b0
              try clear c6
              try clear c6b0
              try clear c7
              try clear c7b0
              try clear c8
              try clear c8b0
              try clear c8b1
              try clear c9
              try clear c11
              try clear hx421_0
              try clear hx421_1
              try clear hx421_2
              try clear hx421_3
              try clear hx422_0
              try clear hx422_1
              try clear hx422_2
              try clear hx422_3
              try clear p421
              try clear p422
              try clear q421
              try clear q422
              obtain ⟨x6_3, rfl, HA, HK3, ⟨m3, rfl⟩⟩ := hrel
              cases gk with
              | zero => exact absurd HA.out (by simp [fescueref03_Same.l1])
              | succ k3 =>
                have H := HA.out
                clear HA
                simp only [fescueref03_Same.l1] at H
                by_cases c12 : 0 ≤ x5_1
                · rw [if_pos c12] at H
                  have c12b0 : decide (0 ≤ x5_1) = true := decide_eq_true c12
                  clear c12
                  by_cases c13 : x5_1 < (l0.length : Int)
                  · rw [if_pos c13] at H
                    have c13b0 : decide (x5_1 < (l0.length : Int)) = true := decide_eq_true c13
                    clear c13
                    by_cases c14 : x6_3 < (((rd_T78 l0 x5_1).f3).length : Int)
                    · rw [if_pos c14] at H
                      have c14b0 : decide (x6_3 < (((rd_T78 l0 x5_1).f3).length : Int)) = true := decide_eq_true c14
                      clear c14
                      by_cases c15 : 0 ≤ x6_3
                      · rw [if_pos c15] at H
                        have c15b0 : decide (0 ≤ x6_3) = true := decide_eq_true c15
                        clear c15
                        by_cases c16 : x5_1 < (l1.length : Int)
                        · rw [if_pos c16] at H
                          have c16b0 : decide (x5_1 < (l1.length : Int)) = true := decide_eq_true c16
                          clear c16
                          by_cases c17 : x6_3 < (((rd_T78 l1 x5_1).f3).length : Int)
                          · rw [if_pos c17] at H
                            have c17b0 : decide (x6_3 < (((rd_T78 l1 x5_1).f3).length : Int)) = true := decide_eq_true c17
                            clear c17
                            by_cases c18 : (rd ((rd_T78 l0 x5_1).f3) x6_3) = (rd ((rd_T78 l1 x5_1).f3) x6_3)
                            · rw [if_pos c18] at H
                              have c18b0 : ((rd ((rd_T78 l0 x5_1).f3) x6_3) == (rd ((rd_T78 l1 x5_1).f3) x6_3)) = true := beq_iff_eq.mpr c18
                              have c18b1 : ((rd ((rd_T78 l0 x5_1).f3) x6_3) != (rd ((rd_T78 l1 x5_1).f3) x6_3)) = false := bne_eq_false_iff_eq.mpr c18
                              clear c18
                              have H' := Aside0.mk H; clear H
                              have p429 : 0 ≤ (x5_1 : Int) := of_decide_eq_true (by first | (with_reducible assumption) | assumption)
                              have q429 : x5_1 < (l0.length : Int) := of_decide_eq_true (by first | (with_reducible assumption) | assumption)
                              obtain ⟨ad429, A429_3, c429_3, e429, hx429_0, hx429_1, hx429_2, hx429_3, hl429_3, hi429_3⟩ := at_T78 HR0.out x5_1 p429 q429
                              cases e429
                              have HR429_3 := Aside0.mk hi429_3
                              have HC429_3 := Aside0.mk hl429_3
                              clear hi429_3 hl429_3
                              replace p429 := eq_true p429
                              replace q429 := eq_true q429
                              have p430 : 0 ≤ (x5_1 : Int) := of_decide_eq_true (by first | (with_reducible assumption) | assumption)
                              have q430 : x5_1 < (l0.length : Int) := of_decide_eq_true (by first | (with_reducible assumption) | assumption)
                              obtain ⟨ad430, A430_3, c430_3, e430, hx430_0, hx430_1, hx430_2, hx430_3, hl430_3, hi430_3⟩ := at_T78 HR0.out x5_1 p430 q430
                              obtain rfl : ad429 = ad430 := (by injection e430)
                              have HR430_3 := Aside0.mk hi430_3
                              have HC430_3 := Aside0.mk hl430_3
                              clear hi430_3 hl430_3
                              replace p430 := eq_true p430
                              replace q430 := eq_true q430
                              have ea_ := Option.some.inj (hx429_3.symm.trans hx430_3)
                              injection ea_ with ea_ en_ ec_
                              subst ea_
                              subst ec_
                              clear en_
                              have p431 : 0 ≤ (x6_3 : Int) := of_decide_eq_true (by first | (with_reducible assumption) | assumption)
                              have q431 : x6_3 < (((rd_T78 l0 x5_1).f3).length : Int) := of_decide_eq_true (by first | (with_reducible assumption) | assumption)
                              obtain ⟨ad431, e431, hx431_0⟩ := Kd.at_int HR430_3.out x6_3 p431 q431
                              cases e431
                              replace p431 := eq_true p431
                              replace q431 := eq_true q431
                              have p432 : 0 ≤ (x5_1 : Int) := of_decide_eq_true (by first | (with_reducible assumption) | assumption)
                              have q432 : x5_1 < (l1.length : Int) := of_decide_eq_true (by first | (with_reducible assumption) | assumption)
                              obtain ⟨ad432, A432_3, c432_3, e432, hx432_0, hx432_1, hx432_2, hx432_3, hl432_3, hi432_3⟩ := at_T78 HR1.out x5_1 p432 q432
                              cases e432
                              have HR432_3 := Aside0.mk hi432_3
                              have HC432_3 := Aside0.mk hl432_3
                              clear hi432_3 hl432_3
                              replace p432 := eq_true p432
                              replace q432 := eq_true q432
                              have p433 : 0 ≤ (x6_3 : Int) := of_decide_eq_true (by first | (with_reducible assumption) | assumption)
                              have q433 : x6_3 < (((rd_T78 l1 x5_1).f3).length : Int) := of_decide_eq_true (by first | (with_reducible assumption) | assumption)
                              obtain ⟨ad433, e433, hx433_0⟩ := Kd.at_int HR432_3.out x6_3 p433 q433
                              cases e433
                              replace p433 := eq_true p433
                              replace q433 := eq_true q433
                              go_wp2
                              repeat (go_quiet (fail); try go_wp2)
                              go_roundg k3
                              case measure => have := HK1.out; have := HJ4.out; have := HK3.out; omega
                              case rel => exact ⟨(wrap64 (x6_3 + 1)), (by first | rfl | (simp; done) | (simp [*]; done)), H', ⟨by have := HK1.out; have := HJ4.out; have := HK3.out; omega⟩, by repeat (first | exact Drawn0.refl _ | apply Drawn0.step)⟩
                            rw [if_neg c18] at H
                            have c18b0 : ((rd ((rd_T78 l0 x5_1).f3) x6_3) == (rd ((rd_T78 l1 x5_1).f3) x6_3)) = false := beq_eq_false_iff_ne.mpr c18
                            have c18b1 : ((rd ((rd_T78 l0 x5_1).f3) x6_3) != (rd ((rd_T78 l1 x5_1).f3) x6_3)) = true := bne_iff_ne.mpr c18
                            obtain rfl := Option.some.inj H
                            have p429 : 0 ≤ (x5_1 : Int) := of_decide_eq_true (by first | (with_reducible assumption) | assumption)
                            have q429 : x5_1 < (l0.length : Int) := of_decide_eq_true (by first | (with_reducible assumption) | assumption)
                            obtain ⟨ad429, A429_3, c429_3, e429, hx429_0, hx429_1, hx429_2, hx429_3, hl429_3, hi429_3⟩ := at_T78 HR0.out x5_1 p429 q429
                            cases e429
                            have HR429_3 := Aside0.mk hi429_3
                            have HC429_3 := Aside0.mk hl429_3
                            clear hi429_3 hl429_3
                            replace p429 := eq_true p429
                            replace q429 := eq_true q429
                            have p430 : 0 ≤ (x5_1 : Int) := of_decide_eq_true (by first | (with_reducible assumption) | assumption)
                            have q430 : x5_1 < (l0.length : Int) := of_decide_eq_true (by first | (with_reducible assumption) | assumption)
                            obtain ⟨ad430, A430_3, c430_3, e430, hx430_0, hx430_1, hx430_2, hx430_3, hl430_3, hi430_3⟩ := at_T78 HR0.out x5_1 p430 q430
                            obtain rfl : ad429 = ad430 := (by injection e430)
                            have HR430_3 := Aside0.mk hi430_3
                            have HC430_3 := Aside0.mk hl430_3
                            clear hi430_3 hl430_3
                            replace p430 := eq_true p430
                            replace q430 := eq_true q430
                            have ea_ := Option.some.inj (hx429_3.symm.trans hx430_3)
                            injection ea_ with ea_ en_ ec_
                            subst ea_
                            subst ec_
                            clear en_
                            have p431 : 0 ≤ (x6_3 : Int) := of_decide_eq_true (by first | (with_reducible assumption) | assumption)
                            have q431 : x6_3 < (((rd_T78 l0 x5_1).f3).length : Int) := of_decide_eq_true (by first | (with_reducible assumption) | assumption)
                            obtain ⟨ad431, e431, hx431_0⟩ := Kd.at_int HR430_3.out x6_3 p431 q431
                            cases e431
                            replace p431 := eq_true p431
                            replace q431 := eq_true q431
                            have p432 : 0 ≤ (x5_1 : Int) := of_decide_eq_true (by first | (with_reducible assumption) | assumption)
                            have q432 : x5_1 < (l1.length : Int) := of_decide_eq_true (by first | (with_reducible assumption) | assumption)
                            obtain ⟨ad432, A432_3, c432_3, e432, hx432_0, hx432_1, hx432_2, hx432_3, hl432_3, hi432_3⟩ := at_T78 HR1.out x5_1 p432 q432
                            cases e432
                            have HR432_3 := Aside0.mk hi432_3
                            have HC432_3 := Aside0.mk hl432_3
                            clear hi432_3 hl432_3
                            replace p432 := eq_true p432
                            replace q432 := eq_true q432
                            have p433 : 0 ≤ (x6_3 : Int) := of_decide_eq_true (by first | (with_reducible assumption) | assumption)
                            have q433 : x6_3 < (((rd_T78 l1 x5_1).f3).length : Int) := of_decide_eq_true (by first | (with_reducible assumption) | assumption)
                            obtain ⟨ad433, e433, hx433_0⟩ := Kd.at_int HR432_3.out x6_3 p433 q433
                            cases e433
                            replace p433 := eq_true p433
                            replace q433 := eq_true q433
                            go_wp2
                            repeat (go_quiet (fail); try go_wp2)
                            go_ret
                            exact ⟨by first | rfl | (simp; done) | (simp [*]; done), by repeat (first | exact Drawn0.refl _ | apply Drawn0.step)⟩
                          rw [if_neg c17] at H
                          exact absurd H (by simp)
                        rw [if_neg c16] at H
                        exact absurd H (by simp)
                      rw [if_neg c15] at H
                      exact absurd H (by simp)
                    rw [if_neg c14] at H
                    have c14b0 : decide (x6_3 < (((rd_T78 l0 x5_1).f3).length : Int)) = false := decide_eq_false c14
                    clear c14
                    have H' := Aside0.mk H; clear H
                    have p429 : 0 ≤ (x5_1 : Int) := of_decide_eq_true (by first | (with_reducible assumption) | assumption)
                    have q429 : x5_1 < (l0.length : Int) := of_decide_eq_true (by first | (with_reducible assumption) | assumption)
                    obtain ⟨ad429, A429_3, c429_3, e429, hx429_0, hx429_1, hx429_2, hx429_3, hl429_3, hi429_3⟩ := at_T78 HR0.out x5_1 p429 q429
                    cases e429
                    have HR429_3 := Aside0.mk hi429_3
                    have HC429_3 := Aside0.mk hl429_3
                    clear hi429_3 hl429_3
                    replace p429 := eq_true p429
                    replace q429 := eq_true q429
                    go_wp2
                    repeat (go_quiet (fail); try go_wp2)
                    go_roundg k3
                    case measure => have := HK1.out; have := HJ4.out; have := HK3.out; omega
                    case rel => exact ⟨(wrap64 (x5_1 + 1)), (by first | rfl | (simp; done) | (simp [*]; done)), H', ⟨by have := HK1.out; have := HJ4.out; have := HK3.out; omega⟩, by repeat (first | exact Drawn0.refl _ | apply Drawn0.step)⟩
                  rw [if_neg c13] at H
                  exact absurd H (by simp)
                rw [if_neg c12] at H
                exact absurd H (by simp)
        rw [if_neg c4] at H
        have c4b0 : decide (x5_1 < (l0.length : Int)) = false := decide_eq_false c4
        clear c4
        obtain rfl := Option.some.inj H
        go_wp2
        repeat (go_quiet (fail); try go_wp2)
        go_ret
        exact ⟨by first | rfl | (simp; done) | (simp [*]; done), by repeat (first | exact Drawn0.refl _ | apply Drawn0.step)⟩
  rw [if_neg c3] at H
  have c3b0 : ((l0.length : Int) == (l1.length : Int)) = false := beq_eq_false_iff_ne.mpr c3
  have c3b1 : ((l0.length : Int) != (l1.length : Int)) = true := bne_iff_ne.mpr c3
  have c3b2 : (l0.length == l1.length) = false := by first | simpa using c3 | (simp at c3 ⊢; omega)
  obtain rfl := Option.some.inj H
  go_enter Tryd.func46, Tryd.ntmps46
  go_wp2
  repeat (go_quiet (fail); try go_wp2)
  go_ret
  exact ⟨by first | rfl | (simp; done) | (simp [*]; done), by repeat (first | exact Drawn0.refl _ | apply Drawn0.step)⟩

end Go.Proofs.YtfjmpfecnemoiaaDoor.Q
