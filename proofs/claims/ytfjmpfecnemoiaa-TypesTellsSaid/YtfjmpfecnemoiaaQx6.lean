-- Printed by wip/myprint.py (a wrapper of this claim's session over the kit's print.py) out of the translation; Lean checks it.
import Derived.Test.YtfjmpfecnemoiaaQx0
import Derived.Test.YtfjmpfecnemoiaaQx3
import Derived.Test.YtfjmpfecnemoiaaQx5
namespace Go.Proofs.Ytfjmpfecnemoiaa.Q
open Go.RowKit Go.Proofs.YtfjmpfecnemoiaaW.PrintWords Go.Proofs.YtfjmpfecnemoiaaW.PrintLast Go.Proofs.YtfjmpfecnemoiaaW.PrintMore
attribute [local go_sem] max2_int min2_int max_two min_two max_three min_three max_four min_four   -- for this text's walks alone
set_option linter.unusedVariables false
set_option linter.unusedSimpArgs false

/-! ### fescueref03_Offset: function 34 -/
def fescueref03_Offset.f (k : Nat) (l0 : List (S31)) (a1 : Int) (a2 : Int) : Option (Int × Int) := (fescueref03_Part.f k l0 a1 a2).bind fun bt442 => (if bt442.2 = 0 then ((fescueref03_Ahead.f k l0 a1 a2).bind fun t444 => (some (t444, 0))) else (some (0, bt442.2)))
theorem fescueref03_Offset.mono : ∀ a0 a1 a2 k, LeO (fescueref03_Offset.f k a0 a1 a2) (fescueref03_Offset.f (k + 1) a0 a1 a2) := by
  intro a0 a1 a2 k
  unfold fescueref03_Offset.f
  repeat' first
      | (with_reducible exact fescueref03_Ahead.mono _ _ _ _)
      | (with_reducible exact fescueref03_Part.mono _ _ _ _)
      | (with_reducible exact LeO.refl _)
      | (with_reducible exact LeO.none _)
      | (with_reducible refine LeO.ite ?_ ?_)
      | (with_reducible refine LeO.bind ?_ (fun _ => ?_))
      | exact fescueref03_Ahead.mono _ _ _ _
      | exact fescueref03_Part.mono _ _ _ _
      | exact LeO.none _
      | refine LeO.ite ?_ ?_
      | refine LeO.bind ?_ (fun _ => ?_)
set_option maxHeartbeats 8000000 in
set_option maxRecDepth 100000 in
theorem fescueref03_Offset.calls (k : Nat) (A0 : Option Addr) (c0 : Nat) (l0 : List (S31)) (a1 : Int) (a2 : Int) (r1 : Int) (r2 : Int) (w : World) (hr0 : Kd.C k31 w A0 l0.length l0) (hc0 : l0.length ≤ c0) (h : fescueref03_Offset.f k l0 a1 a2 = some (r1, r2)) :
    Calls Try.prog 34 #[.slice A0 l0.length c0, .int .i64 a1, .int .i64 a2] w fun e w' => e = .returned (.tuple #[.int .i64 r1, .int .i64 r2]) ∧ Below w.heap.size w w' := by
  have HR0 := Aside0.mk hr0
  have HC0 := Aside0.mk hc0
  clear hr0 hc0
  have HB := Aside0.mk (Below.refl w.heap.size w)
  have H : ((fescueref03_Part.f k l0 a1 a2).bind fun bt442 => (if bt442.2 = 0 then ((fescueref03_Ahead.f k l0 a1 a2).bind fun t444 => (some (t444, 0))) else (some (0, bt442.2)))) = some (r1, r2) := h
  clear h
  replace H := Option.bind_eq_some_iff.mp H
  obtain ⟨⟨t442, t443⟩, A40, H⟩ := H
  replace H : (if t443 = 0 then ((fescueref03_Ahead.f k l0 a1 a2).bind fun t444 => (some (t444, 0))) else (some (0, t443))) = some (r1, r2) := H
  have A4 := Aside0.mk A40
  clear A40
  by_cases c5 : t443 = 0
  · rw [if_pos c5] at H
    have c5b0 : (t443 == 0) = true := beq_iff_eq.mpr c5
    have c5b1 : (t443 != 0) = false := bne_eq_false_iff_eq.mpr c5
    clear c5
    replace H := Option.bind_eq_some_iff.mp H
    obtain ⟨t444, A60, H⟩ := H
    replace H : (some (t444, 0)) = some (r1, r2) := H
    have A6 := Aside0.mk A60
    clear A60
    simp only [Option.some.injEq, Prod.mk.injEq] at H
    obtain ⟨rfl, rfl⟩ := H
    go_enter Try.func34, Try.ntmps34
    go_wp2_with (first | ((with_reducible refine gate_callee (f := 33) rfl ?_); refine goesL_ (some 14) rfl rfl Try.func33 (by kernel_rfl) rfl #[.slice A0 l0.length c0, .int .i64 a1, .int .i64 a2] rfl (by (try simp only [List.map_toArray, List.map_cons, List.map_nil]); first | done | rfl | (simp only [List.length_drop, List.length_take]; rfl)) ?_; (with_reducible refine (fescueref03_Part.calls k _ _ l0 a1 a2 t442 t443 _ ?side1 ?side2 A4.out).mono ?_); (case side1 => repeat (first | exact HR0.out | (with_reducible refine Kd.C_alloc ?_ _) | (with_reducible refine Kd.C_drewN ?_ _) | (with_reducible refine Kd.C_drew ?_))); (case side2 => exact HC0.out); rintro e w7 ⟨rfl, hb⟩; refine ⟨_, rfl, ?_⟩; have n0_ := Aside0.mk (below_step (by repeat (first | (with_reducible first | exact HB.out | apply below_alloc | apply pw_below_drewN | apply below_drew1) | exact HB.out)) hb); clear HB; have HB := n0_; clear n0_; (try clear hb); (try clear hb2); (try clear hk); (try clear hi)) | ((with_reducible refine gate_callee (f := 58) rfl ?_); refine goesL_ (some 23) rfl rfl Try.func58 (by kernel_rfl) rfl #[.slice A0 l0.length c0, .int .i64 a1, .int .i64 a2] rfl (by (try simp only [List.map_toArray, List.map_cons, List.map_nil]); first | done | rfl | (simp only [List.length_drop, List.length_take]; rfl)) ?_; (with_reducible refine (fescueref03_Ahead.calls k _ _ l0 a1 a2 t444 _ ?side1 ?side2 A6.out).mono ?_); (case side1 => repeat (first | exact (Kd.C_below HR0.out HB.out) | (with_reducible refine Kd.C_alloc ?_ _) | (with_reducible refine Kd.C_drewN ?_ _) | (with_reducible refine Kd.C_drew ?_))); (case side2 => exact HC0.out); rintro e w8 ⟨rfl, hb⟩; refine ⟨_, rfl, ?_⟩; have n0_ := Aside0.mk (below_step (by repeat (first | (with_reducible first | exact HB.out | apply below_alloc | apply pw_below_drewN | apply below_drew1) | exact HB.out)) hb); clear HB; have HB := n0_; clear n0_; (try clear hb); (try clear hb2); (try clear hk); (try clear hi)))
    go_ret2
    exact ⟨by first | rfl | (simp [errW_none, errW_some] <;> rfl) | (simp [*, errW_none, errW_some] <;> rfl), by repeat (first | (with_reducible first | exact HB.out | apply below_alloc | apply pw_below_drewN | apply below_drew1) | exact HB.out)⟩
  · rw [if_neg c5] at H
    have c5b0 : (t443 == 0) = false := beq_eq_false_iff_ne.mpr c5
    have c5b1 : (t443 != 0) = true := bne_iff_ne.mpr c5
    simp only [Option.some.injEq, Prod.mk.injEq] at H
    obtain ⟨rfl, rfl⟩ := H
    go_enter Try.func34, Try.ntmps34
    go_wp2_with (first | ((with_reducible refine gate_callee (f := 33) rfl ?_); refine goesL_ (some 14) rfl rfl Try.func33 (by kernel_rfl) rfl #[.slice A0 l0.length c0, .int .i64 a1, .int .i64 a2] rfl (by (try simp only [List.map_toArray, List.map_cons, List.map_nil]); first | done | rfl | (simp only [List.length_drop, List.length_take]; rfl)) ?_; (with_reducible refine (fescueref03_Part.calls k _ _ l0 a1 a2 t442 t443 _ ?side1 ?side2 A4.out).mono ?_); (case side1 => repeat (first | exact HR0.out | (with_reducible refine Kd.C_alloc ?_ _) | (with_reducible refine Kd.C_drewN ?_ _) | (with_reducible refine Kd.C_drew ?_))); (case side2 => exact HC0.out); rintro e w9 ⟨rfl, hb⟩; refine ⟨_, rfl, ?_⟩; have n0_ := Aside0.mk (below_step (by repeat (first | (with_reducible first | exact HB.out | apply below_alloc | apply pw_below_drewN | apply below_drew1) | exact HB.out)) hb); clear HB; have HB := n0_; clear n0_; (try clear hb); (try clear hb2); (try clear hk); (try clear hi)))
    go_ret2
    exact ⟨by first | rfl | (simp [errW_none, errW_some] <;> rfl) | (simp [*, errW_none, errW_some] <;> rfl), by repeat (first | (with_reducible first | exact HB.out | apply below_alloc | apply pw_below_drewN | apply below_drew1) | exact HB.out)⟩

/-! ### fescueref04_Of: function 59 -/
mutual
def fescueref04_Of.l0 : Nat → List (S31) → List Int → Int → Int → Int → Int → List Int → Option (List Int)
  | 0, _, _, _, _, _, _, _ => none
  | k + 1, x0, x6, x7, x519000, x519001, x519002, x519003 => if x7 < (x519003.length : Int) then (if 0 ≤ x7 then ((fescueref04_Of.f k x0 (rd x519003 x7)).bind fun t526 => (if x6.length + t526.length < 17592186044416 then (fescueref04_Of.l0 k x0 (x6 ++ t526) (wrap64 (x7 + 1)) x519000 x519001 x519002 x519003) else (none))) else (none)) else (some x6)
def fescueref04_Of.f : Nat → List (S31) → Int → Option (List Int)
  | 0, _, _ => none
  | k + 1, l0, a1 => if 0 ≤ a1 then (if a1 < (l0.length : Int) then (if ((rd_T31 l0 a1).f0) = 5 then ((fescueref04_Of.f k l0 ((rd_T31 l0 a1).f1)).bind fun t519 => (some t519)) else (if ((rd_T31 l0 a1).f0) = 4 then (fescueref04_Of.l0 k l0 ([] : List Int) 0 ((rd_T31 l0 a1).f0) ((rd_T31 l0 a1).f1) ((rd_T31 l0 a1).f2) ((rd_T31 l0 a1).f3)) else (some (([a1] : List Int))))) else (none)) else (none)
end
theorem fescueref04_Of.mono_l : ∀ k, (∀ y0 y1, LeO (fescueref04_Of.f k y0 y1) (fescueref04_Of.f (k + 1) y0 y1)) ∧ (∀ y0 y1 y2 y3 y4 y5 y6, LeO (fescueref04_Of.l0 k y0 y1 y2 y3 y4 y5 y6) (fescueref04_Of.l0 (k + 1) y0 y1 y2 y3 y4 y5 y6))
  | 0 => ⟨fun _ _ r h => by simp [fescueref04_Of.f] at h, fun _ _ _ _ _ _ _ r h => by simp [fescueref04_Of.l0] at h⟩
  | k + 1 => by
    obtain ⟨ih0, ih1⟩ := fescueref04_Of.mono_l k
    refine ⟨?_, ?_⟩
    · intro y0 y1
      unfold fescueref04_Of.f
      repeat' first
      | (with_reducible exact ih0 _ _)
      | (with_reducible exact ih1 _ _ _ _ _ _ _)
      | (with_reducible exact LeO.refl _)
      | (with_reducible exact LeO.none _)
      | (with_reducible refine LeO.ite ?_ ?_)
      | (with_reducible refine LeO.bind ?_ (fun _ => ?_))
      | exact ih0 _ _
      | exact ih1 _ _ _ _ _ _ _
      | exact LeO.none _
      | refine LeO.ite ?_ ?_
      | refine LeO.bind ?_ (fun _ => ?_)
    · intro y0 y1 y2 y3 y4 y5 y6
      unfold fescueref04_Of.l0
      repeat' first
      | (with_reducible exact ih0 _ _)
      | (with_reducible exact ih1 _ _ _ _ _ _ _)
      | (with_reducible exact LeO.refl _)
      | (with_reducible exact LeO.none _)
      | (with_reducible refine LeO.ite ?_ ?_)
      | (with_reducible refine LeO.bind ?_ (fun _ => ?_))
      | exact ih0 _ _
      | exact ih1 _ _ _ _ _ _ _
      | exact LeO.none _
      | refine LeO.ite ?_ ?_
      | refine LeO.bind ?_ (fun _ => ?_)
theorem fescueref04_Of.mono : ∀ a0 a1 k, LeO (fescueref04_Of.f k a0 a1) (fescueref04_Of.f (k + 1) a0 a1) := by
  intro a0 a1 k
  obtain ⟨ih0, ih1⟩ := fescueref04_Of.mono_l k
  exact ih0 a0 a1
set_option maxHeartbeats 8000000 in
set_option maxRecDepth 100000 in
theorem fescueref04_Of.calls (k : Nat) : ∀ (A0 : Option Addr) (c0 : Nat) (l0 : List (S31)) (a1 : Int) (r : List Int) (w : World) (hr0 : Kd.C k31 w A0 l0.length l0) (hc0 : l0.length ≤ c0) (h : fescueref04_Of.f k l0 a1 = some r),
    Calls Try.prog 59 #[.slice A0 l0.length c0, .int .i64 a1] w fun e w' => ∃ v0_ : Value, e = .returned (v0_) ∧ Kd.R (Kd.int .i64) 3 w' w.heap.size (fun _ => True) v0_ r ∧ Below w.heap.size w w' := by
  induction k using Nat.strongRecOn with
  | _ k ih =>
  intro A0 c0 l0 a1 r w hr0 hc0 h
  cases k with
  | zero => exact absurd h (by simp [fescueref04_Of.f])
  | succ k =>
  simp only [fescueref04_Of.f] at h
  have hu31 := Try.underlying31
  have HR0 := Aside0.mk hr0
  have HC0 := Aside0.mk hc0
  clear hr0 hc0
  have HB := Aside0.mk (Below.refl w.heap.size w)
  have H : (if 0 ≤ a1 then (if a1 < (l0.length : Int) then (if ((rd_T31 l0 a1).f0) = 5 then ((fescueref04_Of.f k l0 ((rd_T31 l0 a1).f1)).bind fun t519 => (some t519)) else (if ((rd_T31 l0 a1).f0) = 4 then (fescueref04_Of.l0 k l0 ([] : List Int) 0 ((rd_T31 l0 a1).f0) ((rd_T31 l0 a1).f1) ((rd_T31 l0 a1).f2) ((rd_T31 l0 a1).f3)) else (some (([a1] : List Int))))) else (none)) else (none)) = some r := h
  clear h
  by_cases c3 : 0 ≤ a1
  · rw [if_pos c3] at H
    have c3b0 : decide (0 ≤ a1) = true := decide_eq_true c3
    clear c3
    by_cases c4 : a1 < (l0.length : Int)
    · rw [if_pos c4] at H
      have c4b0 : decide (a1 < (l0.length : Int)) = true := decide_eq_true c4
      clear c4
      by_cases c5 : ((rd_T31 l0 a1).f0) = 5
      · rw [if_pos c5] at H
        have c5b0 : (((rd_T31 l0 a1).f0) == 5) = true := beq_iff_eq.mpr c5
        have c5b1 : (((rd_T31 l0 a1).f0) != 5) = false := bne_eq_false_iff_eq.mpr c5
        clear c5
        replace H := Option.bind_eq_some_iff.mp H
        obtain ⟨t519, A60, H⟩ := H
        replace H : (some t519) = some r := H
        have A6 := Aside0.mk A60
        clear A60
        obtain rfl := Option.some.inj H
        have p517 : 0 ≤ (a1 : Int) := of_decide_eq_true (by first | (with_reducible assumption) | assumption)
        have q517 : a1 < (l0.length : Int) := of_decide_eq_true (by first | (with_reducible assumption) | assumption)
        obtain ⟨ad517, A517_3, c517_3, e517, hx517_0, hx517_1, hx517_2, hx517_3, hl517_3, hi517_3⟩ := at_T31 HR0.out a1 p517 q517
        cases e517
        have HR517_3 := Aside0.mk hi517_3
        have HC517_3 := Aside0.mk hl517_3
        clear hi517_3 hl517_3
        replace p517 := eq_true p517
        replace q517 := eq_true q517
        go_enter Try.func59, Try.ntmps59
        go_wp2_with (first | ((with_reducible refine gate_dst (N := 5) rfl ?_); refine box_event ?hg (N := 5) ?hd (cs := #[.int .u8 0, .int .i64 0, .int .i64 0, .slice none 0 0]) (t := 31) ?hr ?_; (case hd => rfl); (case hg => rfl); (case hr => first | (go_simp; done) | (go_simp; rfl)); intro gb518 hg w7 hbox hb; have n0_ := Aside0.mk (below_step (by repeat (first | (with_reducible first | exact HB.out | apply below_alloc | apply pw_below_drewN | apply below_drew1) | exact HB.out)) hb); have n1_ := Aside0.mk (hbox); have n2_ := Aside0.mk ((by rw [hg]; exact (below_size (by repeat (first | (with_reducible first | exact HB.out | apply below_alloc | apply pw_below_drewN | apply below_drew1) | exact HB.out))) : w.heap.size ≤ gb518)); have n3_ := Aside0.mk ((by rw [hg]; exact (below_size (by repeat (first | (with_reducible first | exact HB.out | apply below_alloc | apply pw_below_drewN | apply below_drew1) | exact HB.out))) : w.heap.size ≤ gb518)); clear HB; have HB := n0_; have BK518 := n1_; have GW518 := n2_; have GE518 := n3_; clear n0_ n1_ n2_ n3_; clear hb hbox hg; have hcz8_0 : w7.cell? ⟨gb518, 0, none⟩ = some (.int .u8 0) := (blk_cell BK518.out 0).trans rfl; have hcz8_1 : w7.cell? ⟨gb518, 1, none⟩ = some (.int .i64 0) := (blk_cell BK518.out 1).trans rfl; have hcz8_2 : w7.cell? ⟨gb518, 2, none⟩ = some (.int .i64 0) := (blk_cell BK518.out 2).trans rfl; have hcz8_3 : w7.cell? ⟨gb518, 3, none⟩ = some (.slice none 0 0) := (blk_cell BK518.out 3).trans rfl; have hfz8_0 := blk_frozen BK518.out 0; have hfz8_1 := blk_frozen BK518.out 1; have hfz8_2 := blk_frozen BK518.out 2; have hfz8_3 := blk_frozen BK518.out 3) | ((with_reducible refine gate_callee (f := 59) rfl ?_); refine goesL_ (some 18) rfl rfl Try.func59 (by kernel_rfl) rfl #[.slice (some ad517) l0.length c0, .int .i64 ((rd_T31 l0 a1).f1)] rfl (by (try simp only [List.map_toArray, List.map_cons, List.map_nil]); first | done | rfl | (simp only [List.length_drop, List.length_take]; rfl)) ?_; (with_reducible refine (ih k (by omega) _ _ l0 ((rd_T31 l0 a1).f1) t519 _ ?side1 ?side2 A6.out).mono ?_); (case side1 => exact Kd.C_below HR0.out (by repeat (first | (with_reducible first | exact HB.out | apply below_alloc | apply pw_below_drewN | apply below_drew1 | refine below_set ?_ GE518.out) | exact HB.out))); (case side2 => exact HC0.out); rintro e w9 ⟨v520, rfl, ho0, hb⟩; refine ⟨_, rfl, ?_⟩; have n0_ := Aside0.mk (Kd.R_lower ho0 (below_size (by repeat (first | (with_reducible first | exact HB.out | apply below_alloc | apply pw_below_drewN | apply below_drew1 | refine below_set ?_ GE518.out) | exact HB.out)))); have n1_ := Aside0.mk (blk_below (g := gb518) (o := .cells #[.int .u8 ((rd_T31 l0 a1).f0), .int .i64 ((rd_T31 l0 a1).f1), .int .i64 ((rd_T31 l0 a1).f2), .slice A517_3 ((rd_T31 l0 a1).f3).length c517_3] 31 (0, 0)) (by (with_reducible repeat (first | refine blk_drewN ?_ _ | refine blk_drew ?_ | refine blk_alloc ?_ _)); refine blk_put (cs := #[.int .u8 ((rd_T31 l0 a1).f0), .int .i64 ((rd_T31 l0 a1).f1), .int .i64 ((rd_T31 l0 a1).f2), .slice none 0 0]) ?_ 3 _ rfl; (with_reducible repeat (first | refine blk_drewN ?_ _ | refine blk_drew ?_ | refine blk_alloc ?_ _)); refine blk_put (cs := #[.int .u8 ((rd_T31 l0 a1).f0), .int .i64 ((rd_T31 l0 a1).f1), .int .i64 0, .slice none 0 0]) ?_ 2 _ rfl; (with_reducible repeat (first | refine blk_drewN ?_ _ | refine blk_drew ?_ | refine blk_alloc ?_ _)); refine blk_put (cs := #[.int .u8 ((rd_T31 l0 a1).f0), .int .i64 0, .int .i64 0, .slice none 0 0]) ?_ 1 _ rfl; (with_reducible repeat (first | refine blk_drewN ?_ _ | refine blk_drew ?_ | refine blk_alloc ?_ _)); refine blk_put (cs := #[.int .u8 0, .int .i64 0, .int .i64 0, .slice none 0 0]) ?_ 0 _ rfl; (with_reducible repeat (first | refine blk_drewN ?_ _ | refine blk_drew ?_ | refine blk_alloc ?_ _)); exact BK518.out) hb); have n2_ := Aside0.mk (below_step (by repeat (first | (with_reducible first | exact HB.out | apply below_alloc | apply pw_below_drewN | apply below_drew1 | refine below_set ?_ GE518.out) | exact HB.out)) hb); clear BK518; clear HB; have HO521 := n0_; have BK518 := n1_; have HB := n2_; clear n0_ n1_ n2_; (try clear hb); (try clear hb2); (try clear hk); (try clear hi); (try clear ho0)))
        go_ret
        exact ⟨_, by first | rfl | (simp [errW_none, errW_some] <;> rfl) | (simp [*, errW_none, errW_some] <;> rfl), by (with_reducible repeat (first | apply Kd.R_alloc | apply Kd.R_drewN | apply Kd.R_drew)); exact HO521.out, by repeat (first | (with_reducible first | exact HB.out | apply below_alloc | apply pw_below_drewN | apply below_drew1 | refine below_set ?_ GE518.out) | exact HB.out)⟩
      · rw [if_neg c5] at H
        have c5b0 : (((rd_T31 l0 a1).f0) == 5) = false := beq_eq_false_iff_ne.mpr c5
        have c5b1 : (((rd_T31 l0 a1).f0) != 5) = true := bne_iff_ne.mpr c5
        by_cases c10 : ((rd_T31 l0 a1).f0) = 4
        · rw [if_pos c10] at H
          have c10b0 : (((rd_T31 l0 a1).f0) == 4) = true := beq_iff_eq.mpr c10
          have c10b1 : (((rd_T31 l0 a1).f0) != 4) = false := bne_eq_false_iff_eq.mpr c10
          clear c10
          have H' := Aside0.mk H
          clear H
          have p517 : 0 ≤ (a1 : Int) := of_decide_eq_true (by first | (with_reducible assumption) | assumption)
          have q517 : a1 < (l0.length : Int) := of_decide_eq_true (by first | (with_reducible assumption) | assumption)
          obtain ⟨ad517, A517_3, c517_3, e517, hx517_0, hx517_1, hx517_2, hx517_3, hl517_3, hi517_3⟩ := at_T31 HR0.out a1 p517 q517
          cases e517
          have HR517_3 := Aside0.mk hi517_3
          have HC517_3 := Aside0.mk hl517_3
          clear hi517_3 hl517_3
          replace p517 := eq_true p517
          replace q517 := eq_true q517
          go_enter Try.func59, Try.ntmps59
          go_wp2_with (first | ((with_reducible refine gate_dst (N := 5) rfl ?_); refine box_event ?hg (N := 5) ?hd (cs := #[.int .u8 0, .int .i64 0, .int .i64 0, .slice none 0 0]) (t := 31) ?hr ?_; (case hd => rfl); (case hg => rfl); (case hr => first | (go_simp; done) | (go_simp; rfl)); intro gb518 hg w11 hbox hb; have n0_ := Aside0.mk (below_step (by repeat (first | (with_reducible first | exact HB.out | apply below_alloc | apply pw_below_drewN | apply below_drew1) | exact HB.out)) hb); have n1_ := Aside0.mk (hbox); have n2_ := Aside0.mk ((by rw [hg]; exact (below_size (by repeat (first | (with_reducible first | exact HB.out | apply below_alloc | apply pw_below_drewN | apply below_drew1) | exact HB.out))) : w.heap.size ≤ gb518)); have n3_ := Aside0.mk ((by rw [hg]; exact (below_size (by repeat (first | (with_reducible first | exact HB.out | apply below_alloc | apply pw_below_drewN | apply below_drew1) | exact HB.out))) : w.heap.size ≤ gb518)); clear HB; have HB := n0_; have BK518 := n1_; have GW518 := n2_; have GE518 := n3_; clear n0_ n1_ n2_ n3_; clear hb hbox hg; have hcz12_0 : w11.cell? ⟨gb518, 0, none⟩ = some (.int .u8 0) := (blk_cell BK518.out 0).trans rfl; have hcz12_1 : w11.cell? ⟨gb518, 1, none⟩ = some (.int .i64 0) := (blk_cell BK518.out 1).trans rfl; have hcz12_2 : w11.cell? ⟨gb518, 2, none⟩ = some (.int .i64 0) := (blk_cell BK518.out 2).trans rfl; have hcz12_3 : w11.cell? ⟨gb518, 3, none⟩ = some (.slice none 0 0) := (blk_cell BK518.out 3).trans rfl; have hfz12_0 := blk_frozen BK518.out 0; have hfz12_1 := blk_frozen BK518.out 1; have hfz12_2 := blk_frozen BK518.out 2; have hfz12_3 := blk_frozen BK518.out 3))
          go_loopg [6, 7] k (fun kq v6 v7 w' => ∃ (x6_1 : List Int) (x7_1 : Int), v7 = .int .i64 x7_1 ∧ Aside0 (fescueref04_Of.l0 kq l0 x6_1 x7_1 ((rd_T31 l0 a1).f0) ((rd_T31 l0 a1).f1) ((rd_T31 l0 a1).f2) ((rd_T31 l0 a1).f3) = some r) ∧ Aside0 (kq ≤ k) ∧ Aside0 (Kd.R (Kd.int .i64) 3 w' w.heap.size (fun _ => True) v6 x6_1) ∧ Aside0 (w'.heap[gb518]? = some (.cells #[.int .u8 ((rd_T31 l0 a1).f0), .int .i64 ((rd_T31 l0 a1).f1), .int .i64 ((rd_T31 l0 a1).f2), (.slice A517_3 ((rd_T31 l0 a1).f3).length c517_3)] 31 (0, 0))) ∧ Aside0 (Below w.heap.size w w'))
          case atStart => exact ⟨(([] : List Int)), (0), (by first | rfl | (simp; done) | (simp [*]; done)), H', ⟨Nat.le_refl _⟩, ⟨by first | exact Kd.R_nil _ _ _ _ _ | exact Kd.N_nil _ _ _ _ _ | exact Kd.V_nil _ _ _ _ _ | exact Kd.Q_nil _ _ _ _ _ | exact Kd.S_nil _ _ _ _ _⟩, ⟨by (with_reducible repeat (first | refine blk_drewN ?_ _ | refine blk_drew ?_ | refine blk_alloc ?_ _)); refine blk_put (cs := #[.int .u8 ((rd_T31 l0 a1).f0), .int .i64 ((rd_T31 l0 a1).f1), .int .i64 ((rd_T31 l0 a1).f2), .slice none 0 0]) ?_ 3 _ rfl; (with_reducible repeat (first | refine blk_drewN ?_ _ | refine blk_drew ?_ | refine blk_alloc ?_ _)); refine blk_put (cs := #[.int .u8 ((rd_T31 l0 a1).f0), .int .i64 ((rd_T31 l0 a1).f1), .int .i64 0, .slice none 0 0]) ?_ 2 _ rfl; (with_reducible repeat (first | refine blk_drewN ?_ _ | refine blk_drew ?_ | refine blk_alloc ?_ _)); refine blk_put (cs := #[.int .u8 ((rd_T31 l0 a1).f0), .int .i64 0, .int .i64 0, .slice none 0 0]) ?_ 1 _ rfl; (with_reducible repeat (first | refine blk_drewN ?_ _ | refine blk_drew ?_ | refine blk_alloc ?_ _)); refine blk_put (cs := #[.int .u8 0, .int .i64 0, .int .i64 0, .slice none 0 0]) ?_ 0 _ rfl; (with_reducible repeat (first | refine blk_drewN ?_ _ | refine blk_drew ?_ | refine blk_alloc ?_ _)); exact BK518.out⟩, ⟨by repeat (first | (with_reducible first | exact HB.out | apply below_alloc | apply pw_below_drewN | apply below_drew1 | refine below_set ?_ GE518.out) | exact HB.out)⟩⟩
          case round =>
            clear H'
            try clear c1
            try clear p2
            try clear c3
            try clear c3b0
            try clear c4
            try clear c4b0
            try clear c5
            try clear c5b0
            try clear c5b1
            try clear p5
            try clear q5
            try clear hx5
            try clear c10
            try clear c10b0
            try clear c10b1
            try clear hcz12_0
            try clear hcz12_1
            try clear hcz12_2
            try clear hcz12_3
            try clear hcz8_0
            try clear hcz8_1
            try clear hcz8_2
            try clear hcz8_3
            try clear hfz12_0
            try clear hfz12_1
            try clear hfz12_2
            try clear hfz12_3
            try clear hfz8_0
            try clear hfz8_1
            try clear hfz8_2
            try clear hfz8_3
            try clear hx517_0
            try clear hx517_1
            try clear hx517_2
            try clear hx517_3
            try clear p517
            try clear q517
            obtain ⟨x6_1, x7_1, rfl, HA, HK1, HO_6, BK518, HB⟩ := hrel
            cases gk with
            | zero => exact absurd HA.out (by simp [fescueref04_Of.l0])
            | succ k1 =>
              have H := HA.out
              clear HA
              simp only [fescueref04_Of.l0] at H
              by_cases c13 : x7_1 < (((rd_T31 l0 a1).f3).length : Int)
              · rw [if_pos c13] at H
                have c13b0 : decide (x7_1 < (((rd_T31 l0 a1).f3).length : Int)) = true := decide_eq_true c13
                clear c13
                by_cases c14 : 0 ≤ x7_1
                · rw [if_pos c14] at H
                  have c14b0 : decide (0 ≤ x7_1) = true := decide_eq_true c14
                  clear c14
                  replace H := Option.bind_eq_some_iff.mp H
                  obtain ⟨t526, A150, H⟩ := H
                  replace H : (if x6_1.length + t526.length < 17592186044416 then (fescueref04_Of.l0 k1 l0 (x6_1 ++ t526) (wrap64 (x7_1 + 1)) ((rd_T31 l0 a1).f0) ((rd_T31 l0 a1).f1) ((rd_T31 l0 a1).f2) ((rd_T31 l0 a1).f3)) else (none)) = some r := H
                  have A15 := Aside0.mk A150
                  clear A150
                  by_cases c16 : x6_1.length + t526.length < 17592186044416
                  · rw [if_pos c16] at H
                    have LMc16 := Aside0.mk c16
                    clear c16
                    obtain ⟨y529, hy529⟩ : ∃ y_ : List Int, y_ = (x6_1 ++ t526) := ⟨_, rfl⟩
                    replace H : (fescueref04_Of.l0 k1 l0 y529 (wrap64 (x7_1 + 1)) ((rd_T31 l0 a1).f0) ((rd_T31 l0 a1).f1) ((rd_T31 l0 a1).f2) ((rd_T31 l0 a1).f3)) = some r := by first | (rw [hy529]; with_reducible exact H) | (have H2_ := (Option.bind_some _ _).symm.trans H; rw [hy529]; with_reducible exact H2_) | (have H2_ := (Option.bind_some _ _).symm.trans H; with_reducible exact H2_) | with_reducible exact H | (rw [hy529]; exact H) | exact H
                    have Ny529 := Aside0.mk hy529
                    clear hy529
                    have H' := Aside0.mk H
                    clear H
                    have hcz17_0 : wr.cell? ⟨gb518, 0, none⟩ = some (.int .u8 ((rd_T31 l0 a1).f0)) := (blk_cell BK518.out 0).trans rfl
                    have hcz17_1 : wr.cell? ⟨gb518, 1, none⟩ = some (.int .i64 ((rd_T31 l0 a1).f1)) := (blk_cell BK518.out 1).trans rfl
                    have hcz17_2 : wr.cell? ⟨gb518, 2, none⟩ = some (.int .i64 ((rd_T31 l0 a1).f2)) := (blk_cell BK518.out 2).trans rfl
                    have hcz17_3 : wr.cell? ⟨gb518, 3, none⟩ = some (.slice A517_3 ((rd_T31 l0 a1).f3).length c517_3) := (blk_cell BK518.out 3).trans rfl
                    have hfz17_0 := blk_frozen BK518.out 0
                    have hfz17_1 := blk_frozen BK518.out 1
                    have hfz17_2 := blk_frozen BK518.out 2
                    have hfz17_3 := blk_frozen BK518.out 3
                    have p525 : 0 ≤ (x7_1 : Int) := of_decide_eq_true (by first | (with_reducible assumption) | assumption)
                    have q525 : x7_1 < (((rd_T31 l0 a1).f3).length : Int) := of_decide_eq_true (by first | (with_reducible assumption) | assumption)
                    obtain ⟨ad525, e525, hx525_0⟩ := Kd.at_int HR517_3.out x7_1 p525 q525
                    cases e525
                    replace hx525_0 := (HB.out.cell (World.block_lt_of_cell? w _ hx525_0)).trans hx525_0
                    replace p525 := eq_true p525
                    replace q525 := eq_true q525
                    go_wp2_with (first | ((with_reducible refine gate_callee (f := 59) rfl ?_); refine goesL_ (some 38) rfl rfl Try.func59 (by kernel_rfl) rfl #[.slice (some ad517) l0.length c0, .int .i64 (rd ((rd_T31 l0 a1).f3) x7_1)] rfl (by (try simp only [List.map_toArray, List.map_cons, List.map_nil]); first | done | rfl | (simp only [List.length_drop, List.length_take]; rfl)) ?_; (with_reducible refine (ih k1 (by have := HK1.out; omega) _ _ l0 (rd ((rd_T31 l0 a1).f3) x7_1) t526 _ ?side1 ?side2 A15.out).mono ?_); (case side1 => repeat (first | exact (Kd.C_below HR0.out HB.out) | (with_reducible refine Kd.C_alloc ?_ _) | (with_reducible refine Kd.C_drewN ?_ _) | (with_reducible refine Kd.C_drew ?_))); (case side2 => exact HC0.out); rintro e w18 ⟨v527, rfl, ho0, hb⟩; refine ⟨_, rfl, ?_⟩; have n0_ := Aside0.mk (Kd.R_elder' (by (with_reducible repeat (first | apply Kd.R_alloc | apply Kd.R_drewN | apply Kd.R_drew)); exact HO_6.out) (Kd.R_base ho0) hb); have n1_ := Aside0.mk (Kd.R_lower (Kd.R_new' ho0 (Kd.R_lt (by (with_reducible repeat (first | apply Kd.R_alloc | apply Kd.R_drewN | apply Kd.R_drew)); exact HO_6.out))) (below_size (by repeat (first | (with_reducible first | exact HB.out | apply below_alloc | apply pw_below_drewN | apply below_drew1 | refine below_set ?_ GE518.out) | exact HB.out)))); have n2_ := Aside0.mk (blk_below (g := gb518) (o := .cells #[.int .u8 ((rd_T31 l0 a1).f0), .int .i64 ((rd_T31 l0 a1).f1), .int .i64 ((rd_T31 l0 a1).f2), .slice (some ad525) ((rd_T31 l0 a1).f3).length c517_3] 31 (0, 0)) (by (with_reducible repeat (first | refine blk_drewN ?_ _ | refine blk_drew ?_ | refine blk_alloc ?_ _)); exact BK518.out) hb); have n3_ := Aside0.mk (below_step (by repeat (first | (with_reducible first | exact HB.out | apply below_alloc | apply pw_below_drewN | apply below_drew1 | refine below_set ?_ GE518.out) | exact HB.out)) hb); clear HO_6; clear BK518; clear HB; have HO_6 := n0_; have HO528 := n1_; have BK518 := n2_; have HB := n3_; clear n0_ n1_ n2_ n3_; (try clear hb); (try clear hb2); (try clear hk); (try clear hi); (try clear ho0); obtain ⟨Ao20, co20, eo20⟩ := Kd.R_slice HO528.out; subst eo20) | ((with_reducible refine gate_builtin (b := .append) (xs := #[.tmp 31, .tmp 38]) rfl ?_); at_builtin; refine Kd.R_append_rows (Kd.int .i64) (w0 := w) w.heap.size rfl (.tmp 31) (.tmp 38) 29 3 (.int .i64 0) 8 rfl Try.underlying29 info3 rfl (by decide) (by omega) u6 x6_1 t526 _ _ _ (fun k_ => some k_ ≠ (.slice Ao20 t526.length co20 : Value).ownBlock) (fun _ => False) rfl rfl ?aO ?aR (fun _ _ h => h) (fun _ h => h.elim) ?aF ?aB ?aS ?aL ?_; (case aR => repeat (first | exact (Kd.R_reads' HO528.out).2.2 | (with_reducible refine Kd.C_alloc ?_ _) | (with_reducible refine Kd.C_drewN ?_ _) | (with_reducible refine Kd.C_drew ?_))); (case aB => exact (by repeat (first | (with_reducible first | exact HB.out | apply below_alloc | apply pw_below_drewN | apply below_drew1 | refine below_set ?_ GE518.out) | exact HB.out))); (case aF => exact (fun k_ hk => Kd.fresh' (Kd.R_lt (by (with_reducible repeat (first | apply Kd.R_alloc | apply Kd.R_drewN | apply Kd.R_drew)); exact HO528.out)) k_ hk)); (case aO => exact (by (with_reducible repeat (first | apply Kd.R_alloc | apply Kd.R_drewN | apply Kd.R_drew)); exact Kd.R_mono HO_6.out (fun _ hk => hk.2))); (case aS => exact (below_size (by repeat (first | (with_reducible first | exact HB.out | apply below_alloc | apply pw_below_drewN | apply below_drew1 | refine below_set ?_ GE518.out) | exact HB.out)))); (case aL => have := LMc16.out; omega); intro v530 w19 ho hb hg hat; rw [← Ny529.out] at ho; have n0_ := Aside0.mk (blk_grown (g := gb518) (o := .cells #[.int .u8 ((rd_T31 l0 a1).f0), .int .i64 ((rd_T31 l0 a1).f1), .int .i64 ((rd_T31 l0 a1).f2), .slice (some ad525) ((rd_T31 l0 a1).f3).length c517_3] 31 (0, 0)) (by (with_reducible repeat (first | refine blk_drewN ?_ _ | refine blk_drew ?_ | refine blk_alloc ?_ _)); exact BK518.out) hg (Kd.R_ne HO_6.out BK518.out (by decide))); have n1_ := Aside0.mk (Kd.R_after (ok := (fun _ => True)) (by (with_reducible repeat (first | apply Kd.R_alloc | apply Kd.R_drewN | apply Kd.R_drew)); exact HO528.out) hg hat); have n2_ := Aside0.mk (hb); have n3_ := Aside0.mk (ho); clear BK518; clear HO528; clear HB; clear HO_6; have BK518 := n0_; have HO528 := n1_; have HB := n2_; have HO531 := n3_; clear n0_ n1_ n2_ n3_; clear ho hb hg hat))
                    go_roundg k1
                    case measure => have := HK1.out; omega
                    case rel => exact ⟨(y529), (wrap64 (x7_1 + 1)), (by first | rfl | (simp; done) | (simp [*]; done)), H', ⟨by have := HK1.out; omega⟩, ⟨by (with_reducible repeat (first | apply Kd.R_alloc | apply Kd.R_drewN | apply Kd.R_drew)); exact Kd.R_mono HO531.out (fun _ hk => trivial)⟩, ⟨by (with_reducible repeat (first | refine blk_drewN ?_ _ | refine blk_drew ?_ | refine blk_alloc ?_ _)); exact BK518.out⟩, ⟨by repeat (first | (with_reducible first | exact HB.out | apply below_alloc | apply pw_below_drewN | apply below_drew1 | refine below_set ?_ GE518.out) | exact HB.out)⟩⟩
                  · rw [if_neg c16] at H
                    exact absurd H (by simp)
                · rw [if_neg c14] at H
                  exact absurd H (by simp)
              · rw [if_neg c13] at H
                have c13b0 : decide (x7_1 < (((rd_T31 l0 a1).f3).length : Int)) = false := decide_eq_false c13
                clear c13
                obtain rfl := Option.some.inj H
                have hcz21_0 : wr.cell? ⟨gb518, 0, none⟩ = some (.int .u8 ((rd_T31 l0 a1).f0)) := (blk_cell BK518.out 0).trans rfl
                have hcz21_1 : wr.cell? ⟨gb518, 1, none⟩ = some (.int .i64 ((rd_T31 l0 a1).f1)) := (blk_cell BK518.out 1).trans rfl
                have hcz21_2 : wr.cell? ⟨gb518, 2, none⟩ = some (.int .i64 ((rd_T31 l0 a1).f2)) := (blk_cell BK518.out 2).trans rfl
                have hcz21_3 : wr.cell? ⟨gb518, 3, none⟩ = some (.slice A517_3 ((rd_T31 l0 a1).f3).length c517_3) := (blk_cell BK518.out 3).trans rfl
                have hfz21_0 := blk_frozen BK518.out 0
                have hfz21_1 := blk_frozen BK518.out 1
                have hfz21_2 := blk_frozen BK518.out 2
                have hfz21_3 := blk_frozen BK518.out 3
                go_wp2
                go_ret
                exact ⟨_, by first | rfl | (simp [errW_none, errW_some] <;> rfl) | (simp [*, errW_none, errW_some] <;> rfl), by (with_reducible repeat (first | apply Kd.R_alloc | apply Kd.R_drewN | apply Kd.R_drew)); exact HO_6.out, by repeat (first | (with_reducible first | exact HB.out | apply below_alloc | apply pw_below_drewN | apply below_drew1 | refine below_set ?_ GE518.out) | exact HB.out)⟩
        · rw [if_neg c10] at H
          have c10b0 : (((rd_T31 l0 a1).f0) == 4) = false := beq_eq_false_iff_ne.mpr c10
          have c10b1 : (((rd_T31 l0 a1).f0) != 4) = true := bne_iff_ne.mpr c10
          obtain ⟨y522, hy522⟩ : ∃ y_ : List Int, y_ = (([a1] : List Int)) := ⟨_, rfl⟩
          replace H : (some y522) = some r := by first | (rw [hy522]; with_reducible exact H) | (have H2_ := (Option.bind_some _ _).symm.trans H; rw [hy522]; with_reducible exact H2_) | (have H2_ := (Option.bind_some _ _).symm.trans H; with_reducible exact H2_) | with_reducible exact H | (rw [hy522]; exact H) | exact H
          have Ny522 := Aside0.mk hy522
          clear hy522
          obtain rfl := Option.some.inj H
          have p517 : 0 ≤ (a1 : Int) := of_decide_eq_true (by first | (with_reducible assumption) | assumption)
          have q517 : a1 < (l0.length : Int) := of_decide_eq_true (by first | (with_reducible assumption) | assumption)
          obtain ⟨ad517, A517_3, c517_3, e517, hx517_0, hx517_1, hx517_2, hx517_3, hl517_3, hi517_3⟩ := at_T31 HR0.out a1 p517 q517
          cases e517
          have HR517_3 := Aside0.mk hi517_3
          have HC517_3 := Aside0.mk hl517_3
          clear hi517_3 hl517_3
          replace p517 := eq_true p517
          replace q517 := eq_true q517
          go_enter Try.func59, Try.ntmps59
          go_wp2_with (first | ((with_reducible refine gate_dst (N := 5) rfl ?_); refine box_event ?hg (N := 5) ?hd (cs := #[.int .u8 0, .int .i64 0, .int .i64 0, .slice none 0 0]) (t := 31) ?hr ?_; (case hd => rfl); (case hg => rfl); (case hr => first | (go_simp; done) | (go_simp; rfl)); intro gb518 hg w22 hbox hb; have n0_ := Aside0.mk (below_step (by repeat (first | (with_reducible first | exact HB.out | apply below_alloc | apply pw_below_drewN | apply below_drew1) | exact HB.out)) hb); have n1_ := Aside0.mk (hbox); have n2_ := Aside0.mk ((by rw [hg]; exact (below_size (by repeat (first | (with_reducible first | exact HB.out | apply below_alloc | apply pw_below_drewN | apply below_drew1) | exact HB.out))) : w.heap.size ≤ gb518)); have n3_ := Aside0.mk ((by rw [hg]; exact (below_size (by repeat (first | (with_reducible first | exact HB.out | apply below_alloc | apply pw_below_drewN | apply below_drew1) | exact HB.out))) : w.heap.size ≤ gb518)); clear HB; have HB := n0_; have BK518 := n1_; have GW518 := n2_; have GE518 := n3_; clear n0_ n1_ n2_ n3_; clear hb hbox hg; have hcz23_0 : w22.cell? ⟨gb518, 0, none⟩ = some (.int .u8 0) := (blk_cell BK518.out 0).trans rfl; have hcz23_1 : w22.cell? ⟨gb518, 1, none⟩ = some (.int .i64 0) := (blk_cell BK518.out 1).trans rfl; have hcz23_2 : w22.cell? ⟨gb518, 2, none⟩ = some (.int .i64 0) := (blk_cell BK518.out 2).trans rfl; have hcz23_3 : w22.cell? ⟨gb518, 3, none⟩ = some (.slice none 0 0) := (blk_cell BK518.out 3).trans rfl; have hfz23_0 := blk_frozen BK518.out 0; have hfz23_1 := blk_frozen BK518.out 1; have hfz23_2 := blk_frozen BK518.out 2; have hfz23_3 := blk_frozen BK518.out 3) | ((with_reducible refine gate_dst (N := 23) rfl ?_); refine Kd.R_lit (Kd.int .i64) _ 3 ?hg (N := 23) ?hd (xs := ([a1] : List Int)) (inner := [.int .i64 a1]) (ok := fun _ => True) (okp := fun _ => True) ?hr ?hp (fun _ hk => hk) trivial (Below.refl _ _) (Nat.le_refl _) (by simp) ?_; (case hd => rfl); (case hg => rfl); (case hr => first | (go_simp; done) | (go_simp; rfl)); (case hp => exact (Reps.one (show Kd.M (Kd.int .i64) _ _ _ a1 [.int .i64 a1] from rfl) (Reps.none _ _))); intro v523 w24 ho25 hb hg_ hnew_; clear hg_ hnew_; (first | rw [← Ny522.out] at ho25 | (simp only [Int.reduceToNat] at ho25; rw [← Ny522.out] at ho25)); have n0_ := Aside0.mk (Kd.R_lower ho25 (below_size (by repeat (first | (with_reducible first | exact HB.out | apply below_alloc | apply pw_below_drewN | apply below_drew1 | refine below_set ?_ GE518.out) | exact HB.out)))); have n1_ := Aside0.mk (blk_below (g := gb518) (o := .cells #[.int .u8 ((rd_T31 l0 a1).f0), .int .i64 ((rd_T31 l0 a1).f1), .int .i64 ((rd_T31 l0 a1).f2), .slice A517_3 ((rd_T31 l0 a1).f3).length c517_3] 31 (0, 0)) (by (with_reducible repeat (first | refine blk_drewN ?_ _ | refine blk_drew ?_ | refine blk_alloc ?_ _)); refine blk_put (cs := #[.int .u8 ((rd_T31 l0 a1).f0), .int .i64 ((rd_T31 l0 a1).f1), .int .i64 ((rd_T31 l0 a1).f2), .slice none 0 0]) ?_ 3 _ rfl; (with_reducible repeat (first | refine blk_drewN ?_ _ | refine blk_drew ?_ | refine blk_alloc ?_ _)); refine blk_put (cs := #[.int .u8 ((rd_T31 l0 a1).f0), .int .i64 ((rd_T31 l0 a1).f1), .int .i64 0, .slice none 0 0]) ?_ 2 _ rfl; (with_reducible repeat (first | refine blk_drewN ?_ _ | refine blk_drew ?_ | refine blk_alloc ?_ _)); refine blk_put (cs := #[.int .u8 ((rd_T31 l0 a1).f0), .int .i64 0, .int .i64 0, .slice none 0 0]) ?_ 1 _ rfl; (with_reducible repeat (first | refine blk_drewN ?_ _ | refine blk_drew ?_ | refine blk_alloc ?_ _)); refine blk_put (cs := #[.int .u8 0, .int .i64 0, .int .i64 0, .slice none 0 0]) ?_ 0 _ rfl; (with_reducible repeat (first | refine blk_drewN ?_ _ | refine blk_drew ?_ | refine blk_alloc ?_ _)); exact BK518.out) hb); have n2_ := Aside0.mk (below_step (by repeat (first | (with_reducible first | exact HB.out | apply below_alloc | apply pw_below_drewN | apply below_drew1 | refine below_set ?_ GE518.out) | exact HB.out)) hb); clear BK518; clear HB; have HO524 := n0_; have BK518 := n1_; have HB := n2_; clear n0_ n1_ n2_; clear hb ho25))
          go_ret
          exact ⟨_, by first | rfl | (simp [errW_none, errW_some] <;> rfl) | (simp [*, errW_none, errW_some] <;> rfl), by (with_reducible repeat (first | apply Kd.R_alloc | apply Kd.R_drewN | apply Kd.R_drew)); exact HO524.out, by repeat (first | (with_reducible first | exact HB.out | apply below_alloc | apply pw_below_drewN | apply below_drew1 | refine below_set ?_ GE518.out) | exact HB.out)⟩
    · rw [if_neg c4] at H
      exact absurd H (by simp)
  · rw [if_neg c3] at H
    exact absurd H (by simp)

/-! ### fescueref04_Fields: function 36 -/
def fescueref04_Fields.f (k : Nat) (l0 : List (S31)) (a1 : Int) : Option (List Int × Int) := (fescueref03_Cells.f k l0 a1).bind fun bt532 => (if bt532.2 = 0 then ((fescueref04_Of.f k l0 a1).bind fun t536 => (some (t536, 0))) else (some (([] : List Int), bt532.2)))
theorem fescueref04_Fields.mono : ∀ a0 a1 k, LeO (fescueref04_Fields.f k a0 a1) (fescueref04_Fields.f (k + 1) a0 a1) := by
  intro a0 a1 k
  unfold fescueref04_Fields.f
  repeat' first
      | (with_reducible exact fescueref03_Cells.mono _ _ _)
      | (with_reducible exact fescueref04_Of.mono _ _ _)
      | (with_reducible exact LeO.refl _)
      | (with_reducible exact LeO.none _)
      | (with_reducible refine LeO.ite ?_ ?_)
      | (with_reducible refine LeO.bind ?_ (fun _ => ?_))
      | exact fescueref03_Cells.mono _ _ _
      | exact fescueref04_Of.mono _ _ _
      | exact LeO.none _
      | refine LeO.ite ?_ ?_
      | refine LeO.bind ?_ (fun _ => ?_)
set_option maxHeartbeats 8000000 in
set_option maxRecDepth 100000 in
theorem fescueref04_Fields.calls (k : Nat) (A0 : Option Addr) (c0 : Nat) (l0 : List (S31)) (a1 : Int) (r1 : List Int) (r2 : Int) (w : World) (hr0 : Kd.C k31 w A0 l0.length l0) (hc0 : l0.length ≤ c0) (h : fescueref04_Fields.f k l0 a1 = some (r1, r2)) :
    Calls Try.prog 36 #[.slice A0 l0.length c0, .int .i64 a1] w fun e w' => ∃ v0_ : Value, e = .returned (.tuple #[v0_, .int .i64 r2]) ∧ Kd.R (Kd.int .i64) 3 w' w.heap.size (fun _ => True) v0_ r1 ∧ Below w.heap.size w w' := by
  have HR0 := Aside0.mk hr0
  have HC0 := Aside0.mk hc0
  clear hr0 hc0
  have HB := Aside0.mk (Below.refl w.heap.size w)
  have H : ((fescueref03_Cells.f k l0 a1).bind fun bt532 => (if bt532.2 = 0 then ((fescueref04_Of.f k l0 a1).bind fun t536 => (some (t536, 0))) else (some (([] : List Int), bt532.2)))) = some (r1, r2) := h
  clear h
  replace H := Option.bind_eq_some_iff.mp H
  obtain ⟨⟨t532, t533⟩, A30, H⟩ := H
  replace H : (if t533 = 0 then ((fescueref04_Of.f k l0 a1).bind fun t536 => (some (t536, 0))) else (some (([] : List Int), t533))) = some (r1, r2) := H
  have A3 := Aside0.mk A30
  clear A30
  by_cases c4 : t533 = 0
  · rw [if_pos c4] at H
    have c4b0 : (t533 == 0) = true := beq_iff_eq.mpr c4
    have c4b1 : (t533 != 0) = false := bne_eq_false_iff_eq.mpr c4
    clear c4
    replace H := Option.bind_eq_some_iff.mp H
    obtain ⟨t536, A50, H⟩ := H
    replace H : (some (t536, 0)) = some (r1, r2) := H
    have A5 := Aside0.mk A50
    clear A50
    simp only [Option.some.injEq, Prod.mk.injEq] at H
    obtain ⟨rfl, rfl⟩ := H
    go_enter Try.func36, Try.ntmps36
    go_wp2_with (first | ((with_reducible refine gate_callee (f := 32) rfl ?_); refine goesL_ (some 11) rfl rfl Try.func32 (by kernel_rfl) rfl #[.slice A0 l0.length c0, .int .i64 a1] rfl (by (try simp only [List.map_toArray, List.map_cons, List.map_nil]); first | done | rfl | (simp only [List.length_drop, List.length_take]; rfl)) ?_; (with_reducible refine (fescueref03_Cells.calls k _ _ l0 a1 t532 t533 _ ?side1 ?side2 A3.out).mono ?_); (case side1 => repeat (first | exact HR0.out | (with_reducible refine Kd.C_alloc ?_ _) | (with_reducible refine Kd.C_drewN ?_ _) | (with_reducible refine Kd.C_drew ?_))); (case side2 => exact HC0.out); rintro e w6 ⟨v534, rfl, ho0, hb⟩; refine ⟨_, rfl, ?_⟩; have n0_ := Aside0.mk (Kd.R_lower ho0 (below_size (by repeat (first | (with_reducible first | exact HB.out | apply below_alloc | apply pw_below_drewN | apply below_drew1) | exact HB.out)))); have n1_ := Aside0.mk (below_step (by repeat (first | (with_reducible first | exact HB.out | apply below_alloc | apply pw_below_drewN | apply below_drew1) | exact HB.out)) hb); clear HB; have HO535 := n0_; have HB := n1_; clear n0_ n1_; (try clear hb); (try clear hb2); (try clear hk); (try clear hi); (try clear ho0)) | ((with_reducible refine gate_callee (f := 59) rfl ?_); refine goesL_ (some 19) rfl rfl Try.func59 (by kernel_rfl) rfl #[.slice A0 l0.length c0, .int .i64 a1] rfl (by (try simp only [List.map_toArray, List.map_cons, List.map_nil]); first | done | rfl | (simp only [List.length_drop, List.length_take]; rfl)) ?_; (with_reducible refine (fescueref04_Of.calls k _ _ l0 a1 t536 _ ?side1 ?side2 A5.out).mono ?_); (case side1 => repeat (first | exact (Kd.C_below HR0.out HB.out) | (with_reducible refine Kd.C_alloc ?_ _) | (with_reducible refine Kd.C_drewN ?_ _) | (with_reducible refine Kd.C_drew ?_))); (case side2 => exact HC0.out); rintro e w7 ⟨v537, rfl, ho0, hb⟩; refine ⟨_, rfl, ?_⟩; have n0_ := Aside0.mk (Kd.R_elder' (by (with_reducible repeat (first | apply Kd.R_alloc | apply Kd.R_drewN | apply Kd.R_drew)); exact HO535.out) (Kd.R_base ho0) hb); have n1_ := Aside0.mk (Kd.R_lower (Kd.R_new' ho0 (Kd.R_lt (by (with_reducible repeat (first | apply Kd.R_alloc | apply Kd.R_drewN | apply Kd.R_drew)); exact HO535.out))) (below_size (by repeat (first | (with_reducible first | exact HB.out | apply below_alloc | apply pw_below_drewN | apply below_drew1) | exact HB.out)))); have n2_ := Aside0.mk (below_step (by repeat (first | (with_reducible first | exact HB.out | apply below_alloc | apply pw_below_drewN | apply below_drew1) | exact HB.out)) hb); clear HO535; clear HB; have HO535 := n0_; have HO538 := n1_; have HB := n2_; clear n0_ n1_ n2_; (try clear hb); (try clear hb2); (try clear hk); (try clear hi); (try clear ho0)))
    go_ret2
    exact ⟨_, by first | rfl | (simp [errW_none, errW_some] <;> rfl) | (simp [*, errW_none, errW_some] <;> rfl), by (with_reducible repeat (first | apply Kd.R_alloc | apply Kd.R_drewN | apply Kd.R_drew)); exact Kd.R_mono HO538.out (fun _ hk => trivial), by repeat (first | (with_reducible first | exact HB.out | apply below_alloc | apply pw_below_drewN | apply below_drew1) | exact HB.out)⟩
  · rw [if_neg c4] at H
    have c4b0 : (t533 == 0) = false := beq_eq_false_iff_ne.mpr c4
    have c4b1 : (t533 != 0) = true := bne_iff_ne.mpr c4
    simp only [Option.some.injEq, Prod.mk.injEq] at H
    obtain ⟨rfl, rfl⟩ := H
    go_enter Try.func36, Try.ntmps36
    go_wp2_with (first | ((with_reducible refine gate_callee (f := 32) rfl ?_); refine goesL_ (some 11) rfl rfl Try.func32 (by kernel_rfl) rfl #[.slice A0 l0.length c0, .int .i64 a1] rfl (by (try simp only [List.map_toArray, List.map_cons, List.map_nil]); first | done | rfl | (simp only [List.length_drop, List.length_take]; rfl)) ?_; (with_reducible refine (fescueref03_Cells.calls k _ _ l0 a1 t532 t533 _ ?side1 ?side2 A3.out).mono ?_); (case side1 => repeat (first | exact HR0.out | (with_reducible refine Kd.C_alloc ?_ _) | (with_reducible refine Kd.C_drewN ?_ _) | (with_reducible refine Kd.C_drew ?_))); (case side2 => exact HC0.out); rintro e w8 ⟨v534, rfl, ho0, hb⟩; refine ⟨_, rfl, ?_⟩; have n0_ := Aside0.mk (Kd.R_lower ho0 (below_size (by repeat (first | (with_reducible first | exact HB.out | apply below_alloc | apply pw_below_drewN | apply below_drew1) | exact HB.out)))); have n1_ := Aside0.mk (below_step (by repeat (first | (with_reducible first | exact HB.out | apply below_alloc | apply pw_below_drewN | apply below_drew1) | exact HB.out)) hb); clear HB; have HO535 := n0_; have HB := n1_; clear n0_ n1_; (try clear hb); (try clear hb2); (try clear hk); (try clear hi); (try clear ho0)))
    go_ret2
    exact ⟨_, by first | rfl | (simp [errW_none, errW_some] <;> rfl) | (simp [*, errW_none, errW_some] <;> rfl), by first | exact Kd.R_nil _ _ _ _ _ | exact Kd.N_nil _ _ _ _ _ | exact Kd.V_nil _ _ _ _ _ | exact Kd.Q_nil _ _ _ _ _ | exact Kd.S_nil _ _ _ _ _, by repeat (first | (with_reducible first | exact HB.out | apply below_alloc | apply pw_below_drewN | apply below_drew1) | exact HB.out)⟩

/-! ### fescueref04_At: function 60 -/
mutual
def fescueref04_At.l0 : Nat → List (S31) → Int → Int → Int → Int → Int → Int → List Int → Option (Int)
  | 0, _, _, _, _, _, _, _, _ => none
  | k + 1, x0, x2, x8, x9, x541000, x541001, x541002, x541003 => if x9 < (x541003.length : Int) then (if 0 ≤ x9 then ((fescueref03_Of.f k x0 (rd x541003 x9)).bind fun t546 => (if x2 < (t546.length : Int) then ((fescueref04_At.f k x0 (rd x541003 x9) x2).bind fun t550 => (some (wrap64 (x8 + t550)))) else ((fescueref04_Of.f k x0 (rd x541003 x9)).bind fun t552 => (fescueref04_At.l0 k x0 (wrap64 (x2 - (t546.length : Int))) (wrap64 (x8 + (t552.length : Int))) (wrap64 (x9 + 1)) x541000 x541001 x541002 x541003)))) else (none)) else (some 0)
def fescueref04_At.f : Nat → List (S31) → Int → Int → Option (Int)
  | 0, _, _, _ => none
  | k + 1, l0, a1, a2 => if 0 ≤ a1 then (if a1 < (l0.length : Int) then (if ((rd_T31 l0 a1).f0) = 5 then ((fescueref03_Of.f k l0 ((rd_T31 l0 a1).f1)).bind fun t541 => (if (t541.length : Int) = 0 then (none) else ((fescueref04_At.f k l0 ((rd_T31 l0 a1).f1) (Int.tmod a2 (t541.length : Int))).bind fun t544 => (some t544)))) else (if ((rd_T31 l0 a1).f0) = 4 then (fescueref04_At.l0 k l0 a2 0 0 ((rd_T31 l0 a1).f0) ((rd_T31 l0 a1).f1) ((rd_T31 l0 a1).f2) ((rd_T31 l0 a1).f3)) else (some 0))) else (none)) else (none)
end
theorem fescueref04_At.mono_l : ∀ k, (∀ y0 y1 y2, LeO (fescueref04_At.f k y0 y1 y2) (fescueref04_At.f (k + 1) y0 y1 y2)) ∧ (∀ y0 y1 y2 y3 y4 y5 y6 y7, LeO (fescueref04_At.l0 k y0 y1 y2 y3 y4 y5 y6 y7) (fescueref04_At.l0 (k + 1) y0 y1 y2 y3 y4 y5 y6 y7))
  | 0 => ⟨fun _ _ _ r h => by simp [fescueref04_At.f] at h, fun _ _ _ _ _ _ _ _ r h => by simp [fescueref04_At.l0] at h⟩
  | k + 1 => by
    obtain ⟨ih0, ih1⟩ := fescueref04_At.mono_l k
    refine ⟨?_, ?_⟩
    · intro y0 y1 y2
      unfold fescueref04_At.f
      repeat' first
      | (with_reducible exact ih0 _ _ _)
      | (with_reducible exact ih1 _ _ _ _ _ _ _ _)
      | (with_reducible exact fescueref03_Of.mono _ _ _)
      | (with_reducible exact fescueref04_Of.mono _ _ _)
      | (with_reducible exact LeO.refl _)
      | (with_reducible exact LeO.none _)
      | (with_reducible refine LeO.ite ?_ ?_)
      | (with_reducible refine LeO.bind ?_ (fun _ => ?_))
      | exact ih0 _ _ _
      | exact ih1 _ _ _ _ _ _ _ _
      | exact fescueref03_Of.mono _ _ _
      | exact fescueref04_Of.mono _ _ _
      | exact LeO.none _
      | refine LeO.ite ?_ ?_
      | refine LeO.bind ?_ (fun _ => ?_)
    · intro y0 y1 y2 y3 y4 y5 y6 y7
      unfold fescueref04_At.l0
      repeat' first
      | (with_reducible exact ih0 _ _ _)
      | (with_reducible exact ih1 _ _ _ _ _ _ _ _)
      | (with_reducible exact fescueref03_Of.mono _ _ _)
      | (with_reducible exact fescueref04_Of.mono _ _ _)
      | (with_reducible exact LeO.refl _)
      | (with_reducible exact LeO.none _)
      | (with_reducible refine LeO.ite ?_ ?_)
      | (with_reducible refine LeO.bind ?_ (fun _ => ?_))
      | exact ih0 _ _ _
      | exact ih1 _ _ _ _ _ _ _ _
      | exact fescueref03_Of.mono _ _ _
      | exact fescueref04_Of.mono _ _ _
      | exact LeO.none _
      | refine LeO.ite ?_ ?_
      | refine LeO.bind ?_ (fun _ => ?_)
theorem fescueref04_At.mono : ∀ a0 a1 a2 k, LeO (fescueref04_At.f k a0 a1 a2) (fescueref04_At.f (k + 1) a0 a1 a2) := by
  intro a0 a1 a2 k
  obtain ⟨ih0, ih1⟩ := fescueref04_At.mono_l k
  exact ih0 a0 a1 a2
def fescueref04_At.T3 : Bool × List (List Nat × List Nat) := (true, [([], []), ([], []), ([1], [1]), ([], []), ([], []), ([], []), ([5], [5]), ([4, 6], [4, 6]), ([7], [7]), ([3, 8], [3, 8]), ([0, 2, 9, 7], [0, 2, 9]), ([10, 10, 0, 1, 2, 3, 4, 5, 6, 7, 8, 9, 10], [10])])
def fescueref04_At.B3 : List Nat := [0, 0, 2, 0, 0, 0, 32, 112, 240, 504, 1023, 2047]
theorem fescueref04_At.tab3 : rtab .any (opsOf Try.f60 3) = fescueref04_At.T3 := by kernel_rfl
theorem fescueref04_At.bits3 : waitsOk fescueref04_At.T3.2 fescueref04_At.B3 = true := by kernel_rfl
set_option maxHeartbeats 8000000 in
set_option maxRecDepth 100000 in
theorem fescueref04_At.calls (k : Nat) : ∀ (A0 : Option Addr) (c0 : Nat) (l0 : List (S31)) (a1 : Int) (a2 : Int) (r : Int) (w : World) (hr0 : Kd.C k31 w A0 l0.length l0) (hc0 : l0.length ≤ c0) (h : fescueref04_At.f k l0 a1 a2 = some r),
    Calls Try.prog 60 #[.slice A0 l0.length c0, .int .i64 a1, .int .i64 a2] w fun e w' => e = .returned (.int .i64 r) ∧ Below w.heap.size w w' := by
  induction k using Nat.strongRecOn with
  | _ k ih =>
  intro A0 c0 l0 a1 a2 r w hr0 hc0 h
  cases k with
  | zero => exact absurd h (by simp [fescueref04_At.f])
  | succ k =>
  simp only [fescueref04_At.f] at h
  have hu31 := Try.underlying31
  have HR0 := Aside0.mk hr0
  have HC0 := Aside0.mk hc0
  clear hr0 hc0
  have HB := Aside0.mk (Below.refl w.heap.size w)
  have H : (if 0 ≤ a1 then (if a1 < (l0.length : Int) then (if ((rd_T31 l0 a1).f0) = 5 then ((fescueref03_Of.f k l0 ((rd_T31 l0 a1).f1)).bind fun t541 => (if (t541.length : Int) = 0 then (none) else ((fescueref04_At.f k l0 ((rd_T31 l0 a1).f1) (Int.tmod a2 (t541.length : Int))).bind fun t544 => (some t544)))) else (if ((rd_T31 l0 a1).f0) = 4 then (fescueref04_At.l0 k l0 a2 0 0 ((rd_T31 l0 a1).f0) ((rd_T31 l0 a1).f1) ((rd_T31 l0 a1).f2) ((rd_T31 l0 a1).f3)) else (some 0))) else (none)) else (none)) = some r := h
  clear h
  by_cases c4 : 0 ≤ a1
  · rw [if_pos c4] at H
    have c4b0 : decide (0 ≤ a1) = true := decide_eq_true c4
    clear c4
    by_cases c5 : a1 < (l0.length : Int)
    · rw [if_pos c5] at H
      have c5b0 : decide (a1 < (l0.length : Int)) = true := decide_eq_true c5
      clear c5
      by_cases c6 : ((rd_T31 l0 a1).f0) = 5
      · rw [if_pos c6] at H
        have c6b0 : (((rd_T31 l0 a1).f0) == 5) = true := beq_iff_eq.mpr c6
        have c6b1 : (((rd_T31 l0 a1).f0) != 5) = false := bne_eq_false_iff_eq.mpr c6
        clear c6
        replace H := Option.bind_eq_some_iff.mp H
        obtain ⟨t541, A70, H⟩ := H
        replace H : (if (t541.length : Int) = 0 then (none) else ((fescueref04_At.f k l0 ((rd_T31 l0 a1).f1) (Int.tmod a2 (t541.length : Int))).bind fun t544 => (some t544))) = some r := H
        have A7 := Aside0.mk A70
        clear A70
        by_cases c8 : (t541.length : Int) = 0
        · rw [if_pos c8] at H
          exact absurd H (by simp)
        · rw [if_neg c8] at H
          have c8b0 : ((t541.length : Int) == 0) = false := beq_eq_false_iff_ne.mpr c8
          have c8b1 : ((t541.length : Int) != 0) = true := bne_iff_ne.mpr c8
          have c8b2 : ¬ (t541 = []) := fun h_ => c8 (by rw [h_]; rfl)
          replace H := Option.bind_eq_some_iff.mp H
          obtain ⟨t544, A90, H⟩ := H
          replace H : (some t544) = some r := H
          have A9 := Aside0.mk A90
          clear A90
          obtain rfl := Option.some.inj H
          have p539 : 0 ≤ (a1 : Int) := of_decide_eq_true (by first | (with_reducible assumption) | assumption)
          have q539 : a1 < (l0.length : Int) := of_decide_eq_true (by first | (with_reducible assumption) | assumption)
          obtain ⟨ad539, A539_3, c539_3, e539, hx539_0, hx539_1, hx539_2, hx539_3, hl539_3, hi539_3⟩ := at_T31 HR0.out a1 p539 q539
          cases e539
          have HR539_3 := Aside0.mk hi539_3
          have HC539_3 := Aside0.mk hl539_3
          clear hi539_3 hl539_3
          replace p539 := eq_true p539
          replace q539 := eq_true q539
          go_enter Try.func60, Try.ntmps60
          try go_wp2_with (first | ((with_reducible refine gate_dst (N := 7) rfl ?_); refine box_event ?hg (N := 7) ?hd (cs := #[.int .u8 0, .int .i64 0, .int .i64 0, .slice none 0 0]) (t := 31) ?hr ?_; (case hd => rfl); (case hg => rfl); (case hr => first | (go_simp; done) | (go_simp; rfl)); intro gb540 hg w10 hbox hb; have n0_ := Aside0.mk (below_step (by repeat (first | (with_reducible first | exact HB.out | apply below_alloc | apply pw_below_drewN | apply below_drew1) | exact HB.out)) hb); have n1_ := Aside0.mk (hbox); have n2_ := Aside0.mk ((by rw [hg]; exact (below_size (by repeat (first | (with_reducible first | exact HB.out | apply below_alloc | apply pw_below_drewN | apply below_drew1) | exact HB.out))) : w.heap.size ≤ gb540)); have n3_ := Aside0.mk ((by rw [hg]; exact (below_size (by repeat (first | (with_reducible first | exact HB.out | apply below_alloc | apply pw_below_drewN | apply below_drew1) | exact HB.out))) : w.heap.size ≤ gb540)); clear HB; have HB := n0_; have BK540 := n1_; have GW540 := n2_; have GE540 := n3_; clear n0_ n1_ n2_ n3_; clear hb hbox hg; have hcz11_0 : w10.cell? ⟨gb540, 0, none⟩ = some (.int .u8 0) := (blk_cell BK540.out 0).trans rfl; have hcz11_1 : w10.cell? ⟨gb540, 1, none⟩ = some (.int .i64 0) := (blk_cell BK540.out 1).trans rfl; have hcz11_2 : w10.cell? ⟨gb540, 2, none⟩ = some (.int .i64 0) := (blk_cell BK540.out 2).trans rfl; have hcz11_3 : w10.cell? ⟨gb540, 3, none⟩ = some (.slice none 0 0) := (blk_cell BK540.out 3).trans rfl; have hfz11_0 := blk_frozen BK540.out 0; have hfz11_1 := blk_frozen BK540.out 1; have hfz11_2 := blk_frozen BK540.out 2; have hfz11_3 := blk_frozen BK540.out 3))
          have n0_ : Aside0 (((((w10.setCell ⟨gb540, 0, none⟩ (.int .u8 ((rd_T31 l0 a1).f0))).setCell ⟨gb540, 1, none⟩ (.int .i64 ((rd_T31 l0 a1).f1))).setCell ⟨gb540, 2, none⟩ (.int .i64 ((rd_T31 l0 a1).f2))).setCell ⟨gb540, 3, none⟩ (.slice A539_3 ((rd_T31 l0 a1).f3).length c539_3)).heap[gb540]? = some (.cells #[.int .u8 ((rd_T31 l0 a1).f0), .int .i64 ((rd_T31 l0 a1).f1), .int .i64 ((rd_T31 l0 a1).f2), .slice A539_3 ((rd_T31 l0 a1).f3).length c539_3] 31 (0, 0))) := ⟨by (with_reducible repeat (first | refine blk_drewN ?_ _ | refine blk_drew ?_ | refine blk_alloc ?_ _)); refine blk_put (cs := #[.int .u8 ((rd_T31 l0 a1).f0), .int .i64 ((rd_T31 l0 a1).f1), .int .i64 ((rd_T31 l0 a1).f2), .slice none 0 0]) ?_ 3 _ rfl; (with_reducible repeat (first | refine blk_drewN ?_ _ | refine blk_drew ?_ | refine blk_alloc ?_ _)); refine blk_put (cs := #[.int .u8 ((rd_T31 l0 a1).f0), .int .i64 ((rd_T31 l0 a1).f1), .int .i64 0, .slice none 0 0]) ?_ 2 _ rfl; (with_reducible repeat (first | refine blk_drewN ?_ _ | refine blk_drew ?_ | refine blk_alloc ?_ _)); refine blk_put (cs := #[.int .u8 ((rd_T31 l0 a1).f0), .int .i64 0, .int .i64 0, .slice none 0 0]) ?_ 1 _ rfl; (with_reducible repeat (first | refine blk_drewN ?_ _ | refine blk_drew ?_ | refine blk_alloc ?_ _)); refine blk_put (cs := #[.int .u8 0, .int .i64 0, .int .i64 0, .slice none 0 0]) ?_ 0 _ rfl; (with_reducible repeat (first | refine blk_drewN ?_ _ | refine blk_drew ?_ | refine blk_alloc ?_ _)); exact BK540.out⟩
          have n1_ : Aside0 (Below w.heap.size w ((((w10.setCell ⟨gb540, 0, none⟩ (.int .u8 ((rd_T31 l0 a1).f0))).setCell ⟨gb540, 1, none⟩ (.int .i64 ((rd_T31 l0 a1).f1))).setCell ⟨gb540, 2, none⟩ (.int .i64 ((rd_T31 l0 a1).f2))).setCell ⟨gb540, 3, none⟩ (.slice A539_3 ((rd_T31 l0 a1).f3).length c539_3))) := ⟨by repeat (first | (with_reducible first | exact HB.out | apply below_alloc | apply pw_below_drewN | apply below_drew1 | refine below_set ?_ GE540.out) | exact HB.out)⟩
          (try clear BK540)
          (try clear HB)
          generalize ((((w10.setCell ⟨gb540, 0, none⟩ (.int .u8 ((rd_T31 l0 a1).f0))).setCell ⟨gb540, 1, none⟩ (.int .i64 ((rd_T31 l0 a1).f1))).setCell ⟨gb540, 2, none⟩ (.int .i64 ((rd_T31 l0 a1).f2))).setCell ⟨gb540, 3, none⟩ (.slice A539_3 ((rd_T31 l0 a1).f3).length c539_3)) = w12 at n0_ n1_ ⊢
          have BK540 := n0_
          have HB := n1_
          clear n0_ n1_
          have n0_ := Aside0.mk (blk_drew BK540.out)
          have n1_ := Aside0.mk (below_drew1 HB.out)
          clear BK540
          clear HB
          have BK540 := n0_
          have HB := n1_
          clear n0_ n1_
          refine start_ (n := 12) (S := fun w' => w'.cell? ⟨gb540, 0, none⟩ = some (.int .u8 ((rd_T31 l0 a1).f0)) ∧ w'.cell? ⟨gb540, 1, none⟩ = some (.int .i64 ((rd_T31 l0 a1).f1)) ∧ w'.cell? ⟨gb540, 2, none⟩ = some (.int .i64 ((rd_T31 l0 a1).f2)) ∧ w'.cell? ⟨gb540, 3, none⟩ = some (.slice A539_3 ((rd_T31 l0 a1).f3).length c539_3)) (ds := []) #[false, false, false, false, false, false, false, false, false, false, false, false] (by kernel_rfl) rfl rfl ⟨(blk_cell BK540.out 0).trans rfl, (blk_cell BK540.out 1).trans rfl, (blk_cell BK540.out 2).trans rfl, (blk_cell BK540.out 3).trans rfl⟩ (fun hHeld => ?_); refine with_tabW fescueref04_At.tab3 fescueref04_At.bits3 (fun HT_ HW_ => ?_)
          generalize w12.drew = w13 at BK540 HB hHeld ⊢
          refine pure_ (i := 0) (N := some 18) (v := ?_) (a' := ?_) #[true, false, false, false, false, false, false, false, false, false, false, false] rfl rfl (any_of HT_.out (by kernel_rfl)) (fun _ _ _ h => h) (Or.inl ⟨by rfl, ?_⟩) ?_ ?_
          rotate_left
          · intro w'
            go_simp
            with_reducible rfl
          rotate_left
          · simp only [Act.put, List.setIfInBounds_toArray, List.set_cons_zero, List.set_cons_succ, i64_w, i32_w]
            rfl
          refine pure_ (i := 1) (N := some 19) (v := ?_) (a' := ?_) #[true, true, false, false, false, false, false, false, false, false, false, false] rfl rfl (any_of HT_.out (by kernel_rfl)) (fun _ _ _ h => h) (Or.inl ⟨by rfl, ?_⟩) ?_ ?_
          rotate_left
          · intro w'
            go_simp
            with_reducible rfl
          rotate_left
          · simp only [Act.put, List.setIfInBounds_toArray, List.set_cons_zero, List.set_cons_succ, i64_w, i32_w]
            rfl
          refine pure_ (i := 3) (N := some 21) (v := ?_) (a' := ?_) #[true, true, false, true, false, false, false, false, false, false, false, false] rfl rfl (any_of HT_.out (by kernel_rfl)) (fun _ _ _ h => h) (Or.inl ⟨by rfl, ?_⟩) ?_ ?_
          rotate_left
          · intro w'
            go_simp
            with_reducible rfl
          rotate_left
          · simp only [Act.put, List.setIfInBounds_toArray, List.set_cons_zero, List.set_cons_succ, i64_w, i32_w]
            rfl
          refine pure_ (i := 4) (N := some 22) (v := ?_) (a' := ?_) #[true, true, false, true, true, false, false, false, false, false, false, false] rfl rfl (any_of HT_.out (by kernel_rfl)) (fun _ _ _ h => h) (Or.inl ⟨by rfl, ?_⟩) ?_ ?_
          rotate_left
          · intro w'
            go_simp
            with_reducible rfl
          rotate_left
          · simp only [Act.put, List.setIfInBounds_toArray, List.set_cons_zero, List.set_cons_succ, i64_w, i32_w]
            rfl
          refine pure_ (i := 5) (N := some 23) (v := ?_) (a' := ?_) #[true, true, false, true, true, true, false, false, false, false, false, false] rfl rfl (any_of HT_.out (by kernel_rfl)) (fun _ _ _ h => h) (Or.inl ⟨by rfl, ?_⟩) ?_ ?_
          rotate_left
          · intro w'
            go_simp
            with_reducible rfl
          rotate_left
          · simp only [Act.put, List.setIfInBounds_toArray, List.set_cons_zero, List.set_cons_succ, i64_w, i32_w]
            rfl
          refine take_ (i := 2) (N := some 20) (v := ?_) (a' := ?_) #[true, true, true, true, true, true, false, false, false, false, false, false] rfl rfl (take_ofW HT_.out HW_.out (by kernel_rfl)) (fun _ _ _ h => h) (Or.inl ⟨by rfl, ?_⟩) hHeld ?_ ?_
          rotate_left
          · rintro w' ⟨s0, s1, s2, s3⟩
            go_simp
            with_reducible rfl
          rotate_left
          · simp only [Act.put, List.setIfInBounds_toArray, List.set_cons_zero, List.set_cons_succ, i64_w, i32_w]
            rfl
          refine take_ (i := 6) (N := some 24) (v := ?_) (a' := ?_) #[true, true, true, true, true, true, true, false, false, false, false, false] rfl rfl (take_ofW HT_.out HW_.out (by kernel_rfl)) (fun _ _ _ h => h) (Or.inl ⟨by rfl, ?_⟩) hHeld ?_ ?_
          rotate_left
          · rintro w' ⟨s0, s1, s2, s3⟩
            go_simp
            with_reducible rfl
          rotate_left
          · simp only [Act.put, List.setIfInBounds_toArray, List.set_cons_zero, List.set_cons_succ, i64_w, i32_w]
            rfl
          refine one_ (i := 7) (N := some 25) #[true, true, true, true, true, true, true, true, false, false, false, false] rfl rfl (one_of HT_.out (by kernel_rfl)) (by decide) (fun K hK => ?_)
          refine goes_ Try.func43 (by kernel_rfl) rfl #[.slice (some ad539) l0.length c0, .int .i64 ((rd_T31 l0 a1).f1)] (by rfl) rfl rfl (by (try simp only [List.map_toArray, List.map_cons, List.map_nil]); first | done | rfl | (simp only [List.length_drop, List.length_take]; rfl)) ?_
          with_reducible refine (fescueref03_Of.calls k _ _ l0 ((rd_T31 l0 a1).f1) t541 _ ?side1 ?side2 A7.out).mono ?_
          (case side1 => repeat (first | exact (Kd.C_below HR0.out HB.out) | (with_reducible refine Kd.C_alloc ?_ _) | (with_reducible refine Kd.C_drewN ?_ _) | (with_reducible refine Kd.C_drew ?_)))
          (case side2 => exact HC0.out)
          rintro e w14 ⟨v542, rfl, ho0, hb⟩
          refine ⟨_, rfl, ?_⟩
          have n0_ := Aside0.mk (Kd.R_lower ho0 (below_size (by repeat (first | (with_reducible first | exact HB.out | apply below_alloc | apply pw_below_drewN | apply below_drew1 | refine below_set ?_ GE540.out) | exact HB.out))))
          have n1_ := Aside0.mk (blk_below (g := gb540) (o := .cells #[.int .u8 ((rd_T31 l0 a1).f0), .int .i64 ((rd_T31 l0 a1).f1), .int .i64 ((rd_T31 l0 a1).f2), .slice A539_3 ((rd_T31 l0 a1).f3).length c539_3] 31 (0, 0)) (by (with_reducible repeat (first | refine blk_drewN ?_ _ | refine blk_drew ?_ | refine blk_alloc ?_ _)); exact BK540.out) hb)
          have n2_ := Aside0.mk (below_step (by repeat (first | (with_reducible first | exact HB.out | apply below_alloc | apply pw_below_drewN | apply below_drew1 | refine below_set ?_ GE540.out) | exact HB.out)) hb)
          clear BK540
          clear HB
          have HO543 := n0_
          have BK540 := n1_
          have HB := n2_
          clear n0_ n1_ n2_
          (try clear hb)
          (try clear hb2)
          (try clear hk)
          (try clear hi)
          (try clear ho0)
          obtain ⟨Ao15, co15, eo15⟩ := Kd.R_slice HO543.out
          (first | subst eo15 | (injection eo15 with f1_ f2_ f3_; have f4_ := f1_.symm; have f5_ := f3_.symm; clear f1_ f2_ f3_; subst f4_; subst f5_))
          refine hK.out _ _ ⟨(blk_cell BK540.out 0).trans rfl, (blk_cell BK540.out 1).trans rfl, (blk_cell BK540.out 2).trans rfl, (blk_cell BK540.out 3).trans rfl⟩ (fun hHeld => ?_)
          clear hK K
          refine norm_ (a' := ?_) ?_ ?_
          rotate_left
          · show Act.put _ (some 25) _ = _
            simp only [Act.put, List.setIfInBounds_toArray, List.set_cons_zero, List.set_cons_succ, i64_w, i32_w]
            rfl
          refine pure_ (i := 8) (N := some 26) (v := ?_) (a' := ?_) #[true, true, true, true, true, true, true, true, true, false, false, false] rfl rfl (any_of HT_.out (by kernel_rfl)) (fun _ _ _ h => h) (Or.inl ⟨by rfl, ?_⟩) ?_ ?_
          rotate_left
          · intro w'
            go_simp
            with_reducible rfl
          rotate_left
          · simp only [Act.put, List.setIfInBounds_toArray, List.set_cons_zero, List.set_cons_succ, i64_w, i32_w]
            rfl
          refine pure_ (i := 9) (N := some 27) (v := ?_) (a' := ?_) #[true, true, true, true, true, true, true, true, true, true, false, false] rfl rfl (any_of HT_.out (by kernel_rfl)) (fun _ _ _ h => h) (Or.inl ⟨by rfl, ?_⟩) ?_ ?_
          rotate_left
          · intro w'
            go_simp
            with_reducible rfl
          rotate_left
          · simp only [Act.put, List.setIfInBounds_toArray, List.set_cons_zero, List.set_cons_succ, i64_w, i32_w]
            rfl
          refine one_ (i := 10) (N := some 28) #[true, true, true, true, true, true, true, true, true, true, true, false] rfl rfl (one_of HT_.out (by kernel_rfl)) (by decide) (fun K hK => ?_)
          refine goes_ Try.func60 (by kernel_rfl) rfl #[.slice (some ad539) l0.length c0, .int .i64 ((rd_T31 l0 a1).f1), .int .i64 (Int.tmod a2 (t541.length : Int))] (by rfl) rfl rfl (by (try simp only [List.map_toArray, List.map_cons, List.map_nil]); first | done | rfl | (simp only [List.length_drop, List.length_take]; rfl)) ?_
          with_reducible refine (ih k (by omega) _ _ l0 ((rd_T31 l0 a1).f1) (Int.tmod a2 (t541.length : Int)) t544 _ ?side1 ?side2 A9.out).mono ?_
          (case side1 => repeat (first | exact (Kd.C_below HR0.out HB.out) | (with_reducible refine Kd.C_alloc ?_ _) | (with_reducible refine Kd.C_drewN ?_ _) | (with_reducible refine Kd.C_drew ?_)))
          (case side2 => exact HC0.out)
          rintro e w16 ⟨rfl, hb⟩
          refine ⟨_, rfl, ?_⟩
          have n0_ := Aside0.mk (Kd.R_below (by (with_reducible repeat (first | apply Kd.R_alloc | apply Kd.R_drewN | apply Kd.R_drew)); exact HO543.out) hb)
          have n1_ := Aside0.mk (blk_below (g := gb540) (o := .cells #[.int .u8 ((rd_T31 l0 a1).f0), .int .i64 ((rd_T31 l0 a1).f1), .int .i64 ((rd_T31 l0 a1).f2), .slice A539_3 ((rd_T31 l0 a1).f3).length c539_3] 31 (0, 0)) (by (with_reducible repeat (first | refine blk_drewN ?_ _ | refine blk_drew ?_ | refine blk_alloc ?_ _)); exact BK540.out) hb)
          have n2_ := Aside0.mk (below_step (by repeat (first | (with_reducible first | exact HB.out | apply below_alloc | apply pw_below_drewN | apply below_drew1 | refine below_set ?_ GE540.out) | exact HB.out)) hb)
          clear HO543
          clear BK540
          clear HB
          have HO543 := n0_
          have BK540 := n1_
          have HB := n2_
          clear n0_ n1_ n2_
          (try clear hb)
          (try clear hb2)
          (try clear hk)
          (try clear hi)
          refine hK.out _ _ ⟨(blk_cell BK540.out 0).trans rfl, (blk_cell BK540.out 1).trans rfl, (blk_cell BK540.out 2).trans rfl, (blk_cell BK540.out 3).trans rfl⟩ (fun hHeld => ?_)
          clear hK K
          refine norm_ (a' := ?_) ?_ ?_
          rotate_left
          · show Act.put _ (some 28) _ = _
            simp only [Act.put, List.setIfInBounds_toArray, List.set_cons_zero, List.set_cons_succ, i64_w, i32_w]
            rfl
          refine pure_ (i := 11) (N := some 6) (v := ?_) (a' := ?_) #[true, true, true, true, true, true, true, true, true, true, true, true] rfl rfl (any_of HT_.out (by kernel_rfl)) (fun _ _ _ h => h) (Or.inl ⟨by rfl, ?_⟩) ?_ ?_
          rotate_left
          · intro w'
            go_simp
            with_reducible rfl
          rotate_left
          · simp only [Act.put, List.setIfInBounds_toArray, List.set_cons_zero, List.set_cons_succ, i64_w, i32_w]
            rfl
          refine done_ (done_of HT_.out (by kernel_rfl)) ?_
          try go_wp2
          go_ret
          exact ⟨by first | rfl | (simp [errW_none, errW_some] <;> rfl) | (simp [*, errW_none, errW_some] <;> rfl), by repeat (first | (with_reducible first | exact HB.out | apply below_alloc | apply pw_below_drewN | apply below_drew1 | refine below_set ?_ GE540.out) | exact HB.out)⟩
      · rw [if_neg c6] at H
        have c6b0 : (((rd_T31 l0 a1).f0) == 5) = false := beq_eq_false_iff_ne.mpr c6
        have c6b1 : (((rd_T31 l0 a1).f0) != 5) = true := bne_iff_ne.mpr c6
        by_cases c17 : ((rd_T31 l0 a1).f0) = 4
        · rw [if_pos c17] at H
          have c17b0 : (((rd_T31 l0 a1).f0) == 4) = true := beq_iff_eq.mpr c17
          have c17b1 : (((rd_T31 l0 a1).f0) != 4) = false := bne_eq_false_iff_eq.mpr c17
          clear c17
          have H' := Aside0.mk H
          clear H
          have p539 : 0 ≤ (a1 : Int) := of_decide_eq_true (by first | (with_reducible assumption) | assumption)
          have q539 : a1 < (l0.length : Int) := of_decide_eq_true (by first | (with_reducible assumption) | assumption)
          obtain ⟨ad539, A539_3, c539_3, e539, hx539_0, hx539_1, hx539_2, hx539_3, hl539_3, hi539_3⟩ := at_T31 HR0.out a1 p539 q539
          cases e539
          have HR539_3 := Aside0.mk hi539_3
          have HC539_3 := Aside0.mk hl539_3
          clear hi539_3 hl539_3
          replace p539 := eq_true p539
          replace q539 := eq_true q539
          go_enter Try.func60, Try.ntmps60
          go_wp2_with (first | ((with_reducible refine gate_dst (N := 7) rfl ?_); refine box_event ?hg (N := 7) ?hd (cs := #[.int .u8 0, .int .i64 0, .int .i64 0, .slice none 0 0]) (t := 31) ?hr ?_; (case hd => rfl); (case hg => rfl); (case hr => first | (go_simp; done) | (go_simp; rfl)); intro gb540 hg w18 hbox hb; have n0_ := Aside0.mk (below_step (by repeat (first | (with_reducible first | exact HB.out | apply below_alloc | apply pw_below_drewN | apply below_drew1) | exact HB.out)) hb); have n1_ := Aside0.mk (hbox); have n2_ := Aside0.mk ((by rw [hg]; exact (below_size (by repeat (first | (with_reducible first | exact HB.out | apply below_alloc | apply pw_below_drewN | apply below_drew1) | exact HB.out))) : w.heap.size ≤ gb540)); have n3_ := Aside0.mk ((by rw [hg]; exact (below_size (by repeat (first | (with_reducible first | exact HB.out | apply below_alloc | apply pw_below_drewN | apply below_drew1) | exact HB.out))) : w.heap.size ≤ gb540)); clear HB; have HB := n0_; have BK540 := n1_; have GW540 := n2_; have GE540 := n3_; clear n0_ n1_ n2_ n3_; clear hb hbox hg; have hcz19_0 : w18.cell? ⟨gb540, 0, none⟩ = some (.int .u8 0) := (blk_cell BK540.out 0).trans rfl; have hcz19_1 : w18.cell? ⟨gb540, 1, none⟩ = some (.int .i64 0) := (blk_cell BK540.out 1).trans rfl; have hcz19_2 : w18.cell? ⟨gb540, 2, none⟩ = some (.int .i64 0) := (blk_cell BK540.out 2).trans rfl; have hcz19_3 : w18.cell? ⟨gb540, 3, none⟩ = some (.slice none 0 0) := (blk_cell BK540.out 3).trans rfl; have hfz19_0 := blk_frozen BK540.out 0; have hfz19_1 := blk_frozen BK540.out 1; have hfz19_2 := blk_frozen BK540.out 2; have hfz19_3 := blk_frozen BK540.out 3))
          go_loopg [2, 8, 9] k (fun kq v2 v8 v9 w' => ∃ (x2_1 : Int) (x8_1 : Int) (x9_1 : Int), v2 = .int .i64 x2_1 ∧ v8 = .int .i64 x8_1 ∧ v9 = .int .i64 x9_1 ∧ Aside0 (fescueref04_At.l0 kq l0 x2_1 x8_1 x9_1 ((rd_T31 l0 a1).f0) ((rd_T31 l0 a1).f1) ((rd_T31 l0 a1).f2) ((rd_T31 l0 a1).f3) = some r) ∧ Aside0 (kq ≤ k) ∧ Aside0 (w'.heap[gb540]? = some (.cells #[.int .u8 ((rd_T31 l0 a1).f0), .int .i64 ((rd_T31 l0 a1).f1), .int .i64 ((rd_T31 l0 a1).f2), (.slice A539_3 ((rd_T31 l0 a1).f3).length c539_3)] 31 (0, 0))) ∧ Aside0 (Below w.heap.size w w'))
          case atStart => exact ⟨(a2), (0), (0), (by first | rfl | (simp; done) | (simp [*]; done)), (by first | rfl | (simp; done) | (simp [*]; done)), (by first | rfl | (simp; done) | (simp [*]; done)), H', ⟨Nat.le_refl _⟩, ⟨by (with_reducible repeat (first | refine blk_drewN ?_ _ | refine blk_drew ?_ | refine blk_alloc ?_ _)); refine blk_put (cs := #[.int .u8 ((rd_T31 l0 a1).f0), .int .i64 ((rd_T31 l0 a1).f1), .int .i64 ((rd_T31 l0 a1).f2), .slice none 0 0]) ?_ 3 _ rfl; (with_reducible repeat (first | refine blk_drewN ?_ _ | refine blk_drew ?_ | refine blk_alloc ?_ _)); refine blk_put (cs := #[.int .u8 ((rd_T31 l0 a1).f0), .int .i64 ((rd_T31 l0 a1).f1), .int .i64 0, .slice none 0 0]) ?_ 2 _ rfl; (with_reducible repeat (first | refine blk_drewN ?_ _ | refine blk_drew ?_ | refine blk_alloc ?_ _)); refine blk_put (cs := #[.int .u8 ((rd_T31 l0 a1).f0), .int .i64 0, .int .i64 0, .slice none 0 0]) ?_ 1 _ rfl; (with_reducible repeat (first | refine blk_drewN ?_ _ | refine blk_drew ?_ | refine blk_alloc ?_ _)); refine blk_put (cs := #[.int .u8 0, .int .i64 0, .int .i64 0, .slice none 0 0]) ?_ 0 _ rfl; (with_reducible repeat (first | refine blk_drewN ?_ _ | refine blk_drew ?_ | refine blk_alloc ?_ _)); exact BK540.out⟩, ⟨by repeat (first | (with_reducible first | exact HB.out | apply below_alloc | apply pw_below_drewN | apply below_drew1 | refine below_set ?_ GE540.out) | exact HB.out)⟩⟩
          case round =>
            clear H'
            try clear c1
            try clear p2
            try clear c4
            try clear c4b0
            try clear c5
            try clear c5b0
            try clear p5
            try clear q5
            try clear hx5
            try clear c6
            try clear c6b0
            try clear c6b1
            try clear c8
            try clear c8b0
            try clear c8b1
            try clear c8b2
            try clear c17
            try clear c17b0
            try clear c17b1
            try clear hcz11_0
            try clear hcz11_1
            try clear hcz11_2
            try clear hcz11_3
            try clear hcz19_0
            try clear hcz19_1
            try clear hcz19_2
            try clear hcz19_3
            try clear hfz11_0
            try clear hfz11_1
            try clear hfz11_2
            try clear hfz11_3
            try clear hfz19_0
            try clear hfz19_1
            try clear hfz19_2
            try clear hfz19_3
            try clear hx539_0
            try clear hx539_1
            try clear hx539_2
            try clear hx539_3
            try clear p539
            try clear q539
            obtain ⟨x2_1, x8_1, x9_1, rfl, rfl, rfl, HA, HK1, BK540, HB⟩ := hrel
            cases gk with
            | zero => exact absurd HA.out (by simp [fescueref04_At.l0])
            | succ k1 =>
              have H := HA.out
              clear HA
              simp only [fescueref04_At.l0] at H
              by_cases c20 : x9_1 < (((rd_T31 l0 a1).f3).length : Int)
              · rw [if_pos c20] at H
                have c20b0 : decide (x9_1 < (((rd_T31 l0 a1).f3).length : Int)) = true := decide_eq_true c20
                clear c20
                by_cases c21 : 0 ≤ x9_1
                · rw [if_pos c21] at H
                  have c21b0 : decide (0 ≤ x9_1) = true := decide_eq_true c21
                  clear c21
                  replace H := Option.bind_eq_some_iff.mp H
                  obtain ⟨t546, A220, H⟩ := H
                  replace H : (if x2_1 < (t546.length : Int) then ((fescueref04_At.f k1 l0 (rd ((rd_T31 l0 a1).f3) x9_1) x2_1).bind fun t550 => (some (wrap64 (x8_1 + t550)))) else ((fescueref04_Of.f k1 l0 (rd ((rd_T31 l0 a1).f3) x9_1)).bind fun t552 => (fescueref04_At.l0 k1 l0 (wrap64 (x2_1 - (t546.length : Int))) (wrap64 (x8_1 + (t552.length : Int))) (wrap64 (x9_1 + 1)) ((rd_T31 l0 a1).f0) ((rd_T31 l0 a1).f1) ((rd_T31 l0 a1).f2) ((rd_T31 l0 a1).f3)))) = some r := H
                  have A22 := Aside0.mk A220
                  clear A220
                  by_cases c23 : x2_1 < (t546.length : Int)
                  · rw [if_pos c23] at H
                    have c23b0 : decide (x2_1 < (t546.length : Int)) = true := decide_eq_true c23
                    clear c23
                    replace H := Option.bind_eq_some_iff.mp H
                    obtain ⟨t550, A240, H⟩ := H
                    replace H : (some (wrap64 (x8_1 + t550))) = some r := H
                    have A24 := Aside0.mk A240
                    clear A240
                    obtain rfl := Option.some.inj H
                    have hcz25_0 : wr.cell? ⟨gb540, 0, none⟩ = some (.int .u8 ((rd_T31 l0 a1).f0)) := (blk_cell BK540.out 0).trans rfl
                    have hcz25_1 : wr.cell? ⟨gb540, 1, none⟩ = some (.int .i64 ((rd_T31 l0 a1).f1)) := (blk_cell BK540.out 1).trans rfl
                    have hcz25_2 : wr.cell? ⟨gb540, 2, none⟩ = some (.int .i64 ((rd_T31 l0 a1).f2)) := (blk_cell BK540.out 2).trans rfl
                    have hcz25_3 : wr.cell? ⟨gb540, 3, none⟩ = some (.slice A539_3 ((rd_T31 l0 a1).f3).length c539_3) := (blk_cell BK540.out 3).trans rfl
                    have hfz25_0 := blk_frozen BK540.out 0
                    have hfz25_1 := blk_frozen BK540.out 1
                    have hfz25_2 := blk_frozen BK540.out 2
                    have hfz25_3 := blk_frozen BK540.out 3
                    have p545 : 0 ≤ (x9_1 : Int) := of_decide_eq_true (by first | (with_reducible assumption) | assumption)
                    have q545 : x9_1 < (((rd_T31 l0 a1).f3).length : Int) := of_decide_eq_true (by first | (with_reducible assumption) | assumption)
                    obtain ⟨ad545, e545, hx545_0⟩ := Kd.at_int HR539_3.out x9_1 p545 q545
                    cases e545
                    replace hx545_0 := (HB.out.cell (World.block_lt_of_cell? w _ hx545_0)).trans hx545_0
                    replace p545 := eq_true p545
                    replace q545 := eq_true q545
                    go_wp2_with (first | ((with_reducible refine gate_callee (f := 43) rfl ?_); refine goesL_ (some 45) rfl rfl Try.func43 (by kernel_rfl) rfl #[.slice (some ad539) l0.length c0, .int .i64 (rd ((rd_T31 l0 a1).f3) x9_1)] rfl (by (try simp only [List.map_toArray, List.map_cons, List.map_nil]); first | done | rfl | (simp only [List.length_drop, List.length_take]; rfl)) ?_; (with_reducible refine (fescueref03_Of.calls k1 _ _ l0 (rd ((rd_T31 l0 a1).f3) x9_1) t546 _ ?side1 ?side2 A22.out).mono ?_); (case side1 => repeat (first | exact (Kd.C_below HR0.out HB.out) | (with_reducible refine Kd.C_alloc ?_ _) | (with_reducible refine Kd.C_drewN ?_ _) | (with_reducible refine Kd.C_drew ?_))); (case side2 => exact HC0.out); rintro e w26 ⟨v547, rfl, ho0, hb⟩; refine ⟨_, rfl, ?_⟩; have n0_ := Aside0.mk (Kd.R_lower ho0 (below_size (by repeat (first | (with_reducible first | exact HB.out | apply below_alloc | apply pw_below_drewN | apply below_drew1 | refine below_set ?_ GE540.out) | exact HB.out)))); have n1_ := Aside0.mk (blk_below (g := gb540) (o := .cells #[.int .u8 ((rd_T31 l0 a1).f0), .int .i64 ((rd_T31 l0 a1).f1), .int .i64 ((rd_T31 l0 a1).f2), .slice (some ad545) ((rd_T31 l0 a1).f3).length c539_3] 31 (0, 0)) (by (with_reducible repeat (first | refine blk_drewN ?_ _ | refine blk_drew ?_ | refine blk_alloc ?_ _)); exact BK540.out) hb); have n2_ := Aside0.mk (below_step (by repeat (first | (with_reducible first | exact HB.out | apply below_alloc | apply pw_below_drewN | apply below_drew1 | refine below_set ?_ GE540.out) | exact HB.out)) hb); clear BK540; clear HB; have HO548 := n0_; have BK540 := n1_; have HB := n2_; clear n0_ n1_ n2_; (try clear hb); (try clear hb2); (try clear hk); (try clear hi); (try clear ho0); obtain ⟨Ao27, co27, eo27⟩ := Kd.R_slice HO548.out; subst eo27; have hcz28_0 : w26.cell? ⟨gb540, 0, none⟩ = some (.int .u8 ((rd_T31 l0 a1).f0)) := (blk_cell BK540.out 0).trans rfl; have hcz28_1 : w26.cell? ⟨gb540, 1, none⟩ = some (.int .i64 ((rd_T31 l0 a1).f1)) := (blk_cell BK540.out 1).trans rfl; have hcz28_2 : w26.cell? ⟨gb540, 2, none⟩ = some (.int .i64 ((rd_T31 l0 a1).f2)) := (blk_cell BK540.out 2).trans rfl; have hcz28_3 : w26.cell? ⟨gb540, 3, none⟩ = some (.slice (some ad545) ((rd_T31 l0 a1).f3).length c539_3) := (blk_cell BK540.out 3).trans rfl; have hfz28_0 := blk_frozen BK540.out 0; have hfz28_1 := blk_frozen BK540.out 1; have hfz28_2 := blk_frozen BK540.out 2; have hfz28_3 := blk_frozen BK540.out 3; have p549 : 0 ≤ (x9_1 : Int) := of_decide_eq_true (by first | (with_reducible assumption) | assumption); have q549 : x9_1 < (((rd_T31 l0 a1).f3).length : Int) := of_decide_eq_true (by first | (with_reducible assumption) | assumption); obtain ⟨ad549, e549, hx549_0⟩ := Kd.at_int HR539_3.out x9_1 p549 q549; obtain rfl : ad545 = ad549 := (by injection e549); replace hx549_0 := (HB.out.cell (World.block_lt_of_cell? w _ hx549_0)).trans hx549_0; replace p549 := eq_true p549; replace q549 := eq_true q549) | ((with_reducible refine gate_callee (f := 60) rfl ?_); refine goesL_ (some 58) rfl rfl Try.func60 (by kernel_rfl) rfl #[.slice (some ad539) l0.length c0, .int .i64 (rd ((rd_T31 l0 a1).f3) x9_1), .int .i64 x2_1] rfl (by (try simp only [List.map_toArray, List.map_cons, List.map_nil]); first | done | rfl | (simp only [List.length_drop, List.length_take]; rfl)) ?_; (with_reducible refine (ih k1 (by have := HK1.out; omega) _ _ l0 (rd ((rd_T31 l0 a1).f3) x9_1) x2_1 t550 _ ?side1 ?side2 A24.out).mono ?_); (case side1 => repeat (first | exact (Kd.C_below HR0.out HB.out) | (with_reducible refine Kd.C_alloc ?_ _) | (with_reducible refine Kd.C_drewN ?_ _) | (with_reducible refine Kd.C_drew ?_))); (case side2 => exact HC0.out); rintro e w29 ⟨rfl, hb⟩; refine ⟨_, rfl, ?_⟩; have n0_ := Aside0.mk (Kd.R_below (by (with_reducible repeat (first | apply Kd.R_alloc | apply Kd.R_drewN | apply Kd.R_drew)); exact HO548.out) hb); have n1_ := Aside0.mk (blk_below (g := gb540) (o := .cells #[.int .u8 ((rd_T31 l0 a1).f0), .int .i64 ((rd_T31 l0 a1).f1), .int .i64 ((rd_T31 l0 a1).f2), .slice (some ad545) ((rd_T31 l0 a1).f3).length c539_3] 31 (0, 0)) (by (with_reducible repeat (first | refine blk_drewN ?_ _ | refine blk_drew ?_ | refine blk_alloc ?_ _)); exact BK540.out) hb); have n2_ := Aside0.mk (below_step (by repeat (first | (with_reducible first | exact HB.out | apply below_alloc | apply pw_below_drewN | apply below_drew1 | refine below_set ?_ GE540.out) | exact HB.out)) hb); clear HO548; clear BK540; clear HB; have HO548 := n0_; have BK540 := n1_; have HB := n2_; clear n0_ n1_ n2_; (try clear hb); (try clear hb2); (try clear hk); (try clear hi)))
                    go_ret
                    exact ⟨by first | rfl | (simp [errW_none, errW_some] <;> rfl) | (simp [*, errW_none, errW_some] <;> rfl), by repeat (first | (with_reducible first | exact HB.out | apply below_alloc | apply pw_below_drewN | apply below_drew1 | refine below_set ?_ GE540.out) | exact HB.out)⟩
                  · rw [if_neg c23] at H
                    have c23b0 : decide (x2_1 < (t546.length : Int)) = false := decide_eq_false c23
                    clear c23
                    replace H := Option.bind_eq_some_iff.mp H
                    obtain ⟨t552, A300, H⟩ := H
                    replace H : (fescueref04_At.l0 k1 l0 (wrap64 (x2_1 - (t546.length : Int))) (wrap64 (x8_1 + (t552.length : Int))) (wrap64 (x9_1 + 1)) ((rd_T31 l0 a1).f0) ((rd_T31 l0 a1).f1) ((rd_T31 l0 a1).f2) ((rd_T31 l0 a1).f3)) = some r := H
                    have A30 := Aside0.mk A300
                    clear A300
                    have H' := Aside0.mk H
                    clear H
                    have hcz31_0 : wr.cell? ⟨gb540, 0, none⟩ = some (.int .u8 ((rd_T31 l0 a1).f0)) := (blk_cell BK540.out 0).trans rfl
                    have hcz31_1 : wr.cell? ⟨gb540, 1, none⟩ = some (.int .i64 ((rd_T31 l0 a1).f1)) := (blk_cell BK540.out 1).trans rfl
                    have hcz31_2 : wr.cell? ⟨gb540, 2, none⟩ = some (.int .i64 ((rd_T31 l0 a1).f2)) := (blk_cell BK540.out 2).trans rfl
                    have hcz31_3 : wr.cell? ⟨gb540, 3, none⟩ = some (.slice A539_3 ((rd_T31 l0 a1).f3).length c539_3) := (blk_cell BK540.out 3).trans rfl
                    have hfz31_0 := blk_frozen BK540.out 0
                    have hfz31_1 := blk_frozen BK540.out 1
                    have hfz31_2 := blk_frozen BK540.out 2
                    have hfz31_3 := blk_frozen BK540.out 3
                    have p545 : 0 ≤ (x9_1 : Int) := of_decide_eq_true (by first | (with_reducible assumption) | assumption)
                    have q545 : x9_1 < (((rd_T31 l0 a1).f3).length : Int) := of_decide_eq_true (by first | (with_reducible assumption) | assumption)
                    obtain ⟨ad545, e545, hx545_0⟩ := Kd.at_int HR539_3.out x9_1 p545 q545
                    cases e545
                    replace hx545_0 := (HB.out.cell (World.block_lt_of_cell? w _ hx545_0)).trans hx545_0
                    replace p545 := eq_true p545
                    replace q545 := eq_true q545
                    go_wp2_with (first | ((with_reducible refine gate_callee (f := 43) rfl ?_); refine goesL_ (some 45) rfl rfl Try.func43 (by kernel_rfl) rfl #[.slice (some ad539) l0.length c0, .int .i64 (rd ((rd_T31 l0 a1).f3) x9_1)] rfl (by (try simp only [List.map_toArray, List.map_cons, List.map_nil]); first | done | rfl | (simp only [List.length_drop, List.length_take]; rfl)) ?_; (with_reducible refine (fescueref03_Of.calls k1 _ _ l0 (rd ((rd_T31 l0 a1).f3) x9_1) t546 _ ?side1 ?side2 A22.out).mono ?_); (case side1 => repeat (first | exact (Kd.C_below HR0.out HB.out) | (with_reducible refine Kd.C_alloc ?_ _) | (with_reducible refine Kd.C_drewN ?_ _) | (with_reducible refine Kd.C_drew ?_))); (case side2 => exact HC0.out); rintro e w32 ⟨v547, rfl, ho0, hb⟩; refine ⟨_, rfl, ?_⟩; have n0_ := Aside0.mk (Kd.R_lower ho0 (below_size (by repeat (first | (with_reducible first | exact HB.out | apply below_alloc | apply pw_below_drewN | apply below_drew1 | refine below_set ?_ GE540.out) | exact HB.out)))); have n1_ := Aside0.mk (blk_below (g := gb540) (o := .cells #[.int .u8 ((rd_T31 l0 a1).f0), .int .i64 ((rd_T31 l0 a1).f1), .int .i64 ((rd_T31 l0 a1).f2), .slice (some ad545) ((rd_T31 l0 a1).f3).length c539_3] 31 (0, 0)) (by (with_reducible repeat (first | refine blk_drewN ?_ _ | refine blk_drew ?_ | refine blk_alloc ?_ _)); exact BK540.out) hb); have n2_ := Aside0.mk (below_step (by repeat (first | (with_reducible first | exact HB.out | apply below_alloc | apply pw_below_drewN | apply below_drew1 | refine below_set ?_ GE540.out) | exact HB.out)) hb); clear BK540; clear HB; have HO548 := n0_; have BK540 := n1_; have HB := n2_; clear n0_ n1_ n2_; (try clear hb); (try clear hb2); (try clear hk); (try clear hi); (try clear ho0); obtain ⟨Ao33, co33, eo33⟩ := Kd.R_slice HO548.out; subst eo33; have hcz34_0 : w32.cell? ⟨gb540, 0, none⟩ = some (.int .u8 ((rd_T31 l0 a1).f0)) := (blk_cell BK540.out 0).trans rfl; have hcz34_1 : w32.cell? ⟨gb540, 1, none⟩ = some (.int .i64 ((rd_T31 l0 a1).f1)) := (blk_cell BK540.out 1).trans rfl; have hcz34_2 : w32.cell? ⟨gb540, 2, none⟩ = some (.int .i64 ((rd_T31 l0 a1).f2)) := (blk_cell BK540.out 2).trans rfl; have hcz34_3 : w32.cell? ⟨gb540, 3, none⟩ = some (.slice (some ad545) ((rd_T31 l0 a1).f3).length c539_3) := (blk_cell BK540.out 3).trans rfl; have hfz34_0 := blk_frozen BK540.out 0; have hfz34_1 := blk_frozen BK540.out 1; have hfz34_2 := blk_frozen BK540.out 2; have hfz34_3 := blk_frozen BK540.out 3; have p551 : 0 ≤ (x9_1 : Int) := of_decide_eq_true (by first | (with_reducible assumption) | assumption); have q551 : x9_1 < (((rd_T31 l0 a1).f3).length : Int) := of_decide_eq_true (by first | (with_reducible assumption) | assumption); obtain ⟨ad551, e551, hx551_0⟩ := Kd.at_int HR539_3.out x9_1 p551 q551; obtain rfl : ad545 = ad551 := (by injection e551); replace hx551_0 := (HB.out.cell (World.block_lt_of_cell? w _ hx551_0)).trans hx551_0; replace p551 := eq_true p551; replace q551 := eq_true q551) | ((with_reducible refine gate_callee (f := 59) rfl ?_); refine goesL_ (some 70) rfl rfl Try.func59 (by kernel_rfl) rfl #[.slice (some ad539) l0.length c0, .int .i64 (rd ((rd_T31 l0 a1).f3) x9_1)] rfl (by (try simp only [List.map_toArray, List.map_cons, List.map_nil]); first | done | rfl | (simp only [List.length_drop, List.length_take]; rfl)) ?_; (with_reducible refine (fescueref04_Of.calls k1 _ _ l0 (rd ((rd_T31 l0 a1).f3) x9_1) t552 _ ?side1 ?side2 A30.out).mono ?_); (case side1 => repeat (first | exact (Kd.C_below HR0.out HB.out) | (with_reducible refine Kd.C_alloc ?_ _) | (with_reducible refine Kd.C_drewN ?_ _) | (with_reducible refine Kd.C_drew ?_))); (case side2 => exact HC0.out); rintro e w35 ⟨v553, rfl, ho0, hb⟩; refine ⟨_, rfl, ?_⟩; have n0_ := Aside0.mk (Kd.R_elder' (by (with_reducible repeat (first | apply Kd.R_alloc | apply Kd.R_drewN | apply Kd.R_drew)); exact HO548.out) (Kd.R_base ho0) hb); have n1_ := Aside0.mk (Kd.R_lower (Kd.R_new' ho0 (Kd.R_lt (by (with_reducible repeat (first | apply Kd.R_alloc | apply Kd.R_drewN | apply Kd.R_drew)); exact HO548.out))) (below_size (by repeat (first | (with_reducible first | exact HB.out | apply below_alloc | apply pw_below_drewN | apply below_drew1 | refine below_set ?_ GE540.out) | exact HB.out)))); have n2_ := Aside0.mk (blk_below (g := gb540) (o := .cells #[.int .u8 ((rd_T31 l0 a1).f0), .int .i64 ((rd_T31 l0 a1).f1), .int .i64 ((rd_T31 l0 a1).f2), .slice (some ad545) ((rd_T31 l0 a1).f3).length c539_3] 31 (0, 0)) (by (with_reducible repeat (first | refine blk_drewN ?_ _ | refine blk_drew ?_ | refine blk_alloc ?_ _)); exact BK540.out) hb); have n3_ := Aside0.mk (below_step (by repeat (first | (with_reducible first | exact HB.out | apply below_alloc | apply pw_below_drewN | apply below_drew1 | refine below_set ?_ GE540.out) | exact HB.out)) hb); clear HO548; clear BK540; clear HB; have HO548 := n0_; have HO554 := n1_; have BK540 := n2_; have HB := n3_; clear n0_ n1_ n2_ n3_; (try clear hb); (try clear hb2); (try clear hk); (try clear hi); (try clear ho0); obtain ⟨Ao36, co36, eo36⟩ := Kd.R_slice HO554.out; subst eo36))
                    go_roundg k1
                    case measure => have := HK1.out; omega
                    case rel => exact ⟨(wrap64 (x2_1 - (t546.length : Int))), (wrap64 (x8_1 + (t552.length : Int))), (wrap64 (x9_1 + 1)), (by first | rfl | (simp; done) | (simp [*]; done)), (by first | rfl | (simp; done) | (simp [*]; done)), (by first | rfl | (simp; done) | (simp [*]; done)), H', ⟨by have := HK1.out; omega⟩, ⟨by (with_reducible repeat (first | refine blk_drewN ?_ _ | refine blk_drew ?_ | refine blk_alloc ?_ _)); exact BK540.out⟩, ⟨by repeat (first | (with_reducible first | exact HB.out | apply below_alloc | apply pw_below_drewN | apply below_drew1 | refine below_set ?_ GE540.out) | exact HB.out)⟩⟩
                · rw [if_neg c21] at H
                  exact absurd H (by simp)
              · rw [if_neg c20] at H
                have c20b0 : decide (x9_1 < (((rd_T31 l0 a1).f3).length : Int)) = false := decide_eq_false c20
                clear c20
                obtain rfl := Option.some.inj H
                have hcz37_0 : wr.cell? ⟨gb540, 0, none⟩ = some (.int .u8 ((rd_T31 l0 a1).f0)) := (blk_cell BK540.out 0).trans rfl
                have hcz37_1 : wr.cell? ⟨gb540, 1, none⟩ = some (.int .i64 ((rd_T31 l0 a1).f1)) := (blk_cell BK540.out 1).trans rfl
                have hcz37_2 : wr.cell? ⟨gb540, 2, none⟩ = some (.int .i64 ((rd_T31 l0 a1).f2)) := (blk_cell BK540.out 2).trans rfl
                have hcz37_3 : wr.cell? ⟨gb540, 3, none⟩ = some (.slice A539_3 ((rd_T31 l0 a1).f3).length c539_3) := (blk_cell BK540.out 3).trans rfl
                have hfz37_0 := blk_frozen BK540.out 0
                have hfz37_1 := blk_frozen BK540.out 1
                have hfz37_2 := blk_frozen BK540.out 2
                have hfz37_3 := blk_frozen BK540.out 3
                go_wp2
                go_ret
                exact ⟨by first | rfl | (simp [errW_none, errW_some] <;> rfl) | (simp [*, errW_none, errW_some] <;> rfl), by repeat (first | (with_reducible first | exact HB.out | apply below_alloc | apply pw_below_drewN | apply below_drew1 | refine below_set ?_ GE540.out) | exact HB.out)⟩
        · rw [if_neg c17] at H
          have c17b0 : (((rd_T31 l0 a1).f0) == 4) = false := beq_eq_false_iff_ne.mpr c17
          have c17b1 : (((rd_T31 l0 a1).f0) != 4) = true := bne_iff_ne.mpr c17
          obtain rfl := Option.some.inj H
          have p539 : 0 ≤ (a1 : Int) := of_decide_eq_true (by first | (with_reducible assumption) | assumption)
          have q539 : a1 < (l0.length : Int) := of_decide_eq_true (by first | (with_reducible assumption) | assumption)
          obtain ⟨ad539, A539_3, c539_3, e539, hx539_0, hx539_1, hx539_2, hx539_3, hl539_3, hi539_3⟩ := at_T31 HR0.out a1 p539 q539
          cases e539
          have HR539_3 := Aside0.mk hi539_3
          have HC539_3 := Aside0.mk hl539_3
          clear hi539_3 hl539_3
          replace p539 := eq_true p539
          replace q539 := eq_true q539
          go_enter Try.func60, Try.ntmps60
          go_wp2_with (first | ((with_reducible refine gate_dst (N := 7) rfl ?_); refine box_event ?hg (N := 7) ?hd (cs := #[.int .u8 0, .int .i64 0, .int .i64 0, .slice none 0 0]) (t := 31) ?hr ?_; (case hd => rfl); (case hg => rfl); (case hr => first | (go_simp; done) | (go_simp; rfl)); intro gb540 hg w38 hbox hb; have n0_ := Aside0.mk (below_step (by repeat (first | (with_reducible first | exact HB.out | apply below_alloc | apply pw_below_drewN | apply below_drew1) | exact HB.out)) hb); have n1_ := Aside0.mk (hbox); have n2_ := Aside0.mk ((by rw [hg]; exact (below_size (by repeat (first | (with_reducible first | exact HB.out | apply below_alloc | apply pw_below_drewN | apply below_drew1) | exact HB.out))) : w.heap.size ≤ gb540)); have n3_ := Aside0.mk ((by rw [hg]; exact (below_size (by repeat (first | (with_reducible first | exact HB.out | apply below_alloc | apply pw_below_drewN | apply below_drew1) | exact HB.out))) : w.heap.size ≤ gb540)); clear HB; have HB := n0_; have BK540 := n1_; have GW540 := n2_; have GE540 := n3_; clear n0_ n1_ n2_ n3_; clear hb hbox hg; have hcz39_0 : w38.cell? ⟨gb540, 0, none⟩ = some (.int .u8 0) := (blk_cell BK540.out 0).trans rfl; have hcz39_1 : w38.cell? ⟨gb540, 1, none⟩ = some (.int .i64 0) := (blk_cell BK540.out 1).trans rfl; have hcz39_2 : w38.cell? ⟨gb540, 2, none⟩ = some (.int .i64 0) := (blk_cell BK540.out 2).trans rfl; have hcz39_3 : w38.cell? ⟨gb540, 3, none⟩ = some (.slice none 0 0) := (blk_cell BK540.out 3).trans rfl; have hfz39_0 := blk_frozen BK540.out 0; have hfz39_1 := blk_frozen BK540.out 1; have hfz39_2 := blk_frozen BK540.out 2; have hfz39_3 := blk_frozen BK540.out 3))
          go_ret
          exact ⟨by first | rfl | (simp [errW_none, errW_some] <;> rfl) | (simp [*, errW_none, errW_some] <;> rfl), by repeat (first | (with_reducible first | exact HB.out | apply below_alloc | apply pw_below_drewN | apply below_drew1 | refine below_set ?_ GE540.out) | exact HB.out)⟩
    · rw [if_neg c5] at H
      exact absurd H (by simp)
  · rw [if_neg c4] at H
    exact absurd H (by simp)

end Go.Proofs.Ytfjmpfecnemoiaa.Q
