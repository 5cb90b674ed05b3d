-- Printed by wip/myprint.py (a wrapper of this claim's session over the kit's print.py) out of the translation; Lean checks it.
import Derived.Test.YtfjmpfecnemoiaaDoorQy4
import Derived.Test.YtfjmpfecnemoiaaDoorQx0
import Derived.Test.YtfjmpfecnemoiaaDoorQx5
import Derived.Test.YtfjmpfecnemoiaaDoorQx4
namespace Go.Proofs.YtfjmpfecnemoiaaDoor.Q
open Go.RowKit Go.Proofs.YtfjmpfecnemoiaaDoorW.PrintWords Go.Proofs.YtfjmpfecnemoiaaDoorW.PrintLast Go.Proofs.YtfjmpfecnemoiaaDoorW.PrintMore
attribute [local go_sem] max2_int min2_int max_two min_two max_three min_three max_four min_four   -- for this text's walks alone
set_option linter.unusedVariables false
set_option linter.unusedSimpArgs false

/-! ### fescueref06_TwinBlocks: function 38 -/
mutual
def fescueref06_TwinBlocks.l0 : Nat → List (S58) → List (S58) → Int → Option ((List (S58)))
  | 0, _, _, _ => none
  | k + 1, x0, x3, x4 => if x4 < (x0.length : Int) then (if 0 ≤ x4 then (fescueref06_TwinBlocks.l1 k x0 x3 x4 0 ([] : List (S24)) ((rd_T58 x0 x4).f1.f0) ((rd_T58 x0 x4).f1.f1) ((rd_T58 x0 x4).f1.f2) ((rd_T58 x0 x4).f1.f3)) else (none)) else (some x3)
def fescueref06_TwinBlocks.l1 : Nat → List (S58) → List (S58) → Int → Int → List (S24) → Int → Int → Int → Int → Option ((List (S58)))
  | 0, _, _, _, _, _, _, _, _, _ => none
  | k + 1, x0, x3, x4, x6, x211000, x211001, x211002, x211003, x211004 => if 0 ≤ x4 then (if x4 < (x0.length : Int) then (if x6 < (((rd_T58 x0 x4).f0).length : Int) then (if 0 ≤ x6 then ((some (([] : List Int) : List Int)).bind fun y215 => (if y215.length + ((rd_T24 ((rd_T58 x0 x4).f0) x6).f5).length < 17592186044416 then ((some (([] : List Int) : List Int)).bind fun y221 => (if y221.length + ((rd_T24 ((rd_T58 x0 x4).f0) x6).f6).length < 17592186044416 then (if x211000.length < 1599289640401 then (fescueref06_TwinBlocks.l1 k x0 x3 x4 (wrap64 (x6 + 1)) (x211000 ++ [(⟨(rd_T24 ((rd_T58 x0 x4).f0) x6).f0, (rd_T24 ((rd_T58 x0 x4).f0) x6).f1, (rd_T24 ((rd_T58 x0 x4).f0) x6).f2, (rd_T24 ((rd_T58 x0 x4).f0) x6).f3, (rd_T24 ((rd_T58 x0 x4).f0) x6).f4, (y215 ++ ((rd_T24 ((rd_T58 x0 x4).f0) x6).f5)), (y221 ++ ((rd_T24 ((rd_T58 x0 x4).f0) x6).f6))⟩ : S24)]) x211001 x211002 x211003 x211004) else (none)) else (none))) else (none))) else (none)) else (if x3.length < 2513169434916 then (fescueref06_TwinBlocks.l0 k x0 (x3 ++ [(⟨x211000, (⟨x211001, x211002, x211003, x211004⟩ : S26)⟩ : S58)]) (wrap64 (x4 + 1))) else (none))) else (none)) else (none)
end
def fescueref06_TwinBlocks.f (k : Nat) (l0 : List (S58)) : Option ((List (S58))) := fescueref06_TwinBlocks.l0 k l0 ([] : List (S58)) 0
theorem fescueref06_TwinBlocks.mono_l : ∀ k, (∀ y0 y1 y2, LeO (fescueref06_TwinBlocks.l0 k y0 y1 y2) (fescueref06_TwinBlocks.l0 (k + 1) y0 y1 y2)) ∧ (∀ y0 y1 y2 y3 y4 y5 y6 y7 y8, LeO (fescueref06_TwinBlocks.l1 k y0 y1 y2 y3 y4 y5 y6 y7 y8) (fescueref06_TwinBlocks.l1 (k + 1) y0 y1 y2 y3 y4 y5 y6 y7 y8))
  | 0 => ⟨fun _ _ _ r h => by simp [fescueref06_TwinBlocks.l0] at h, fun _ _ _ _ _ _ _ _ _ r h => by simp [fescueref06_TwinBlocks.l1] at h⟩
  | k + 1 => by
    obtain ⟨ih0, ih1⟩ := fescueref06_TwinBlocks.mono_l k
    refine ⟨?_, ?_⟩
    · intro y0 y1 y2
      unfold fescueref06_TwinBlocks.l0
      repeat' first
      | (with_reducible exact ih0 _ _ _)
      | (with_reducible exact ih1 _ _ _ _ _ _ _ _ _)
      | (with_reducible exact LeO.refl _)
      | (with_reducible exact LeO.none _)
      | (with_reducible refine LeO.ite ?_ ?_)
      | (with_reducible refine LeO.bind ?_ (fun _ => ?_))
      | exact ih0 _ _ _
      | exact ih1 _ _ _ _ _ _ _ _ _
      | exact LeO.none _
      | refine LeO.ite ?_ ?_
      | refine LeO.bind ?_ (fun _ => ?_)
    · intro y0 y1 y2 y3 y4 y5 y6 y7 y8
      unfold fescueref06_TwinBlocks.l1
      repeat' first
      | (with_reducible exact ih0 _ _ _)
      | (with_reducible exact ih1 _ _ _ _ _ _ _ _ _)
      | (with_reducible exact LeO.refl _)
      | (with_reducible exact LeO.none _)
      | (with_reducible refine LeO.ite ?_ ?_)
      | (with_reducible refine LeO.bind ?_ (fun _ => ?_))
      | exact ih0 _ _ _
      | exact ih1 _ _ _ _ _ _ _ _ _
      | exact LeO.none _
      | refine LeO.ite ?_ ?_
      | refine LeO.bind ?_ (fun _ => ?_)
theorem fescueref06_TwinBlocks.mono : ∀ a0 k, LeO (fescueref06_TwinBlocks.f k a0) (fescueref06_TwinBlocks.f (k + 1) a0) := by
  intro a0 k
  obtain ⟨ih0, ih1⟩ := fescueref06_TwinBlocks.mono_l k
  unfold fescueref06_TwinBlocks.f
  repeat' first
      | (with_reducible exact ih0 _ _ _)
      | (with_reducible exact ih1 _ _ _ _ _ _ _ _ _)
      | (with_reducible exact LeO.refl _)
      | (with_reducible exact LeO.none _)
      | (with_reducible refine LeO.ite ?_ ?_)
      | (with_reducible refine LeO.bind ?_ (fun _ => ?_))
      | exact ih0 _ _ _
      | exact ih1 _ _ _ _ _ _ _ _ _
      | exact LeO.none _
      | refine LeO.ite ?_ ?_
      | refine LeO.bind ?_ (fun _ => ?_)
set_option maxHeartbeats 8000000 in
set_option maxRecDepth 100000 in
theorem fescueref06_TwinBlocks.calls (k : Nat) (A0 : Option Addr) (c0 : Nat) (l0 : List (S58)) (r : List (S58)) (w : World) (hr0 : Kd.C k58 w A0 l0.length l0) (hc0 : l0.length ≤ c0) (h : fescueref06_TwinBlocks.f k l0 = some r) :
    Calls Tryd.prog 38 #[.slice A0 l0.length c0] w fun e w' => ∃ v0_ : Value, e = .returned (v0_) ∧ Kd.R k58 58 w' w.heap.size (fun _ => True) v0_ r ∧ Below w.heap.size w w' := by
  have hu26 := Tryd.underlying26
  have hu58 := Tryd.underlying58
  have hu24 := Tryd.underlying24
  have HR0 := Aside0.mk hr0
  have HC0 := Aside0.mk hc0
  clear hr0 hc0
  have HB := Aside0.mk (Below.refl w.heap.size w)
  have H : (fescueref06_TwinBlocks.l0 k l0 ([] : List (S58)) 0) = some r := h
  clear h
  have H' := Aside0.mk H
  clear H
  go_enter Tryd.func38, Tryd.ntmps38
  go_wp2
  go_loopg [3, 4] k (fun kq v3 v4 w' => ∃ (x3_1 : List (S58)) (x4_1 : Int), v4 = .int .i64 x4_1 ∧ Aside0 (fescueref06_TwinBlocks.l0 kq l0 x3_1 x4_1 = some r) ∧ Aside0 (kq ≤ k) ∧ Aside0 (Kd.R k58 58 w' w.heap.size (fun _ => True) v3 x3_1) ∧ Aside0 (Below w.heap.size w w'))
  case atStart => exact ⟨(([] : List (S58))), (0), (by first | rfl | (simp; done) | (simp [*]; done)), H', ⟨Nat.le_refl _⟩, ⟨by first | exact Kd.R_nil _ _ _ _ _ | exact Kd.N_nil _ _ _ _ _ | exact Kd.V_nil _ _ _ _ _ | exact Kd.Q_nil _ _ _ _ _ | exact Kd.S_nil _ _ _ _ _⟩, ⟨by repeat (first | (with_reducible first | exact HB.out | apply below_alloc | apply pw_below_drewN | apply below_drew1) | exact HB.out)⟩⟩
  case round =>
    clear H'
    obtain ⟨x3_1, x4_1, rfl, HA, HK1, HO_3, HB⟩ := hrel
    cases gk with
    | zero => exact absurd HA.out (by simp [fescueref06_TwinBlocks.l0])
    | succ k1 =>
      have H := HA.out
      clear HA
      simp only [fescueref06_TwinBlocks.l0] at H
      by_cases c2 : x4_1 < (l0.length : Int)
      · rw [if_pos c2] at H
        have c2b0 : decide (x4_1 < (l0.length : Int)) = true := decide_eq_true c2
        clear c2
        by_cases c3 : 0 ≤ x4_1
        · rw [if_pos c3] at H
          have c3b0 : decide (0 ≤ x4_1) = true := decide_eq_true c3
          clear c3
          have H' := Aside0.mk H
          clear H
          have p209 : 0 ≤ (x4_1 : Int) := of_decide_eq_true (by first | (with_reducible assumption) | assumption)
          have q209 : x4_1 < (l0.length : Int) := of_decide_eq_true (by first | (with_reducible assumption) | assumption)
          obtain ⟨ad209, A209_0, c209_0, e209, hx209_0, hx209_1, hx209_2, hx209_3, hx209_4, hl209_0, hi209_0⟩ := at_T58 HR0.out x4_1 p209 q209
          cases e209
          replace hx209_0 := (HB.out.cell (World.block_lt_of_cell? w _ hx209_0)).trans hx209_0
          replace hx209_1 := (HB.out.cell (World.block_lt_of_cell? w _ hx209_1)).trans hx209_1
          replace hx209_2 := (HB.out.cell (World.block_lt_of_cell? w _ hx209_2)).trans hx209_2
          replace hx209_3 := (HB.out.cell (World.block_lt_of_cell? w _ hx209_3)).trans hx209_3
          replace hx209_4 := (HB.out.cell (World.block_lt_of_cell? w _ hx209_4)).trans hx209_4
          have HR209_0 := Aside0.mk hi209_0
          have HC209_0 := Aside0.mk hl209_0
          clear hi209_0 hl209_0
          replace p209 := eq_true p209
          replace q209 := eq_true q209
          go_wp2_with (first | ((with_reducible refine gate_dst (N := 5) rfl ?_); refine box_event ?hg (N := 5) ?hd (cs := #[.slice none 0 0, .int .u8 0, .int .i64 0, .int .i64 0, .int .i64 0]) (t := 58) ?hr ?_; (case hd => rfl); (case hg => rfl); (case hr => first | (go_simp; done) | (go_simp; rfl)); intro gb210 hg w4 hbox hb; have n0_ := Aside0.mk (Kd.R_below (Kd.R_elderB (by (with_reducible repeat (first | apply Kd.R_alloc | apply Kd.R_drewN | apply Kd.R_drew)); exact HO_3.out) gb210 (Nat.le_of_eq hg.symm)) hb); have n1_ := Aside0.mk (below_step (by repeat (first | (with_reducible first | exact HB.out | apply below_alloc | apply pw_below_drewN | apply below_drew1) | exact HB.out)) hb); have n2_ := Aside0.mk (hbox); have n3_ := Aside0.mk ((by rw [hg]; exact (below_size (by repeat (first | (with_reducible first | exact HB.out | apply below_alloc | apply pw_below_drewN | apply below_drew1) | exact HB.out))) : w.heap.size ≤ gb210)); have n4_ := Aside0.mk ((by rw [hg]; exact (below_size (by repeat (first | (with_reducible first | exact HB.out | apply below_alloc | apply pw_below_drewN | apply below_drew1) | exact HB.out))) : w.heap.size ≤ gb210)); clear HO_3; clear HB; have HO_3 := n0_; have HB := n1_; have BK210 := n2_; have GW210 := n3_; have GE210 := n4_; clear n0_ n1_ n2_ n3_ n4_; clear hb hbox hg; have hcz5_0 : w4.cell? ⟨gb210, 0, none⟩ = some (.slice none 0 0) := (blk_cell BK210.out 0).trans rfl; have hcz5_1 : w4.cell? ⟨gb210, 1, none⟩ = some (.int .u8 0) := (blk_cell BK210.out 1).trans rfl; have hcz5_2 : w4.cell? ⟨gb210, 2, none⟩ = some (.int .i64 0) := (blk_cell BK210.out 2).trans rfl; have hcz5_3 : w4.cell? ⟨gb210, 3, none⟩ = some (.int .i64 0) := (blk_cell BK210.out 3).trans rfl; have hcz5_4 : w4.cell? ⟨gb210, 4, none⟩ = some (.int .i64 0) := (blk_cell BK210.out 4).trans rfl; have hfz5_0 := blk_frozen BK210.out 0; have hfz5_1 := blk_frozen BK210.out 1; have hfz5_2 := blk_frozen BK210.out 2; have hfz5_3 := blk_frozen BK210.out 3; have hfz5_4 := blk_frozen BK210.out 4))
          go_loopg [6] k1 (fun kq v6 w' => ∃ (x6_2 : Int) (x211000_2 : List (S24)) (u211000 : Value), v6 = .int .i64 x6_2 ∧ Aside0 (fescueref06_TwinBlocks.l1 kq l0 x3_1 x4_1 x6_2 x211000_2 ((rd_T58 l0 x4_1).f1.f0) ((rd_T58 l0 x4_1).f1.f1) ((rd_T58 l0 x4_1).f1.f2) ((rd_T58 l0 x4_1).f1.f3) = some r) ∧ Aside0 (kq ≤ k1) ∧ Aside0 (Kd.R k58 58 w' w.heap.size (fun k_ => some k_ ≠ (u211000 : Value).ownBlock ∧ k_ ≠ gb210) u3 x3_1) ∧ Aside0 (Kd.S k24 24 w' w.heap.size (fun _ => True) u211000 x211000_2) ∧ Aside0 (w'.heap[gb210]? = some (.cells #[u211000, .int .u8 ((rd_T58 l0 x4_1).f1.f0), .int .i64 ((rd_T58 l0 x4_1).f1.f1), .int .i64 ((rd_T58 l0 x4_1).f1.f2), .int .i64 ((rd_T58 l0 x4_1).f1.f3)] 58 (0, 0))) ∧ Aside0 (Below w.heap.size w w'))
          case atStart => exact ⟨(0), (([] : List (S24))), (.slice none 0 0), (by first | rfl | (simp; done) | (simp [*]; done)), H', ⟨Nat.le_refl _⟩, ⟨by (with_reducible repeat (first | apply Kd.R_alloc | apply Kd.R_drewN | apply Kd.R_drew)); exact Kd.R_mono (Kd.R_far (p := ⟨gb210, 4, none⟩) (Kd.R_far (p := ⟨gb210, 3, none⟩) (Kd.R_far (p := ⟨gb210, 2, none⟩) (Kd.R_far (p := ⟨gb210, 1, none⟩) (Kd.R_far (p := ⟨gb210, 0, none⟩) (Kd.R_mono HO_3.out (fun k_ hk => (⟨hk, hk.2⟩ : _ ∧ k_ ≠ gb210))) (fun _ hk => hk.2) (.slice none 0 0)) (fun _ hk => hk.2) (.int .u8 ((rd_T58 l0 x4_1).f1.f0))) (fun _ hk => hk.2) (.int .i64 ((rd_T58 l0 x4_1).f1.f1))) (fun _ hk => hk.2) (.int .i64 ((rd_T58 l0 x4_1).f1.f2))) (fun _ hk => hk.2) (.int .i64 ((rd_T58 l0 x4_1).f1.f3))) (fun _ hk => ⟨(by simp [Value.ownBlock]), hk.1.2⟩)⟩, ⟨by first | exact Kd.S_nil _ _ _ _ _ | exact Kd.N_nil _ _ _ _ _ | exact Kd.V_nil _ _ _ _ _ | exact Kd.Q_nil _ _ _ _ _ | exact Kd.R_nil _ _ _ _ _⟩, ⟨by (with_reducible repeat (first | refine blk_drewN ?_ _ | refine blk_drew ?_ | refine blk_alloc ?_ _)); refine blk_put (cs := #[.slice none 0 0, .int .u8 ((rd_T58 l0 x4_1).f1.f0), .int .i64 ((rd_T58 l0 x4_1).f1.f1), .int .i64 ((rd_T58 l0 x4_1).f1.f2), .int .i64 0]) ?_ 4 _ rfl; (with_reducible repeat (first | refine blk_drewN ?_ _ | refine blk_drew ?_ | refine blk_alloc ?_ _)); refine blk_put (cs := #[.slice none 0 0, .int .u8 ((rd_T58 l0 x4_1).f1.f0), .int .i64 ((rd_T58 l0 x4_1).f1.f1), .int .i64 0, .int .i64 0]) ?_ 3 _ rfl; (with_reducible repeat (first | refine blk_drewN ?_ _ | refine blk_drew ?_ | refine blk_alloc ?_ _)); refine blk_put (cs := #[.slice none 0 0, .int .u8 ((rd_T58 l0 x4_1).f1.f0), .int .i64 0, .int .i64 0, .int .i64 0]) ?_ 2 _ rfl; (with_reducible repeat (first | refine blk_drewN ?_ _ | refine blk_drew ?_ | refine blk_alloc ?_ _)); refine blk_put (cs := #[.slice none 0 0, .int .u8 0, .int .i64 0, .int .i64 0, .int .i64 0]) ?_ 1 _ rfl; (with_reducible repeat (first | refine blk_drewN ?_ _ | refine blk_drew ?_ | refine blk_alloc ?_ _)); refine blk_put (cs := #[.slice none 0 0, .int .u8 0, .int .i64 0, .int .i64 0, .int .i64 0]) ?_ 0 _ rfl; (with_reducible repeat (first | refine blk_drewN ?_ _ | refine blk_drew ?_ | refine blk_alloc ?_ _)); exact BK210.out⟩, ⟨by repeat (first | (with_reducible first | exact HB.out | apply below_alloc | apply pw_below_drewN | apply below_drew1 | refine below_set ?_ GE210.out) | exact HB.out)⟩⟩
          case round =>
            clear H'
            try clear c2
            try clear c2b0
            try clear p2
            try clear q2
            try clear hx2
            try clear c3
            try clear c3b0
            try clear hcz5_0
            try clear hcz5_1
            try clear hcz5_2
            try clear hcz5_3
            try clear hcz5_4
            try clear hfz5_0
            try clear hfz5_1
            try clear hfz5_2
            try clear hfz5_3
            try clear hfz5_4
            try clear hx209_0
            try clear hx209_1
            try clear hx209_2
            try clear hx209_3
            try clear hx209_4
            try clear p209
            try clear q209
            obtain ⟨x6_2, x211000_2, u211000, rfl, HA, HK2, HO_3, HO_211000, BK210, HB⟩ := hrel
            cases gk with
            | zero => exact absurd HA.out (by simp [fescueref06_TwinBlocks.l1])
            | succ k2 =>
              have H := HA.out
              clear HA
              simp only [fescueref06_TwinBlocks.l1] at H
              by_cases c6 : 0 ≤ x4_1
              · rw [if_pos c6] at H
                have c6b0 : decide (0 ≤ x4_1) = true := decide_eq_true c6
                clear c6
                by_cases c7 : x4_1 < (l0.length : Int)
                · rw [if_pos c7] at H
                  have c7b0 : decide (x4_1 < (l0.length : Int)) = true := decide_eq_true c7
                  clear c7
                  by_cases c8 : x6_2 < (((rd_T58 l0 x4_1).f0).length : Int)
                  · rw [if_pos c8] at H
                    have c8b0 : decide (x6_2 < (((rd_T58 l0 x4_1).f0).length : Int)) = true := decide_eq_true c8
                    clear c8
                    by_cases c9 : 0 ≤ x6_2
                    · rw [if_pos c9] at H
                      have c9b0 : decide (0 ≤ x6_2) = true := decide_eq_true c9
                      clear c9
                      obtain ⟨y215, hy215⟩ : ∃ y_ : List Int, y_ = (([] : List Int)) := ⟨_, rfl⟩
                      replace H : (if y215.length + ((rd_T24 ((rd_T58 l0 x4_1).f0) x6_2).f5).length < 17592186044416 then ((some (([] : List Int) : List Int)).bind fun y221 => (if y221.length + ((rd_T24 ((rd_T58 l0 x4_1).f0) x6_2).f6).length < 17592186044416 then (if x211000_2.length < 1599289640401 then (fescueref06_TwinBlocks.l1 k2 l0 x3_1 x4_1 (wrap64 (x6_2 + 1)) (x211000_2 ++ [(⟨(rd_T24 ((rd_T58 l0 x4_1).f0) x6_2).f0, (rd_T24 ((rd_T58 l0 x4_1).f0) x6_2).f1, (rd_T24 ((rd_T58 l0 x4_1).f0) x6_2).f2, (rd_T24 ((rd_T58 l0 x4_1).f0) x6_2).f3, (rd_T24 ((rd_T58 l0 x4_1).f0) x6_2).f4, (y215 ++ ((rd_T24 ((rd_T58 l0 x4_1).f0) x6_2).f5)), (y221 ++ ((rd_T24 ((rd_T58 l0 x4_1).f0) x6_2).f6))⟩ : S24)]) ((rd_T58 l0 x4_1).f1.f0) ((rd_T58 l0 x4_1).f1.f1) ((rd_T58 l0 x4_1).f1.f2) ((rd_T58 l0 x4_1).f1.f3)) else (none)) else (none))) else (none)) = some r := by first | (rw [hy215]; with_reducible exact H) | (have H2_ := (Option.bind_some _ _).symm.trans H; rw [hy215]; with_reducible exact H2_) | (have H2_ := (Option.bind_some _ _).symm.trans H; with_reducible exact H2_) | with_reducible exact H | (rw [hy215]; exact H) | exact H
                      have Ny215 := Aside0.mk hy215
                      clear hy215
                      by_cases c10 : y215.length + ((rd_T24 ((rd_T58 l0 x4_1).f0) x6_2).f5).length < 17592186044416
                      · rw [if_pos c10] at H
                        have LMc10 := Aside0.mk c10
                        clear c10
                        obtain ⟨y218, hy218⟩ : ∃ y_ : List Int, y_ = (y215 ++ ((rd_T24 ((rd_T58 l0 x4_1).f0) x6_2).f5)) := ⟨_, rfl⟩
                        replace H : ((some (([] : List Int) : List Int)).bind fun y221 => (if y221.length + ((rd_T24 ((rd_T58 l0 x4_1).f0) x6_2).f6).length < 17592186044416 then (if x211000_2.length < 1599289640401 then (fescueref06_TwinBlocks.l1 k2 l0 x3_1 x4_1 (wrap64 (x6_2 + 1)) (x211000_2 ++ [(⟨(rd_T24 ((rd_T58 l0 x4_1).f0) x6_2).f0, (rd_T24 ((rd_T58 l0 x4_1).f0) x6_2).f1, (rd_T24 ((rd_T58 l0 x4_1).f0) x6_2).f2, (rd_T24 ((rd_T58 l0 x4_1).f0) x6_2).f3, (rd_T24 ((rd_T58 l0 x4_1).f0) x6_2).f4, y218, (y221 ++ ((rd_T24 ((rd_T58 l0 x4_1).f0) x6_2).f6))⟩ : S24)]) ((rd_T58 l0 x4_1).f1.f0) ((rd_T58 l0 x4_1).f1.f1) ((rd_T58 l0 x4_1).f1.f2) ((rd_T58 l0 x4_1).f1.f3)) else (none)) else (none))) = some r := by first | (rw [hy218]; with_reducible exact H) | (have H2_ := (Option.bind_some _ _).symm.trans H; rw [hy218]; with_reducible exact H2_) | (have H2_ := (Option.bind_some _ _).symm.trans H; with_reducible exact H2_) | with_reducible exact H | (rw [hy218]; exact H) | exact H
                        have Ny218 := Aside0.mk hy218
                        clear hy218
                        obtain ⟨y221, hy221⟩ : ∃ y_ : List Int, y_ = (([] : List Int)) := ⟨_, rfl⟩
                        replace H : (if y221.length + ((rd_T24 ((rd_T58 l0 x4_1).f0) x6_2).f6).length < 17592186044416 then (if x211000_2.length < 1599289640401 then (fescueref06_TwinBlocks.l1 k2 l0 x3_1 x4_1 (wrap64 (x6_2 + 1)) (x211000_2 ++ [(⟨(rd_T24 ((rd_T58 l0 x4_1).f0) x6_2).f0, (rd_T24 ((rd_T58 l0 x4_1).f0) x6_2).f1, (rd_T24 ((rd_T58 l0 x4_1).f0) x6_2).f2, (rd_T24 ((rd_T58 l0 x4_1).f0) x6_2).f3, (rd_T24 ((rd_T58 l0 x4_1).f0) x6_2).f4, y218, (y221 ++ ((rd_T24 ((rd_T58 l0 x4_1).f0) x6_2).f6))⟩ : S24)]) ((rd_T58 l0 x4_1).f1.f0) ((rd_T58 l0 x4_1).f1.f1) ((rd_T58 l0 x4_1).f1.f2) ((rd_T58 l0 x4_1).f1.f3)) else (none)) else (none)) = some r := by first | (rw [hy221]; with_reducible exact H) | (have H2_ := (Option.bind_some _ _).symm.trans H; rw [hy221]; with_reducible exact H2_) | (have H2_ := (Option.bind_some _ _).symm.trans H; with_reducible exact H2_) | with_reducible exact H | (rw [hy221]; exact H) | exact H
                        have Ny221 := Aside0.mk hy221
                        clear hy221
                        by_cases c11 : y221.length + ((rd_T24 ((rd_T58 l0 x4_1).f0) x6_2).f6).length < 17592186044416
                        · rw [if_pos c11] at H
                          have LMc11 := Aside0.mk c11
                          clear c11
                          obtain ⟨y224, hy224⟩ : ∃ y_ : List Int, y_ = (y221 ++ ((rd_T24 ((rd_T58 l0 x4_1).f0) x6_2).f6)) := ⟨_, rfl⟩
                          replace H : (if x211000_2.length < 1599289640401 then (fescueref06_TwinBlocks.l1 k2 l0 x3_1 x4_1 (wrap64 (x6_2 + 1)) (x211000_2 ++ [(⟨(rd_T24 ((rd_T58 l0 x4_1).f0) x6_2).f0, (rd_T24 ((rd_T58 l0 x4_1).f0) x6_2).f1, (rd_T24 ((rd_T58 l0 x4_1).f0) x6_2).f2, (rd_T24 ((rd_T58 l0 x4_1).f0) x6_2).f3, (rd_T24 ((rd_T58 l0 x4_1).f0) x6_2).f4, y218, y224⟩ : S24)]) ((rd_T58 l0 x4_1).f1.f0) ((rd_T58 l0 x4_1).f1.f1) ((rd_T58 l0 x4_1).f1.f2) ((rd_T58 l0 x4_1).f1.f3)) else (none)) = some r := by first | (rw [hy224]; with_reducible exact H) | (have H2_ := (Option.bind_some _ _).symm.trans H; rw [hy224]; with_reducible exact H2_) | (have H2_ := (Option.bind_some _ _).symm.trans H; with_reducible exact H2_) | with_reducible exact H | (rw [hy224]; exact H) | exact H
                          have Ny224 := Aside0.mk hy224
                          clear hy224
                          by_cases c12 : x211000_2.length < 1599289640401
                          · rw [if_pos c12] at H
                            have LMc12 := Aside0.mk c12
                            clear c12
                            obtain ⟨y227, hy227⟩ : ∃ y_ : List (S24), y_ = (x211000_2 ++ [(⟨(rd_T24 ((rd_T58 l0 x4_1).f0) x6_2).f0, (rd_T24 ((rd_T58 l0 x4_1).f0) x6_2).f1, (rd_T24 ((rd_T58 l0 x4_1).f0) x6_2).f2, (rd_T24 ((rd_T58 l0 x4_1).f0) x6_2).f3, (rd_T24 ((rd_T58 l0 x4_1).f0) x6_2).f4, y218, y224⟩ : S24)]) := ⟨_, rfl⟩
                            replace H : (fescueref06_TwinBlocks.l1 k2 l0 x3_1 x4_1 (wrap64 (x6_2 + 1)) y227 ((rd_T58 l0 x4_1).f1.f0) ((rd_T58 l0 x4_1).f1.f1) ((rd_T58 l0 x4_1).f1.f2) ((rd_T58 l0 x4_1).f1.f3)) = some r := by first | (rw [hy227]; with_reducible exact H) | (have H2_ := (Option.bind_some _ _).symm.trans H; rw [hy227]; with_reducible exact H2_) | (have H2_ := (Option.bind_some _ _).symm.trans H; with_reducible exact H2_) | with_reducible exact H | (rw [hy227]; exact H) | exact H
                            have Ny227 := Aside0.mk hy227
                            clear hy227
                            have H' := Aside0.mk H
                            clear H
                            have p211 : 0 ≤ (x4_1 : Int) := of_decide_eq_true (by first | (with_reducible assumption) | assumption)
                            have q211 : x4_1 < (l0.length : Int) := of_decide_eq_true (by first | (with_reducible assumption) | assumption)
                            obtain ⟨ad211, A211_0, c211_0, e211, hx211_0, hx211_1, hx211_2, hx211_3, hx211_4, hl211_0, hi211_0⟩ := at_T58 HR0.out x4_1 p211 q211
                            obtain rfl : ad209 = ad211 := (by injection e211)
                            replace hx211_0 := (HB.out.cell (World.block_lt_of_cell? w _ hx211_0)).trans hx211_0
                            replace hx211_1 := (HB.out.cell (World.block_lt_of_cell? w _ hx211_1)).trans hx211_1
                            replace hx211_2 := (HB.out.cell (World.block_lt_of_cell? w _ hx211_2)).trans hx211_2
                            replace hx211_3 := (HB.out.cell (World.block_lt_of_cell? w _ hx211_3)).trans hx211_3
                            replace hx211_4 := (HB.out.cell (World.block_lt_of_cell? w _ hx211_4)).trans hx211_4
                            have HR211_0 := Aside0.mk hi211_0
                            have HC211_0 := Aside0.mk hl211_0
                            clear hi211_0 hl211_0
                            replace p211 := eq_true p211
                            replace q211 := eq_true q211
                            have p212 : 0 ≤ (x4_1 : Int) := of_decide_eq_true (by first | (with_reducible assumption) | assumption)
                            have q212 : x4_1 < (l0.length : Int) := of_decide_eq_true (by first | (with_reducible assumption) | assumption)
                            obtain ⟨ad212, A212_0, c212_0, e212, hx212_0, hx212_1, hx212_2, hx212_3, hx212_4, hl212_0, hi212_0⟩ := at_T58 HR0.out x4_1 p212 q212
                            obtain rfl : ad209 = ad212 := (by injection e212)
                            replace hx212_0 := (HB.out.cell (World.block_lt_of_cell? w _ hx212_0)).trans hx212_0
                            replace hx212_1 := (HB.out.cell (World.block_lt_of_cell? w _ hx212_1)).trans hx212_1
                            replace hx212_2 := (HB.out.cell (World.block_lt_of_cell? w _ hx212_2)).trans hx212_2
                            replace hx212_3 := (HB.out.cell (World.block_lt_of_cell? w _ hx212_3)).trans hx212_3
                            replace hx212_4 := (HB.out.cell (World.block_lt_of_cell? w _ hx212_4)).trans hx212_4
                            have HR212_0 := Aside0.mk hi212_0
                            have HC212_0 := Aside0.mk hl212_0
                            clear hi212_0 hl212_0
                            replace p212 := eq_true p212
                            replace q212 := eq_true q212
                            have ea_ := Option.some.inj (hx211_0.symm.trans hx212_0)
                            injection ea_ with ea_ en_ ec_
                            subst ea_
                            subst ec_
                            clear en_
                            have p213 : 0 ≤ (x6_2 : Int) := of_decide_eq_true (by first | (with_reducible assumption) | assumption)
                            have q213 : x6_2 < (((rd_T58 l0 x4_1).f0).length : Int) := of_decide_eq_true (by first | (with_reducible assumption) | assumption)
                            obtain ⟨ad213, A213_5, c213_5, A213_6, c213_6, e213, hx213_0, hx213_1, hx213_2, hx213_3, hx213_4, hx213_5, hx213_6, hl213_5, hi213_5, hl213_6, hi213_6⟩ := at_T24 HR212_0.out x6_2 p213 q213
                            cases e213
                            replace hx213_0 := (HB.out.cell (World.block_lt_of_cell? w _ hx213_0)).trans hx213_0
                            replace hx213_1 := (HB.out.cell (World.block_lt_of_cell? w _ hx213_1)).trans hx213_1
                            replace hx213_2 := (HB.out.cell (World.block_lt_of_cell? w _ hx213_2)).trans hx213_2
                            replace hx213_3 := (HB.out.cell (World.block_lt_of_cell? w _ hx213_3)).trans hx213_3
                            replace hx213_4 := (HB.out.cell (World.block_lt_of_cell? w _ hx213_4)).trans hx213_4
                            replace hx213_5 := (HB.out.cell (World.block_lt_of_cell? w _ hx213_5)).trans hx213_5
                            replace hx213_6 := (HB.out.cell (World.block_lt_of_cell? w _ hx213_6)).trans hx213_6
                            have HR213_5 := Aside0.mk hi213_5
                            have HC213_5 := Aside0.mk hl213_5
                            clear hi213_5 hl213_5
                            have HR213_6 := Aside0.mk hi213_6
                            have HC213_6 := Aside0.mk hl213_6
                            clear hi213_6 hl213_6
                            replace p213 := eq_true p213
                            replace q213 := eq_true q213
                            go_wp2_with (first | ((with_reducible refine gate_dst (N := 7) rfl ?_); refine box_event ?hg (N := 7) ?hd (cs := #[.int .u8 0, .int .i64 0, .int .i64 0, .int .i64 0, .int .i64 0, .slice none 0 0, .slice none 0 0]) (t := 24) ?hr ?_; (case hd => rfl); (case hg => rfl); (case hr => first | (go_simp; done) | (go_simp; rfl)); intro gb214 hg w13 hbox hb; have n0_ := Aside0.mk (Kd.R_below (Kd.R_elderB (by (with_reducible repeat (first | apply Kd.R_alloc | apply Kd.R_drewN | apply Kd.R_drew)); exact HO_3.out) gb214 (Nat.le_of_eq hg.symm)) hb); have n1_ := Aside0.mk (Kd.S_below (Kd.S_elderB (by (with_reducible repeat (first | apply Kd.S_alloc | apply Kd.S_drewN | apply Kd.S_drew)); exact HO_211000.out) gb214 (Nat.le_of_eq hg.symm)) hb); have n2_ := Aside0.mk (blk_below (g := gb210) (o := .cells #[u211000, .int .u8 ((rd_T58 l0 x4_1).f1.f0), .int .i64 ((rd_T58 l0 x4_1).f1.f1), .int .i64 ((rd_T58 l0 x4_1).f1.f2), .int .i64 ((rd_T58 l0 x4_1).f1.f3)] 58 (0, 0)) (by (with_reducible repeat (first | refine blk_drewN ?_ _ | refine blk_drew ?_ | refine blk_alloc ?_ _)); exact BK210.out) hb); have n3_ := Aside0.mk (below_step (by repeat (first | (with_reducible first | exact HB.out | apply below_alloc | apply pw_below_drewN | apply below_drew1 | refine below_set ?_ GE210.out) | exact HB.out)) hb); have n4_ := Aside0.mk (hbox); have n5_ := Aside0.mk ((by rw [hg]; exact (below_size (by repeat (first | (with_reducible first | exact HB.out | apply below_alloc | apply pw_below_drewN | apply below_drew1 | refine below_set ?_ GE210.out) | exact HB.out))) : w.heap.size ≤ gb214)); have n6_ := Aside0.mk ((by rw [hg]; exact (below_size (by repeat (first | (with_reducible first | exact HB.out | apply below_alloc | apply pw_below_drewN | apply below_drew1 | refine below_set ?_ GE210.out) | exact HB.out))) : w.heap.size ≤ gb214)); have n7_ := Aside0.mk ((by rw [hg]; exact Nat.ne_of_lt (blk_lt (g := gb210) (o := .cells #[u211000, .int .u8 ((rd_T58 l0 x4_1).f1.f0), .int .i64 ((rd_T58 l0 x4_1).f1.f1), .int .i64 ((rd_T58 l0 x4_1).f1.f2), .int .i64 ((rd_T58 l0 x4_1).f1.f3)] 58 (0, 0)) (by (with_reducible repeat (first | refine blk_drewN ?_ _ | refine blk_drew ?_ | refine blk_alloc ?_ _)); exact BK210.out)) : gb210 ≠ gb214)); have n8_ := Aside0.mk ((by rw [hg]; exact Nat.ne_of_gt (blk_lt (g := gb210) (o := .cells #[u211000, .int .u8 ((rd_T58 l0 x4_1).f1.f0), .int .i64 ((rd_T58 l0 x4_1).f1.f1), .int .i64 ((rd_T58 l0 x4_1).f1.f2), .int .i64 ((rd_T58 l0 x4_1).f1.f3)] 58 (0, 0)) (by (with_reducible repeat (first | refine blk_drewN ?_ _ | refine blk_drew ?_ | refine blk_alloc ?_ _)); exact BK210.out)) : gb214 ≠ gb210)); clear HO_3; clear HO_211000; clear BK210; clear HB; have HO_3 := n0_; have HO_211000 := n1_; have BK210 := n2_; have HB := n3_; have BK214 := n4_; have GW214 := n5_; have GE214 := n6_; have NB210_214 := n7_; have NB214_210 := n8_; clear n0_ n1_ n2_ n3_ n4_ n5_ n6_ n7_ n8_; clear hb hbox hg; have hnb14 := NB214_210.out; have hnc14 := NB210_214.out; have hcz15_0 : w13.cell? ⟨gb214, 0, none⟩ = some (.int .u8 0) := (blk_cell BK214.out 0).trans rfl; have hcz15_1 : w13.cell? ⟨gb214, 1, none⟩ = some (.int .i64 0) := (blk_cell BK214.out 1).trans rfl; have hcz15_2 : w13.cell? ⟨gb214, 2, none⟩ = some (.int .i64 0) := (blk_cell BK214.out 2).trans rfl; have hcz15_3 : w13.cell? ⟨gb214, 3, none⟩ = some (.int .i64 0) := (blk_cell BK214.out 3).trans rfl; have hcz15_4 : w13.cell? ⟨gb214, 4, none⟩ = some (.int .i64 0) := (blk_cell BK214.out 4).trans rfl; have hcz15_5 : w13.cell? ⟨gb214, 5, none⟩ = some (.slice none 0 0) := (blk_cell BK214.out 5).trans rfl; have hcz15_6 : w13.cell? ⟨gb214, 6, none⟩ = some (.slice none 0 0) := (blk_cell BK214.out 6).trans rfl; have hfz15_0 := blk_frozen BK214.out 0; have hfz15_1 := blk_frozen BK214.out 1; have hfz15_2 := blk_frozen BK214.out 2; have hfz15_3 := blk_frozen BK214.out 3; have hfz15_4 := blk_frozen BK214.out 4; have hfz15_5 := blk_frozen BK214.out 5; have hfz15_6 := blk_frozen BK214.out 6) | ((with_reducible refine gate_dst (N := 38) rfl ?_); refine Kd.R_lit (Kd.int .i64) _ 3 ?hg (N := 38) ?hd (xs := ([] : List Int)) (inner := []) (ok := fun _ => True) (okp := fun _ => True) ?hr ?hp (fun _ hk => hk) trivial (Below.refl _ _) (Nat.le_refl _) (by simp) ?_; (case hd => rfl); (case hg => rfl); (case hr => first | (go_simp; done) | (go_simp; rfl)); (case hp => exact (Reps.none _ _)); intro v216 w16 ho17 hb hg_ hnew_; clear hg_ hnew_; (first | rw [← Ny215.out] at ho17 | (simp only [Int.reduceToNat] at ho17; rw [← Ny215.out] at ho17)); have n0_ := Aside0.mk (Kd.R_elder' (by (with_reducible repeat (first | apply Kd.R_alloc | apply Kd.R_drewN | apply Kd.R_drew)); exact (Kd.R_mono (Kd.R_far (p := ⟨gb214, 6, none⟩) (Kd.R_far (p := ⟨gb214, 5, none⟩) (Kd.R_far (p := ⟨gb214, 4, none⟩) (Kd.R_far (p := ⟨gb214, 3, none⟩) (Kd.R_far (p := ⟨gb214, 2, none⟩) (Kd.R_far (p := ⟨gb214, 1, none⟩) (Kd.R_far (p := ⟨gb214, 0, none⟩) (Kd.R_mono HO_3.out (fun k_ hk => (⟨hk, hk.2⟩ : _ ∧ k_ ≠ gb214))) (fun _ hk => hk.2) (.int .u8 ((rd_T24 ((rd_T58 l0 x4_1).f0) x6_2).f0))) (fun _ hk => hk.2) (.int .i64 ((rd_T24 ((rd_T58 l0 x4_1).f0) x6_2).f1))) (fun _ hk => hk.2) (.int .i64 ((rd_T24 ((rd_T58 l0 x4_1).f0) x6_2).f2))) (fun _ hk => hk.2) (.int .i64 ((rd_T24 ((rd_T58 l0 x4_1).f0) x6_2).f3))) (fun _ hk => hk.2) (.int .i64 ((rd_T24 ((rd_T58 l0 x4_1).f0) x6_2).f4))) (fun _ hk => hk.2) (.slice A213_5 ((rd_T24 ((rd_T58 l0 x4_1).f0) x6_2).f5).length c213_5)) (fun _ hk => hk.2) (.slice A213_6 ((rd_T24 ((rd_T58 l0 x4_1).f0) x6_2).f6).length c213_6)) (fun _ h_ => h_.1))) (Kd.R_base ho17) hb); have n1_ := Aside0.mk (Kd.S_elder' (by (with_reducible repeat (first | apply Kd.S_alloc | apply Kd.S_drewN | apply Kd.S_drew)); exact (Kd.S_mono (Kd.S_far (p := ⟨gb214, 6, none⟩) (Kd.S_far (p := ⟨gb214, 5, none⟩) (Kd.S_far (p := ⟨gb214, 4, none⟩) (Kd.S_far (p := ⟨gb214, 3, none⟩) (Kd.S_far (p := ⟨gb214, 2, none⟩) (Kd.S_far (p := ⟨gb214, 1, none⟩) (Kd.S_far (p := ⟨gb214, 0, none⟩) (Kd.S_mono HO_211000.out (fun k_ hk => (⟨hk, hk.2⟩ : _ ∧ k_ ≠ gb214))) (fun _ hk => hk.2) (.int .u8 ((rd_T24 ((rd_T58 l0 x4_1).f0) x6_2).f0))) (fun _ hk => hk.2) (.int .i64 ((rd_T24 ((rd_T58 l0 x4_1).f0) x6_2).f1))) (fun _ hk => hk.2) (.int .i64 ((rd_T24 ((rd_T58 l0 x4_1).f0) x6_2).f2))) (fun _ hk => hk.2) (.int .i64 ((rd_T24 ((rd_T58 l0 x4_1).f0) x6_2).f3))) (fun _ hk => hk.2) (.int .i64 ((rd_T24 ((rd_T58 l0 x4_1).f0) x6_2).f4))) (fun _ hk => hk.2) (.slice A213_5 ((rd_T24 ((rd_T58 l0 x4_1).f0) x6_2).f5).length c213_5)) (fun _ hk => hk.2) (.slice A213_6 ((rd_T24 ((rd_T58 l0 x4_1).f0) x6_2).f6).length c213_6)) (fun _ h_ => h_.1))) (Kd.R_base ho17) hb); have n2_ := Aside0.mk (Kd.R_lower ho17 (below_size (by repeat (first | (with_reducible first | exact HB.out | apply below_alloc | apply pw_below_drewN | apply below_drew1 | refine below_set ?_ GE210.out | refine below_set ?_ GE214.out) | exact HB.out)))); have n3_ := Aside0.mk (blk_below (g := gb210) (o := .cells #[u211000, .int .u8 ((rd_T58 l0 x4_1).f1.f0), .int .i64 ((rd_T58 l0 x4_1).f1.f1), .int .i64 ((rd_T58 l0 x4_1).f1.f2), .int .i64 ((rd_T58 l0 x4_1).f1.f3)] 58 (0, 0)) (by (with_reducible repeat (first | refine blk_drewN ?_ _ | refine blk_drew ?_ | refine blk_alloc ?_ _)); refine blk_far ?_ NB210_214.out _; (with_reducible repeat (first | refine blk_drewN ?_ _ | refine blk_drew ?_ | refine blk_alloc ?_ _)); refine blk_far ?_ NB210_214.out _; (with_reducible repeat (first | refine blk_drewN ?_ _ | refine blk_drew ?_ | refine blk_alloc ?_ _)); refine blk_far ?_ NB210_214.out _; (with_reducible repeat (first | refine blk_drewN ?_ _ | refine blk_drew ?_ | refine blk_alloc ?_ _)); refine blk_far ?_ NB210_214.out _; (with_reducible repeat (first | refine blk_drewN ?_ _ | refine blk_drew ?_ | refine blk_alloc ?_ _)); refine blk_far ?_ NB210_214.out _; (with_reducible repeat (first | refine blk_drewN ?_ _ | refine blk_drew ?_ | refine blk_alloc ?_ _)); refine blk_far ?_ NB210_214.out _; (with_reducible repeat (first | refine blk_drewN ?_ _ | refine blk_drew ?_ | refine blk_alloc ?_ _)); refine blk_far ?_ NB210_214.out _; (with_reducible repeat (first | refine blk_drewN ?_ _ | refine blk_drew ?_ | refine blk_alloc ?_ _)); exact BK210.out) hb); have n4_ := Aside0.mk (blk_below (g := gb214) (o := .cells #[.int .u8 ((rd_T24 ((rd_T58 l0 x4_1).f0) x6_2).f0), .int .i64 ((rd_T24 ((rd_T58 l0 x4_1).f0) x6_2).f1), .int .i64 ((rd_T24 ((rd_T58 l0 x4_1).f0) x6_2).f2), .int .i64 ((rd_T24 ((rd_T58 l0 x4_1).f0) x6_2).f3), .int .i64 ((rd_T24 ((rd_T58 l0 x4_1).f0) x6_2).f4), .slice A213_5 ((rd_T24 ((rd_T58 l0 x4_1).f0) x6_2).f5).length c213_5, .slice A213_6 ((rd_T24 ((rd_T58 l0 x4_1).f0) x6_2).f6).length c213_6] 24 (0, 0)) (by (with_reducible repeat (first | refine blk_drewN ?_ _ | refine blk_drew ?_ | refine blk_alloc ?_ _)); refine blk_put (cs := #[.int .u8 ((rd_T24 ((rd_T58 l0 x4_1).f0) x6_2).f0), .int .i64 ((rd_T24 ((rd_T58 l0 x4_1).f0) x6_2).f1), .int .i64 ((rd_T24 ((rd_T58 l0 x4_1).f0) x6_2).f2), .int .i64 ((rd_T24 ((rd_T58 l0 x4_1).f0) x6_2).f3), .int .i64 ((rd_T24 ((rd_T58 l0 x4_1).f0) x6_2).f4), .slice A213_5 ((rd_T24 ((rd_T58 l0 x4_1).f0) x6_2).f5).length c213_5, .slice none 0 0]) ?_ 6 _ rfl; (with_reducible repeat (first | refine blk_drewN ?_ _ | refine blk_drew ?_ | refine blk_alloc ?_ _)); refine blk_put (cs := #[.int .u8 ((rd_T24 ((rd_T58 l0 x4_1).f0) x6_2).f0), .int .i64 ((rd_T24 ((rd_T58 l0 x4_1).f0) x6_2).f1), .int .i64 ((rd_T24 ((rd_T58 l0 x4_1).f0) x6_2).f2), .int .i64 ((rd_T24 ((rd_T58 l0 x4_1).f0) x6_2).f3), .int .i64 ((rd_T24 ((rd_T58 l0 x4_1).f0) x6_2).f4), .slice none 0 0, .slice none 0 0]) ?_ 5 _ rfl; (with_reducible repeat (first | refine blk_drewN ?_ _ | refine blk_drew ?_ | refine blk_alloc ?_ _)); refine blk_put (cs := #[.int .u8 ((rd_T24 ((rd_T58 l0 x4_1).f0) x6_2).f0), .int .i64 ((rd_T24 ((rd_T58 l0 x4_1).f0) x6_2).f1), .int .i64 ((rd_T24 ((rd_T58 l0 x4_1).f0) x6_2).f2), .int .i64 ((rd_T24 ((rd_T58 l0 x4_1).f0) x6_2).f3), .int .i64 0, .slice none 0 0, .slice none 0 0]) ?_ 4 _ rfl; (with_reducible repeat (first | refine blk_drewN ?_ _ | refine blk_drew ?_ | refine blk_alloc ?_ _)); refine blk_put (cs := #[.int .u8 ((rd_T24 ((rd_T58 l0 x4_1).f0) x6_2).f0), .int .i64 ((rd_T24 ((rd_T58 l0 x4_1).f0) x6_2).f1), .int .i64 ((rd_T24 ((rd_T58 l0 x4_1).f0) x6_2).f2), .int .i64 0, .int .i64 0, .slice none 0 0, .slice none 0 0]) ?_ 3 _ rfl; (with_reducible repeat (first | refine blk_drewN ?_ _ | refine blk_drew ?_ | refine blk_alloc ?_ _)); refine blk_put (cs := #[.int .u8 ((rd_T24 ((rd_T58 l0 x4_1).f0) x6_2).f0), .int .i64 ((rd_T24 ((rd_T58 l0 x4_1).f0) x6_2).f1), .int .i64 0, .int .i64 0, .int .i64 0, .slice none 0 0, .slice none 0 0]) ?_ 2 _ rfl; (with_reducible repeat (first | refine blk_drewN ?_ _ | refine blk_drew ?_ | refine blk_alloc ?_ _)); refine blk_put (cs := #[.int .u8 ((rd_T24 ((rd_T58 l0 x4_1).f0) x6_2).f0), .int .i64 0, .int .i64 0, .int .i64 0, .int .i64 0, .slice none 0 0, .slice none 0 0]) ?_ 1 _ rfl; (with_reducible repeat (first | refine blk_drewN ?_ _ | refine blk_drew ?_ | refine blk_alloc ?_ _)); refine blk_put (cs := #[.int .u8 0, .int .i64 0, .int .i64 0, .int .i64 0, .int .i64 0, .slice none 0 0, .slice none 0 0]) ?_ 0 _ rfl; (with_reducible repeat (first | refine blk_drewN ?_ _ | refine blk_drew ?_ | refine blk_alloc ?_ _)); exact BK214.out) hb); have n5_ := Aside0.mk (below_step (by repeat (first | (with_reducible first | exact HB.out | apply below_alloc | apply pw_below_drewN | apply below_drew1 | refine below_set ?_ GE210.out | refine below_set ?_ GE214.out) | exact HB.out)) hb); clear HO_3; clear HO_211000; clear BK210; clear BK214; clear HB; have HO_3 := n0_; have HO_211000 := n1_; have HO217 := n2_; have BK210 := n3_; have BK214 := n4_; have HB := n5_; clear n0_ n1_ n2_ n3_ n4_ n5_; clear hb ho17; have hcz18_0 : w16.cell? ⟨gb214, 0, none⟩ = some (.int .u8 ((rd_T24 ((rd_T58 l0 x4_1).f0) x6_2).f0)) := (blk_cell BK214.out 0).trans rfl; have hcz18_1 : w16.cell? ⟨gb214, 1, none⟩ = some (.int .i64 ((rd_T24 ((rd_T58 l0 x4_1).f0) x6_2).f1)) := (blk_cell BK214.out 1).trans rfl; have hcz18_2 : w16.cell? ⟨gb214, 2, none⟩ = some (.int .i64 ((rd_T24 ((rd_T58 l0 x4_1).f0) x6_2).f2)) := (blk_cell BK214.out 2).trans rfl; have hcz18_3 : w16.cell? ⟨gb214, 3, none⟩ = some (.int .i64 ((rd_T24 ((rd_T58 l0 x4_1).f0) x6_2).f3)) := (blk_cell BK214.out 3).trans rfl; have hcz18_4 : w16.cell? ⟨gb214, 4, none⟩ = some (.int .i64 ((rd_T24 ((rd_T58 l0 x4_1).f0) x6_2).f4)) := (blk_cell BK214.out 4).trans rfl; have hcz18_5 : w16.cell? ⟨gb214, 5, none⟩ = some (.slice A213_5 ((rd_T24 ((rd_T58 l0 x4_1).f0) x6_2).f5).length c213_5) := (blk_cell BK214.out 5).trans rfl; have hcz18_6 : w16.cell? ⟨gb214, 6, none⟩ = some (.slice A213_6 ((rd_T24 ((rd_T58 l0 x4_1).f0) x6_2).f6).length c213_6) := (blk_cell BK214.out 6).trans rfl; have hfz18_0 := blk_frozen BK214.out 0; have hfz18_1 := blk_frozen BK214.out 1; have hfz18_2 := blk_frozen BK214.out 2; have hfz18_3 := blk_frozen BK214.out 3; have hfz18_4 := blk_frozen BK214.out 4; have hfz18_5 := blk_frozen BK214.out 5; have hfz18_6 := blk_frozen BK214.out 6) | ((with_reducible refine gate_builtin (b := .append) (xs := #[.tmp 38, .tmp 40]) rfl ?_); at_builtin; refine Kd.R_append_rows (Kd.int .i64) (w0 := w) w.heap.size rfl (.tmp 38) (.tmp 40) 22 3 (.int .i64 0) 8 rfl Tryd.underlying22 info3 rfl (by decide) (by omega) v216 y215 ((rd_T24 ((rd_T58 l0 x4_1).f0) x6_2).f5) _ _ _ (fun _ => True) (fun _ => False) rfl rfl ?aO ?aR (fun _ _ h => h) (fun _ h => h.elim) ?aF ?aB ?aS ?aL ?_; (case aR => repeat (first | exact (Kd.C_below HR213_5.out HB.out) | (with_reducible refine Kd.C_alloc ?_ _) | (with_reducible refine Kd.C_drewN ?_ _) | (with_reducible refine Kd.C_drew ?_))); (case aB => exact (by repeat (first | (with_reducible first | exact HB.out | apply below_alloc | apply pw_below_drewN | apply below_drew1 | refine below_set ?_ GE210.out | refine below_set ?_ GE214.out) | exact HB.out))); (case aF => exact (fun _ _ => trivial)); (case aO => exact (by (with_reducible repeat (first | apply Kd.R_alloc | apply Kd.R_drewN | apply Kd.R_drew)); exact HO217.out)); (case aS => exact (below_size (by repeat (first | (with_reducible first | exact HB.out | apply below_alloc | apply pw_below_drewN | apply below_drew1 | refine below_set ?_ GE210.out | refine below_set ?_ GE214.out) | exact HB.out)))); (case aL => have := LMc10.out; omega); intro v219 w19 ho hb hg hat; rw [← Ny218.out] at ho; have n0_ := Aside0.mk (Kd.R_after (ok := (fun k_ => some k_ ≠ (u211000 : Value).ownBlock ∧ k_ ≠ gb210 ∧ k_ ≠ gb214)) (by (with_reducible repeat (first | apply Kd.R_alloc | apply Kd.R_drewN | apply Kd.R_drew)); exact Kd.R_mono HO_3.out (fun _ hk => ⟨⟨hk.1.1.1, ⟨hk.1.1.2, hk.1.2⟩⟩, hk.2⟩)) hg hat); have n1_ := Aside0.mk (Kd.S_after (ok := (fun k_ => k_ ≠ gb214)) (by (with_reducible repeat (first | apply Kd.S_alloc | apply Kd.S_drewN | apply Kd.S_drew)); exact Kd.S_mono HO_211000.out (fun _ hk => ⟨hk.1.2, hk.2⟩)) hg hat); have n2_ := Aside0.mk (blk_grown (g := gb210) (o := .cells #[u211000, .int .u8 ((rd_T58 l0 x4_1).f1.f0), .int .i64 ((rd_T58 l0 x4_1).f1.f1), .int .i64 ((rd_T58 l0 x4_1).f1.f2), .int .i64 ((rd_T58 l0 x4_1).f1.f3)] 58 (0, 0)) (by (with_reducible repeat (first | refine blk_drewN ?_ _ | refine blk_drew ?_ | refine blk_alloc ?_ _)); exact BK210.out) hg (Kd.R_ne HO217.out BK210.out (by decide))); have n3_ := Aside0.mk (blk_grown (g := gb214) (o := .cells #[.int .u8 ((rd_T24 ((rd_T58 l0 x4_1).f0) x6_2).f0), .int .i64 ((rd_T24 ((rd_T58 l0 x4_1).f0) x6_2).f1), .int .i64 ((rd_T24 ((rd_T58 l0 x4_1).f0) x6_2).f2), .int .i64 ((rd_T24 ((rd_T58 l0 x4_1).f0) x6_2).f3), .int .i64 ((rd_T24 ((rd_T58 l0 x4_1).f0) x6_2).f4), .slice A213_5 ((rd_T24 ((rd_T58 l0 x4_1).f0) x6_2).f5).length c213_5, .slice A213_6 ((rd_T24 ((rd_T58 l0 x4_1).f0) x6_2).f6).length c213_6] 24 (0, 0)) (by (with_reducible repeat (first | refine blk_drewN ?_ _ | refine blk_drew ?_ | refine blk_alloc ?_ _)); exact BK214.out) hg (Kd.R_ne HO217.out BK214.out (by decide))); have n4_ := Aside0.mk (hb); have n5_ := Aside0.mk (ho); clear HO_3; clear HO_211000; clear BK210; clear BK214; clear HB; clear HO217; have HO_3 := n0_; have HO_211000 := n1_; have BK210 := n2_; have BK214 := n3_; have HB := n4_; have HO220 := n5_; clear n0_ n1_ n2_ n3_ n4_ n5_; clear ho hb hg hat; obtain ⟨Ao20, co20, eo20⟩ := Kd.R_slice HO220.out; subst eo20; have hcz21_0 : w19.cell? ⟨gb214, 0, none⟩ = some (.int .u8 ((rd_T24 ((rd_T58 l0 x4_1).f0) x6_2).f0)) := (blk_cell BK214.out 0).trans rfl; have hcz21_1 : w19.cell? ⟨gb214, 1, none⟩ = some (.int .i64 ((rd_T24 ((rd_T58 l0 x4_1).f0) x6_2).f1)) := (blk_cell BK214.out 1).trans rfl; have hcz21_2 : w19.cell? ⟨gb214, 2, none⟩ = some (.int .i64 ((rd_T24 ((rd_T58 l0 x4_1).f0) x6_2).f2)) := (blk_cell BK214.out 2).trans rfl; have hcz21_3 : w19.cell? ⟨gb214, 3, none⟩ = some (.int .i64 ((rd_T24 ((rd_T58 l0 x4_1).f0) x6_2).f3)) := (blk_cell BK214.out 3).trans rfl; have hcz21_4 : w19.cell? ⟨gb214, 4, none⟩ = some (.int .i64 ((rd_T24 ((rd_T58 l0 x4_1).f0) x6_2).f4)) := (blk_cell BK214.out 4).trans rfl; have hcz21_5 : w19.cell? ⟨gb214, 5, none⟩ = some (.slice A213_5 ((rd_T24 ((rd_T58 l0 x4_1).f0) x6_2).f5).length c213_5) := (blk_cell BK214.out 5).trans rfl; have hcz21_6 : w19.cell? ⟨gb214, 6, none⟩ = some (.slice A213_6 ((rd_T24 ((rd_T58 l0 x4_1).f0) x6_2).f6).length c213_6) := (blk_cell BK214.out 6).trans rfl; have hfz21_0 := blk_frozen BK214.out 0; have hfz21_1 := blk_frozen BK214.out 1; have hfz21_2 := blk_frozen BK214.out 2; have hfz21_3 := blk_frozen BK214.out 3; have hfz21_4 := blk_frozen BK214.out 4; have hfz21_5 := blk_frozen BK214.out 5; have hfz21_6 := blk_frozen BK214.out 6) | ((with_reducible refine gate_dst (N := 43) rfl ?_); refine Kd.R_lit (Kd.int .i64) _ 3 ?hg (N := 43) ?hd (xs := ([] : List Int)) (inner := []) (ok := fun _ => True) (okp := fun _ => True) ?hr ?hp (fun _ hk => hk) trivial (Below.refl _ _) (Nat.le_refl _) (by simp) ?_; (case hd => rfl); (case hg => rfl); (case hr => first | (go_simp; done) | (go_simp; rfl)); (case hp => exact (Reps.none _ _)); intro v222 w22 ho23 hb hg_ hnew_; clear hg_ hnew_; (first | rw [← Ny221.out] at ho23 | (simp only [Int.reduceToNat] at ho23; rw [← Ny221.out] at ho23)); have n0_ := Aside0.mk (Kd.R_elder' (by (with_reducible repeat (first | apply Kd.R_alloc | apply Kd.R_drewN | apply Kd.R_drew)); exact (Kd.R_mono (Kd.R_far (p := ⟨gb214, 5, none⟩) (Kd.R_mono HO_3.out (fun k_ hk => (⟨hk, hk.1.2.2⟩ : _ ∧ k_ ≠ gb214))) (fun _ hk => hk.2) (.slice Ao20 y218.length co20)) (fun _ h_ => h_.1))) (Kd.R_base ho23) hb); have n1_ := Aside0.mk (Kd.S_elder' (by (with_reducible repeat (first | apply Kd.S_alloc | apply Kd.S_drewN | apply Kd.S_drew)); exact (Kd.S_mono (Kd.S_far (p := ⟨gb214, 5, none⟩) (Kd.S_mono HO_211000.out (fun k_ hk => (⟨hk, hk.1⟩ : _ ∧ k_ ≠ gb214))) (fun _ hk => hk.2) (.slice Ao20 y218.length co20)) (fun _ h_ => h_.1))) (Kd.R_base ho23) hb); have n2_ := Aside0.mk (Kd.R_elder' (by (with_reducible repeat (first | apply Kd.R_alloc | apply Kd.R_drewN | apply Kd.R_drew)); exact (Kd.R_mono (Kd.R_far (p := ⟨gb214, 5, none⟩) (Kd.R_types HO220.out BK214.out (by decide)) (fun _ hk => hk.2) (.slice Ao20 y218.length co20)) (fun _ h_ => h_.1))) (Kd.R_base ho23) hb); have n3_ := Aside0.mk (Kd.R_lower (Kd.R_new' ho23 (Kd.R_lt (by (with_reducible repeat (first | apply Kd.R_alloc | apply Kd.R_drewN | apply Kd.R_drew)); exact (Kd.R_mono (Kd.R_far (p := ⟨gb214, 5, none⟩) (Kd.R_types HO220.out BK214.out (by decide)) (fun _ hk => hk.2) (.slice Ao20 y218.length co20)) (fun _ h_ => h_.1))))) (below_size (by repeat (first | (with_reducible first | exact HB.out | apply below_alloc | apply pw_below_drewN | apply below_drew1 | refine below_set ?_ GE210.out | refine below_set ?_ GE214.out) | exact HB.out)))); have n4_ := Aside0.mk (blk_below (g := gb210) (o := .cells #[u211000, .int .u8 ((rd_T58 l0 x4_1).f1.f0), .int .i64 ((rd_T58 l0 x4_1).f1.f1), .int .i64 ((rd_T58 l0 x4_1).f1.f2), .int .i64 ((rd_T58 l0 x4_1).f1.f3)] 58 (0, 0)) (by (with_reducible repeat (first | refine blk_drewN ?_ _ | refine blk_drew ?_ | refine blk_alloc ?_ _)); refine blk_far ?_ NB210_214.out _; (with_reducible repeat (first | refine blk_drewN ?_ _ | refine blk_drew ?_ | refine blk_alloc ?_ _)); exact BK210.out) hb); have n5_ := Aside0.mk (blk_below (g := gb214) (o := .cells #[.int .u8 ((rd_T24 ((rd_T58 l0 x4_1).f0) x6_2).f0), .int .i64 ((rd_T24 ((rd_T58 l0 x4_1).f0) x6_2).f1), .int .i64 ((rd_T24 ((rd_T58 l0 x4_1).f0) x6_2).f2), .int .i64 ((rd_T24 ((rd_T58 l0 x4_1).f0) x6_2).f3), .int .i64 ((rd_T24 ((rd_T58 l0 x4_1).f0) x6_2).f4), .slice Ao20 y218.length co20, .slice A213_6 ((rd_T24 ((rd_T58 l0 x4_1).f0) x6_2).f6).length c213_6] 24 (0, 0)) (by (with_reducible repeat (first | refine blk_drewN ?_ _ | refine blk_drew ?_ | refine blk_alloc ?_ _)); refine blk_put (cs := #[.int .u8 ((rd_T24 ((rd_T58 l0 x4_1).f0) x6_2).f0), .int .i64 ((rd_T24 ((rd_T58 l0 x4_1).f0) x6_2).f1), .int .i64 ((rd_T24 ((rd_T58 l0 x4_1).f0) x6_2).f2), .int .i64 ((rd_T24 ((rd_T58 l0 x4_1).f0) x6_2).f3), .int .i64 ((rd_T24 ((rd_T58 l0 x4_1).f0) x6_2).f4), .slice A213_5 ((rd_T24 ((rd_T58 l0 x4_1).f0) x6_2).f5).length c213_5, .slice A213_6 ((rd_T24 ((rd_T58 l0 x4_1).f0) x6_2).f6).length c213_6]) ?_ 5 _ rfl; (with_reducible repeat (first | refine blk_drewN ?_ _ | refine blk_drew ?_ | refine blk_alloc ?_ _)); exact BK214.out) hb); have n6_ := Aside0.mk (below_step (by repeat (first | (with_reducible first | exact HB.out | apply below_alloc | apply pw_below_drewN | apply below_drew1 | refine below_set ?_ GE210.out | refine below_set ?_ GE214.out) | exact HB.out)) hb); clear HO_3; clear HO_211000; clear HO220; clear BK210; clear BK214; clear HB; have HO_3 := n0_; have HO_211000 := n1_; have HO220 := n2_; have HO223 := n3_; have BK210 := n4_; have BK214 := n5_; have HB := n6_; clear n0_ n1_ n2_ n3_ n4_ n5_ n6_; clear hb ho23; have hcz24_0 : w22.cell? ⟨gb214, 0, none⟩ = some (.int .u8 ((rd_T24 ((rd_T58 l0 x4_1).f0) x6_2).f0)) := (blk_cell BK214.out 0).trans rfl; have hcz24_1 : w22.cell? ⟨gb214, 1, none⟩ = some (.int .i64 ((rd_T24 ((rd_T58 l0 x4_1).f0) x6_2).f1)) := (blk_cell BK214.out 1).trans rfl; have hcz24_2 : w22.cell? ⟨gb214, 2, none⟩ = some (.int .i64 ((rd_T24 ((rd_T58 l0 x4_1).f0) x6_2).f2)) := (blk_cell BK214.out 2).trans rfl; have hcz24_3 : w22.cell? ⟨gb214, 3, none⟩ = some (.int .i64 ((rd_T24 ((rd_T58 l0 x4_1).f0) x6_2).f3)) := (blk_cell BK214.out 3).trans rfl; have hcz24_4 : w22.cell? ⟨gb214, 4, none⟩ = some (.int .i64 ((rd_T24 ((rd_T58 l0 x4_1).f0) x6_2).f4)) := (blk_cell BK214.out 4).trans rfl; have hcz24_5 : w22.cell? ⟨gb214, 5, none⟩ = some (.slice Ao20 y218.length co20) := (blk_cell BK214.out 5).trans rfl; have hcz24_6 : w22.cell? ⟨gb214, 6, none⟩ = some (.slice A213_6 ((rd_T24 ((rd_T58 l0 x4_1).f0) x6_2).f6).length c213_6) := (blk_cell BK214.out 6).trans rfl; have hfz24_0 := blk_frozen BK214.out 0; have hfz24_1 := blk_frozen BK214.out 1; have hfz24_2 := blk_frozen BK214.out 2; have hfz24_3 := blk_frozen BK214.out 3; have hfz24_4 := blk_frozen BK214.out 4; have hfz24_5 := blk_frozen BK214.out 5; have hfz24_6 := blk_frozen BK214.out 6) | ((with_reducible refine gate_builtin (b := .append) (xs := #[.tmp 43, .tmp 45]) rfl ?_); at_builtin; refine Kd.R_append_rows (Kd.int .i64) (w0 := w) w.heap.size rfl (.tmp 43) (.tmp 45) 22 3 (.int .i64 0) 8 rfl Tryd.underlying22 info3 rfl (by decide) (by omega) v222 y221 ((rd_T24 ((rd_T58 l0 x4_1).f0) x6_2).f6) _ _ _ (fun k_ => some k_ ≠ (.slice Ao20 y218.length co20 : Value).ownBlock) (fun _ => False) rfl rfl ?aO ?aR (fun _ _ h => h) (fun _ h => h.elim) ?aF ?aB ?aS ?aL ?_; (case aR => repeat (first | exact (Kd.C_below HR213_6.out HB.out) | (with_reducible refine Kd.C_alloc ?_ _) | (with_reducible refine Kd.C_drewN ?_ _) | (with_reducible refine Kd.C_drew ?_))); (case aB => exact (by repeat (first | (with_reducible first | exact HB.out | apply below_alloc | apply pw_below_drewN | apply below_drew1 | refine below_set ?_ GE210.out | refine below_set ?_ GE214.out) | exact HB.out))); (case aF => exact (fun k_ hk => Kd.fresh' (Kd.R_lt (by (with_reducible repeat (first | apply Kd.R_alloc | apply Kd.R_drewN | apply Kd.R_drew)); exact HO220.out)) k_ hk)); (case aO => exact (by (with_reducible repeat (first | apply Kd.R_alloc | apply Kd.R_drewN | apply Kd.R_drew)); exact Kd.R_mono HO223.out (fun _ hk => hk.2))); (case aS => exact (below_size (by repeat (first | (with_reducible first | exact HB.out | apply below_alloc | apply pw_below_drewN | apply below_drew1 | refine below_set ?_ GE210.out | refine below_set ?_ GE214.out) | exact HB.out)))); (case aL => have := LMc11.out; omega); intro v225 w25 ho hb hg hat; rw [← Ny224.out] at ho; have n0_ := Aside0.mk (Kd.R_after (ok := (fun k_ => some k_ ≠ (u211000 : Value).ownBlock ∧ some k_ ≠ (.slice Ao20 y218.length co20 : Value).ownBlock ∧ k_ ≠ gb210 ∧ k_ ≠ gb214)) (by (with_reducible repeat (first | apply Kd.R_alloc | apply Kd.R_drewN | apply Kd.R_drew)); exact Kd.R_mono HO_3.out (fun _ hk => ⟨⟨hk.1.1.1, ⟨hk.1.2, ⟨hk.1.1.2.1, hk.1.1.2.2⟩⟩⟩, hk.2⟩)) hg hat); have n1_ := Aside0.mk (Kd.S_after (ok := (fun k_ => some k_ ≠ (.slice Ao20 y218.length co20 : Value).ownBlock ∧ k_ ≠ gb214)) (by (with_reducible repeat (first | apply Kd.S_alloc | apply Kd.S_drewN | apply Kd.S_drew)); exact Kd.S_mono HO_211000.out (fun _ hk => ⟨⟨hk.1.2, hk.1.1⟩, hk.2⟩)) hg hat); have n2_ := Aside0.mk (blk_grown (g := gb210) (o := .cells #[u211000, .int .u8 ((rd_T58 l0 x4_1).f1.f0), .int .i64 ((rd_T58 l0 x4_1).f1.f1), .int .i64 ((rd_T58 l0 x4_1).f1.f2), .int .i64 ((rd_T58 l0 x4_1).f1.f3)] 58 (0, 0)) (by (with_reducible repeat (first | refine blk_drewN ?_ _ | refine blk_drew ?_ | refine blk_alloc ?_ _)); exact BK210.out) hg (Kd.R_ne HO223.out BK210.out (by decide))); have n3_ := Aside0.mk (blk_grown (g := gb214) (o := .cells #[.int .u8 ((rd_T24 ((rd_T58 l0 x4_1).f0) x6_2).f0), .int .i64 ((rd_T24 ((rd_T58 l0 x4_1).f0) x6_2).f1), .int .i64 ((rd_T24 ((rd_T58 l0 x4_1).f0) x6_2).f2), .int .i64 ((rd_T24 ((rd_T58 l0 x4_1).f0) x6_2).f3), .int .i64 ((rd_T24 ((rd_T58 l0 x4_1).f0) x6_2).f4), .slice Ao20 y218.length co20, .slice A213_6 ((rd_T24 ((rd_T58 l0 x4_1).f0) x6_2).f6).length c213_6] 24 (0, 0)) (by (with_reducible repeat (first | refine blk_drewN ?_ _ | refine blk_drew ?_ | refine blk_alloc ?_ _)); exact BK214.out) hg (Kd.R_ne HO223.out BK214.out (by decide))); have n4_ := Aside0.mk (Kd.R_after (ok := (fun _ => True)) (by (with_reducible repeat (first | apply Kd.R_alloc | apply Kd.R_drewN | apply Kd.R_drew)); exact HO220.out) hg hat); have n5_ := Aside0.mk (hb); have n6_ := Aside0.mk (ho); clear HO_3; clear HO_211000; clear BK210; clear BK214; clear HO220; clear HB; clear HO223; have HO_3 := n0_; have HO_211000 := n1_; have BK210 := n2_; have BK214 := n3_; have HO220 := n4_; have HB := n5_; have HO226 := n6_; clear n0_ n1_ n2_ n3_ n4_ n5_ n6_; clear ho hb hg hat; obtain ⟨Ao26, co26, eo26⟩ := Kd.R_slice HO226.out; subst eo26; have hcz27_0 : w25.cell? ⟨gb214, 0, none⟩ = some (.int .u8 ((rd_T24 ((rd_T58 l0 x4_1).f0) x6_2).f0)) := (blk_cell BK214.out 0).trans rfl; have hcz27_1 : w25.cell? ⟨gb214, 1, none⟩ = some (.int .i64 ((rd_T24 ((rd_T58 l0 x4_1).f0) x6_2).f1)) := (blk_cell BK214.out 1).trans rfl; have hcz27_2 : w25.cell? ⟨gb214, 2, none⟩ = some (.int .i64 ((rd_T24 ((rd_T58 l0 x4_1).f0) x6_2).f2)) := (blk_cell BK214.out 2).trans rfl; have hcz27_3 : w25.cell? ⟨gb214, 3, none⟩ = some (.int .i64 ((rd_T24 ((rd_T58 l0 x4_1).f0) x6_2).f3)) := (blk_cell BK214.out 3).trans rfl; have hcz27_4 : w25.cell? ⟨gb214, 4, none⟩ = some (.int .i64 ((rd_T24 ((rd_T58 l0 x4_1).f0) x6_2).f4)) := (blk_cell BK214.out 4).trans rfl; have hcz27_5 : w25.cell? ⟨gb214, 5, none⟩ = some (.slice Ao20 y218.length co20) := (blk_cell BK214.out 5).trans rfl; have hcz27_6 : w25.cell? ⟨gb214, 6, none⟩ = some (.slice A213_6 ((rd_T24 ((rd_T58 l0 x4_1).f0) x6_2).f6).length c213_6) := (blk_cell BK214.out 6).trans rfl; have hfz27_0 := blk_frozen BK214.out 0; have hfz27_1 := blk_frozen BK214.out 1; have hfz27_2 := blk_frozen BK214.out 2; have hfz27_3 := blk_frozen BK214.out 3; have hfz27_4 := blk_frozen BK214.out 4; have hfz27_5 := blk_frozen BK214.out 5; have hfz27_6 := blk_frozen BK214.out 6) | ((with_reducible refine gate_store (t := 22) (p := 47) rfl ?_); refine store_event (t := 22) (p := 47) (v := ?vo_w28) (w1 := (w25.setCell ⟨gb214, 6, none⟩ (.slice Ao26 y224.length co26))) ?hg ?ho ?hn ?hr ?_; (case ho => rfl); (case hg => rfl); (case hn => rfl); (case hr => first | (go_simp; done) | (go_simp; rfl)); intro w28 hw; have n0_ : Aside0 (Kd.R k58 58 w28 w.heap.size (fun k_ => some k_ ≠ (u211000 : Value).ownBlock ∧ some k_ ≠ (.slice Ao20 y218.length co20 : Value).ownBlock ∧ some k_ ≠ (.slice Ao26 y224.length co26 : Value).ownBlock ∧ k_ ≠ gb210 ∧ k_ ≠ gb214) u3 x3_1) := ⟨(by rw [hw]; exact (by (with_reducible repeat (first | apply Kd.R_alloc | apply Kd.R_drewN | apply Kd.R_drew)); exact Kd.R_mono (Kd.R_far (p := ⟨gb214, 6, none⟩) (Kd.R_mono HO_3.out (fun k_ hk => (⟨hk, hk.1.2.2.2⟩ : _ ∧ k_ ≠ gb214))) (fun _ hk => hk.2) (.slice Ao26 y224.length co26)) (fun _ hk => ⟨hk.1.1.1, ⟨hk.1.1.2.1, ⟨hk.1.2, ⟨hk.1.1.2.2.1, hk.1.1.2.2.2⟩⟩⟩⟩)))⟩; have n1_ : Aside0 (Kd.S k24 24 w28 w.heap.size (fun k_ => some k_ ≠ (.slice Ao20 y218.length co20 : Value).ownBlock ∧ some k_ ≠ (.slice Ao26 y224.length co26 : Value).ownBlock ∧ k_ ≠ gb214) u211000 x211000_2) := ⟨(by rw [hw]; exact (by (with_reducible repeat (first | apply Kd.S_alloc | apply Kd.S_drewN | apply Kd.S_drew)); exact Kd.S_mono (Kd.S_far (p := ⟨gb214, 6, none⟩) (Kd.S_mono HO_211000.out (fun k_ hk => (⟨hk, hk.1.2⟩ : _ ∧ k_ ≠ gb214))) (fun _ hk => hk.2) (.slice Ao26 y224.length co26)) (fun _ hk => ⟨hk.1.1.1, ⟨hk.1.2, hk.1.1.2⟩⟩)))⟩; have n2_ : Aside0 (Kd.R (Kd.int .i64) 3 w28 w.heap.size (fun k_ => some k_ ≠ (.slice Ao26 y224.length co26 : Value).ownBlock) (.slice Ao20 y218.length co20) y218) := ⟨(by rw [hw]; exact (by (with_reducible repeat (first | apply Kd.R_alloc | apply Kd.R_drewN | apply Kd.R_drew)); exact Kd.R_mono (Kd.R_far (p := ⟨gb214, 6, none⟩) (Kd.R_types HO220.out BK214.out (by decide)) (fun _ hk => hk.2) (.slice Ao26 y224.length co26)) (fun _ hk => hk.1.2)))⟩; have n3_ : Aside0 (Kd.R (Kd.int .i64) 3 w28 w.heap.size (fun k_ => some k_ ≠ (.slice Ao20 y218.length co20 : Value).ownBlock) (.slice Ao26 y224.length co26) y224) := ⟨(by rw [hw]; exact (by (with_reducible repeat (first | apply Kd.R_alloc | apply Kd.R_drewN | apply Kd.R_drew)); exact Kd.R_mono (Kd.R_far (p := ⟨gb214, 6, none⟩) (Kd.R_types HO226.out BK214.out (by decide)) (fun _ hk => hk.2) (.slice Ao26 y224.length co26)) (fun _ hk => hk.1)))⟩; have n4_ : Aside0 (w28.heap[gb210]? = some (.cells #[u211000, .int .u8 ((rd_T58 l0 x4_1).f1.f0), .int .i64 ((rd_T58 l0 x4_1).f1.f1), .int .i64 ((rd_T58 l0 x4_1).f1.f2), .int .i64 ((rd_T58 l0 x4_1).f1.f3)] 58 (0, 0))) := ⟨(by rw [hw]; exact (by (with_reducible repeat (first | refine blk_drewN ?_ _ | refine blk_drew ?_ | refine blk_alloc ?_ _)); refine blk_far ?_ NB210_214.out _; (with_reducible repeat (first | refine blk_drewN ?_ _ | refine blk_drew ?_ | refine blk_alloc ?_ _)); exact BK210.out))⟩; have n5_ : Aside0 (w28.heap[gb214]? = some (.cells #[.int .u8 ((rd_T24 ((rd_T58 l0 x4_1).f0) x6_2).f0), .int .i64 ((rd_T24 ((rd_T58 l0 x4_1).f0) x6_2).f1), .int .i64 ((rd_T24 ((rd_T58 l0 x4_1).f0) x6_2).f2), .int .i64 ((rd_T24 ((rd_T58 l0 x4_1).f0) x6_2).f3), .int .i64 ((rd_T24 ((rd_T58 l0 x4_1).f0) x6_2).f4), .slice Ao20 y218.length co20, .slice Ao26 y224.length co26] 24 (0, 0))) := ⟨(by rw [hw]; exact (by (with_reducible repeat (first | refine blk_drewN ?_ _ | refine blk_drew ?_ | refine blk_alloc ?_ _)); refine blk_put (cs := #[.int .u8 ((rd_T24 ((rd_T58 l0 x4_1).f0) x6_2).f0), .int .i64 ((rd_T24 ((rd_T58 l0 x4_1).f0) x6_2).f1), .int .i64 ((rd_T24 ((rd_T58 l0 x4_1).f0) x6_2).f2), .int .i64 ((rd_T24 ((rd_T58 l0 x4_1).f0) x6_2).f3), .int .i64 ((rd_T24 ((rd_T58 l0 x4_1).f0) x6_2).f4), .slice Ao20 y218.length co20, .slice A213_6 ((rd_T24 ((rd_T58 l0 x4_1).f0) x6_2).f6).length c213_6]) ?_ 6 _ rfl; (with_reducible repeat (first | refine blk_drewN ?_ _ | refine blk_drew ?_ | refine blk_alloc ?_ _)); exact BK214.out))⟩; have n6_ : Aside0 (Below w.heap.size w w28) := ⟨(by rw [hw]; exact (by repeat (first | (with_reducible first | exact HB.out | apply below_alloc | apply pw_below_drewN | apply below_drew1 | refine below_set ?_ GE210.out | refine below_set ?_ GE214.out) | exact HB.out)))⟩; clear hw; clear HO_3; clear HO_211000; clear HO220; clear HO226; clear BK210; clear BK214; clear HB; have HO_3 := n0_; have HO_211000 := n1_; have HO220 := n2_; have HO226 := n3_; have BK210 := n4_; have BK214 := n5_; have HB := n6_; clear n0_ n1_ n2_ n3_ n4_ n5_ n6_; have hcz29_0 : w28.cell? ⟨gb210, 0, none⟩ = some (u211000) := (blk_cell BK210.out 0).trans rfl; have hcz29_1 : w28.cell? ⟨gb210, 1, none⟩ = some (.int .u8 ((rd_T58 l0 x4_1).f1.f0)) := (blk_cell BK210.out 1).trans rfl; have hcz29_2 : w28.cell? ⟨gb210, 2, none⟩ = some (.int .i64 ((rd_T58 l0 x4_1).f1.f1)) := (blk_cell BK210.out 2).trans rfl; have hcz29_3 : w28.cell? ⟨gb210, 3, none⟩ = some (.int .i64 ((rd_T58 l0 x4_1).f1.f2)) := (blk_cell BK210.out 3).trans rfl; have hcz29_4 : w28.cell? ⟨gb210, 4, none⟩ = some (.int .i64 ((rd_T58 l0 x4_1).f1.f3)) := (blk_cell BK210.out 4).trans rfl; have hfz29_0 := blk_frozen BK210.out 0; have hfz29_1 := blk_frozen BK210.out 1; have hfz29_2 := blk_frozen BK210.out 2; have hfz29_3 := blk_frozen BK210.out 3; have hfz29_4 := blk_frozen BK210.out 4; have hcz30_0 : w28.cell? ⟨gb214, 0, none⟩ = some (.int .u8 ((rd_T24 ((rd_T58 l0 x4_1).f0) x6_2).f0)) := (blk_cell BK214.out 0).trans rfl; have hcz30_1 : w28.cell? ⟨gb214, 1, none⟩ = some (.int .i64 ((rd_T24 ((rd_T58 l0 x4_1).f0) x6_2).f1)) := (blk_cell BK214.out 1).trans rfl; have hcz30_2 : w28.cell? ⟨gb214, 2, none⟩ = some (.int .i64 ((rd_T24 ((rd_T58 l0 x4_1).f0) x6_2).f2)) := (blk_cell BK214.out 2).trans rfl; have hcz30_3 : w28.cell? ⟨gb214, 3, none⟩ = some (.int .i64 ((rd_T24 ((rd_T58 l0 x4_1).f0) x6_2).f3)) := (blk_cell BK214.out 3).trans rfl; have hcz30_4 : w28.cell? ⟨gb214, 4, none⟩ = some (.int .i64 ((rd_T24 ((rd_T58 l0 x4_1).f0) x6_2).f4)) := (blk_cell BK214.out 4).trans rfl; have hcz30_5 : w28.cell? ⟨gb214, 5, none⟩ = some (.slice Ao20 y218.length co20) := (blk_cell BK214.out 5).trans rfl; have hcz30_6 : w28.cell? ⟨gb214, 6, none⟩ = some (.slice Ao26 y224.length co26) := (blk_cell BK214.out 6).trans rfl; have hfz30_0 := blk_frozen BK214.out 0; have hfz30_1 := blk_frozen BK214.out 1; have hfz30_2 := blk_frozen BK214.out 2; have hfz30_3 := blk_frozen BK214.out 3; have hfz30_4 := blk_frozen BK214.out 4; have hfz30_5 := blk_frozen BK214.out 5; have hfz30_6 := blk_frozen BK214.out 6) | ((with_reducible refine gate_builtin (b := .append) (xs := #[.tmp 49, .tmp 51]) rfl ?_); at_builtin; refine Kd.S_append k24 (w0 := w) w.heap.size rfl (.tmp 49) (.tmp 51) 56 24 (.agg #[(.int .u8 0), (.int .i64 0), (.int .i64 0), (.int .i64 0), (.int .i64 0), (.slice none 0 0), (.slice none 0 0)]) 88 rfl Tryd.underlying56 info24 rfl (by decide) (by omega) u211000 x211000_2 (⟨(rd_T24 ((rd_T58 l0 x4_1).f0) x6_2).f0, (rd_T24 ((rd_T58 l0 x4_1).f0) x6_2).f1, (rd_T24 ((rd_T58 l0 x4_1).f0) x6_2).f2, (rd_T24 ((rd_T58 l0 x4_1).f0) x6_2).f3, (rd_T24 ((rd_T58 l0 x4_1).f0) x6_2).f4, y218, y224⟩ : S24) [.int .u8 ((rd_T24 ((rd_T58 l0 x4_1).f0) x6_2).f0), .int .i64 ((rd_T24 ((rd_T58 l0 x4_1).f0) x6_2).f1), .int .i64 ((rd_T24 ((rd_T58 l0 x4_1).f0) x6_2).f2), .int .i64 ((rd_T24 ((rd_T58 l0 x4_1).f0) x6_2).f3), .int .i64 ((rd_T24 ((rd_T58 l0 x4_1).f0) x6_2).f4), .slice Ao20 y218.length co20, .slice Ao26 y224.length co26] (fun k_ => k_ ≠ gb214) (fun k_ => some k_ = (.slice Ao20 y218.length co20 : Value).ownBlock ∨ some k_ = (.slice Ao26 y224.length co26 : Value).ownBlock) rfl rfl ?aP (fun k_ hk_ => hk_.elim (fun h_ => ((Kd.R_mono (ok' := fun k_ => ((fun k_ => k_ ≠ gb214)) k_ ∧ some k_ ≠ (u211000 : Value).ownBlock) (Kd.R_types (Kd.R_apart' (HO220.out) (Kd.S_typed HO_211000.out) (by decide)) BK214.out (by decide)) (fun k_ hk => ⟨hk.2, hk.1.2⟩))).1 k_ h_.symm) (fun h_ => ((Kd.R_mono (ok' := fun k_ => ((fun k_ => k_ ≠ gb214)) k_ ∧ some k_ ≠ (u211000 : Value).ownBlock) (Kd.R_types (Kd.R_apart' (HO226.out) (Kd.S_typed HO_211000.out) (by decide)) BK214.out (by decide)) (fun k_ hk => ⟨hk.2, hk.1.2⟩))).1 k_ h_.symm)) ?aF ?aO ?aB ?aS ?aL ?_; (case aP => exact k24_mkM _ _ _ (⟨(rd_T24 ((rd_T58 l0 x4_1).f0) x6_2).f0, (rd_T24 ((rd_T58 l0 x4_1).f0) x6_2).f1, (rd_T24 ((rd_T58 l0 x4_1).f0) x6_2).f2, (rd_T24 ((rd_T58 l0 x4_1).f0) x6_2).f3, (rd_T24 ((rd_T58 l0 x4_1).f0) x6_2).f4, y218, y224⟩ : S24) (Kd.R_mono (Kd.R_tight rfl (Kd.R_mono (ok' := fun k_ => ((fun k_ => k_ ≠ gb214)) k_ ∧ some k_ ≠ (u211000 : Value).ownBlock) (Kd.R_types (Kd.R_apart' (HO220.out) (Kd.S_typed HO_211000.out) (by decide)) BK214.out (by decide)) (fun k_ hk => ⟨hk.2, hk.1.2⟩))) (fun _ h_ => Or.inl h_)) (Kd.R_mono (Kd.R_tight rfl (Kd.R_mono (ok' := fun k_ => ((fun k_ => k_ ≠ gb214)) k_ ∧ some k_ ≠ (u211000 : Value).ownBlock) (Kd.R_types (Kd.R_apart' (HO226.out) (Kd.S_typed HO_211000.out) (by decide)) BK214.out (by decide)) (fun k_ hk => ⟨hk.2, hk.1.2⟩))) (fun _ h_ => Or.inr (h_)))); (case aB => exact (by repeat (first | (with_reducible first | exact HB.out | apply below_alloc | apply pw_below_drewN | apply below_drew1 | refine below_set ?_ GE210.out | refine below_set ?_ GE214.out) | exact HB.out))); (case aF => exact (fun k_ hk => Kd.freshB (g := gb214) (o := .cells #[.int .u8 ((rd_T24 ((rd_T58 l0 x4_1).f0) x6_2).f0), .int .i64 ((rd_T24 ((rd_T58 l0 x4_1).f0) x6_2).f1), .int .i64 ((rd_T24 ((rd_T58 l0 x4_1).f0) x6_2).f2), .int .i64 ((rd_T24 ((rd_T58 l0 x4_1).f0) x6_2).f3), .int .i64 ((rd_T24 ((rd_T58 l0 x4_1).f0) x6_2).f4), .slice Ao20 y218.length co20, .slice Ao26 y224.length co26] 24 (0, 0)) (by (with_reducible repeat (first | refine blk_drewN ?_ _ | refine blk_drew ?_ | refine blk_alloc ?_ _)); exact BK214.out) k_ hk)); (case aO => exact (by (with_reducible repeat (first | apply Kd.S_alloc | apply Kd.S_drewN | apply Kd.S_drew)); exact Kd.S_mono HO_211000.out (fun k_ hk => ⟨hk.2.2, fun e_ => e_.elim (fun h_ => hk.1 h_) (fun h_ => hk.2.1 h_)⟩))); (case aS => exact (below_size (by repeat (first | (with_reducible first | exact HB.out | apply below_alloc | apply pw_below_drewN | apply below_drew1 | refine below_set ?_ GE210.out | refine below_set ?_ GE214.out) | exact HB.out)))); (case aL => have := LMc12.out; omega); intro v228 w31 ho hb hg hat; rw [← Ny227.out] at ho; have n0_ := Aside0.mk (Kd.R_after (ok := (fun k_ => some k_ ≠ (.slice Ao20 y218.length co20 : Value).ownBlock ∧ some k_ ≠ (.slice Ao26 y224.length co26 : Value).ownBlock ∧ k_ ≠ gb210 ∧ k_ ≠ gb214)) (by (with_reducible repeat (first | apply Kd.R_alloc | apply Kd.R_drewN | apply Kd.R_drew)); exact Kd.R_mono HO_3.out (fun _ hk => ⟨⟨hk.2.1, ⟨hk.2.2.1, ⟨hk.2.2.2.1, hk.2.2.2.2⟩⟩⟩, hk.1⟩)) hg hat); have n1_ := Aside0.mk (blk_grown (g := gb210) (o := .cells #[u211000, .int .u8 ((rd_T58 l0 x4_1).f1.f0), .int .i64 ((rd_T58 l0 x4_1).f1.f1), .int .i64 ((rd_T58 l0 x4_1).f1.f2), .int .i64 ((rd_T58 l0 x4_1).f1.f3)] 58 (0, 0)) (by (with_reducible repeat (first | refine blk_drewN ?_ _ | refine blk_drew ?_ | refine blk_alloc ?_ _)); exact BK210.out) hg (Kd.S_ne HO_211000.out BK210.out (by decide))); have n2_ := Aside0.mk (blk_grown (g := gb214) (o := .cells #[.int .u8 ((rd_T24 ((rd_T58 l0 x4_1).f0) x6_2).f0), .int .i64 ((rd_T24 ((rd_T58 l0 x4_1).f0) x6_2).f1), .int .i64 ((rd_T24 ((rd_T58 l0 x4_1).f0) x6_2).f2), .int .i64 ((rd_T24 ((rd_T58 l0 x4_1).f0) x6_2).f3), .int .i64 ((rd_T24 ((rd_T58 l0 x4_1).f0) x6_2).f4), .slice Ao20 y218.length co20, .slice Ao26 y224.length co26] 24 (0, 0)) (by (with_reducible repeat (first | refine blk_drewN ?_ _ | refine blk_drew ?_ | refine blk_alloc ?_ _)); exact BK214.out) hg (Kd.S_away HO_211000.out (fun _ hk => hk.2.2))); have n3_ := Aside0.mk (hb); have n4_ := Aside0.mk (ho); clear HO_3; clear BK210; clear BK214; clear HB; clear HO_211000; clear HO220; clear HO226; have HO_3 := n0_; have BK210 := n1_; have BK214 := n2_; have HB := n3_; have HO229 := n4_; clear n0_ n1_ n2_ n3_ n4_; clear ho hb hg hat; obtain ⟨Ao32, co32, eo32⟩ := Kd.S_slice HO229.out; subst eo32; have hcz33_0 : w31.cell? ⟨gb210, 0, none⟩ = some (u211000) := (blk_cell BK210.out 0).trans rfl; have hcz33_1 : w31.cell? ⟨gb210, 1, none⟩ = some (.int .u8 ((rd_T58 l0 x4_1).f1.f0)) := (blk_cell BK210.out 1).trans rfl; have hcz33_2 : w31.cell? ⟨gb210, 2, none⟩ = some (.int .i64 ((rd_T58 l0 x4_1).f1.f1)) := (blk_cell BK210.out 2).trans rfl; have hcz33_3 : w31.cell? ⟨gb210, 3, none⟩ = some (.int .i64 ((rd_T58 l0 x4_1).f1.f2)) := (blk_cell BK210.out 3).trans rfl; have hcz33_4 : w31.cell? ⟨gb210, 4, none⟩ = some (.int .i64 ((rd_T58 l0 x4_1).f1.f3)) := (blk_cell BK210.out 4).trans rfl; have hfz33_0 := blk_frozen BK210.out 0; have hfz33_1 := blk_frozen BK210.out 1; have hfz33_2 := blk_frozen BK210.out 2; have hfz33_3 := blk_frozen BK210.out 3; have hfz33_4 := blk_frozen BK210.out 4))
                            go_roundg k2
                            case measure => have := HK1.out; have := HK2.out; omega
                            case rel => exact ⟨(wrap64 (x6_2 + 1)), (y227), (.slice Ao32 y227.length co32), (by first | rfl | (simp; done) | (simp [*]; done)), H', ⟨by have := HK1.out; have := HK2.out; omega⟩, ⟨by (with_reducible repeat (first | apply Kd.R_alloc | apply Kd.R_drewN | apply Kd.R_drew)); exact Kd.R_mono (Kd.R_far (p := ⟨gb210, 0, none⟩) (Kd.R_mono HO_3.out (fun k_ hk => (⟨hk, hk.1.2.2.1⟩ : _ ∧ k_ ≠ gb210))) (fun _ hk => hk.2) (.slice Ao32 y227.length co32)) (fun _ hk => ⟨hk.1.2, hk.1.1.2.2.1⟩)⟩, ⟨by (with_reducible repeat (first | apply Kd.S_alloc | apply Kd.S_drewN | apply Kd.S_drew)); exact Kd.S_mono (Kd.S_far (p := ⟨gb210, 0, none⟩) (Kd.S_types HO229.out BK210.out (by decide)) (fun _ hk => hk.2) (.slice Ao32 y227.length co32)) (fun _ hk => trivial)⟩, ⟨by (with_reducible repeat (first | refine blk_drewN ?_ _ | refine blk_drew ?_ | refine blk_alloc ?_ _)); refine blk_put (cs := #[u211000, .int .u8 ((rd_T58 l0 x4_1).f1.f0), .int .i64 ((rd_T58 l0 x4_1).f1.f1), .int .i64 ((rd_T58 l0 x4_1).f1.f2), .int .i64 ((rd_T58 l0 x4_1).f1.f3)]) ?_ 0 _ rfl; (with_reducible repeat (first | refine blk_drewN ?_ _ | refine blk_drew ?_ | refine blk_alloc ?_ _)); exact BK210.out⟩, ⟨by repeat (first | (with_reducible first | exact HB.out | apply below_alloc | apply pw_below_drewN | apply below_drew1 | refine below_set ?_ GE210.out | refine below_set ?_ GE214.out) | exact HB.out)⟩⟩
                          · rw [if_neg c12] at H
                            exact absurd H (by simp)
                        · rw [if_neg c11] at H
                          exact absurd H (by simp)
                      · rw [if_neg c10] at H
                        exact absurd H (by simp)
                    · rw [if_neg c9] at H
                      exact absurd H (by simp)
                  · rw [if_neg c8] at H
                    have c8b0 : decide (x6_2 < (((rd_T58 l0 x4_1).f0).length : Int)) = false := decide_eq_false c8
                    clear c8
                    by_cases c34 : x3_1.length < 2513169434916
                    · rw [if_pos c34] at H
                      have LMc34 := Aside0.mk c34
                      clear c34
                      obtain ⟨y230, hy230⟩ : ∃ y_ : List (S58), y_ = (x3_1 ++ [(⟨x211000_2, (⟨((rd_T58 l0 x4_1).f1.f0), ((rd_T58 l0 x4_1).f1.f1), ((rd_T58 l0 x4_1).f1.f2), ((rd_T58 l0 x4_1).f1.f3)⟩ : S26)⟩ : S58)]) := ⟨_, rfl⟩
                      replace H : (fescueref06_TwinBlocks.l0 k2 l0 y230 (wrap64 (x4_1 + 1))) = some r := by first | (rw [hy230]; with_reducible exact H) | (have H2_ := (Option.bind_some _ _).symm.trans H; rw [hy230]; with_reducible exact H2_) | (have H2_ := (Option.bind_some _ _).symm.trans H; with_reducible exact H2_) | with_reducible exact H | (rw [hy230]; exact H) | exact H
                      have Ny230 := Aside0.mk hy230
                      clear hy230
                      have H' := Aside0.mk H
                      clear H
                      have p211 : 0 ≤ (x4_1 : Int) := of_decide_eq_true (by first | (with_reducible assumption) | assumption)
                      have q211 : x4_1 < (l0.length : Int) := of_decide_eq_true (by first | (with_reducible assumption) | assumption)
                      obtain ⟨ad211, A211_0, c211_0, e211, hx211_0, hx211_1, hx211_2, hx211_3, hx211_4, hl211_0, hi211_0⟩ := at_T58 HR0.out x4_1 p211 q211
                      obtain rfl : ad209 = ad211 := (by injection e211)
                      replace hx211_0 := (HB.out.cell (World.block_lt_of_cell? w _ hx211_0)).trans hx211_0
                      replace hx211_1 := (HB.out.cell (World.block_lt_of_cell? w _ hx211_1)).trans hx211_1
                      replace hx211_2 := (HB.out.cell (World.block_lt_of_cell? w _ hx211_2)).trans hx211_2
                      replace hx211_3 := (HB.out.cell (World.block_lt_of_cell? w _ hx211_3)).trans hx211_3
                      replace hx211_4 := (HB.out.cell (World.block_lt_of_cell? w _ hx211_4)).trans hx211_4
                      have HR211_0 := Aside0.mk hi211_0
                      have HC211_0 := Aside0.mk hl211_0
                      clear hi211_0 hl211_0
                      replace p211 := eq_true p211
                      replace q211 := eq_true q211
                      have hcz35_0 : wr.cell? ⟨gb210, 0, none⟩ = some (u211000) := (blk_cell BK210.out 0).trans rfl
                      have hcz35_1 : wr.cell? ⟨gb210, 1, none⟩ = some (.int .u8 ((rd_T58 l0 x4_1).f1.f0)) := (blk_cell BK210.out 1).trans rfl
                      have hcz35_2 : wr.cell? ⟨gb210, 2, none⟩ = some (.int .i64 ((rd_T58 l0 x4_1).f1.f1)) := (blk_cell BK210.out 2).trans rfl
                      have hcz35_3 : wr.cell? ⟨gb210, 3, none⟩ = some (.int .i64 ((rd_T58 l0 x4_1).f1.f2)) := (blk_cell BK210.out 3).trans rfl
                      have hcz35_4 : wr.cell? ⟨gb210, 4, none⟩ = some (.int .i64 ((rd_T58 l0 x4_1).f1.f3)) := (blk_cell BK210.out 4).trans rfl
                      have hfz35_0 := blk_frozen BK210.out 0
                      have hfz35_1 := blk_frozen BK210.out 1
                      have hfz35_2 := blk_frozen BK210.out 2
                      have hfz35_3 := blk_frozen BK210.out 3
                      have hfz35_4 := blk_frozen BK210.out 4
                      obtain ⟨Ao37, co37, eo37⟩ := Kd.S_slice HO_211000.out
                      subst eo37
                      go_wp2_with (first | ((with_reducible refine gate_builtin (b := .append) (xs := #[.tmp 54, .tmp 56]) rfl ?_); at_builtin; refine Kd.R_append k58 (w0 := w) w.heap.size rfl (.tmp 54) (.tmp 56) 53 58 (.agg #[(.slice none 0 0), (.int .u8 0), (.int .i64 0), (.int .i64 0), (.int .i64 0)]) 56 rfl Tryd.underlying53 info58 rfl (by decide) (by omega) u3 x3_1 (⟨x211000_2, (⟨((rd_T58 l0 x4_1).f1.f0), ((rd_T58 l0 x4_1).f1.f1), ((rd_T58 l0 x4_1).f1.f2), ((rd_T58 l0 x4_1).f1.f3)⟩ : S26)⟩ : S58) [.slice Ao37 x211000_2.length co37, .int .u8 ((rd_T58 l0 x4_1).f1.f0), .int .i64 ((rd_T58 l0 x4_1).f1.f1), .int .i64 ((rd_T58 l0 x4_1).f1.f2), .int .i64 ((rd_T58 l0 x4_1).f1.f3)] (fun k_ => k_ ≠ gb210) (fun k_ => ((fun k_ => k_ ≠ gb210)) k_ ∧ some k_ ≠ (u3 : Value).ownBlock) rfl rfl ?aP (fun _ hk => hk) ?aF ?aO ?aB ?aS ?aL ?_; (case aP => exact k58_mkM _ _ _ (⟨x211000_2, (⟨((rd_T58 l0 x4_1).f1.f0), ((rd_T58 l0 x4_1).f1.f1), ((rd_T58 l0 x4_1).f1.f2), ((rd_T58 l0 x4_1).f1.f3)⟩ : S26)⟩ : S58) (Kd.R_mono (Kd.R_types (Kd.R_apart' ((Kd.S_R HO_211000.out)) (Kd.R_typed HO_3.out) (by decide)) BK210.out (by decide)) (fun k_ hk => ⟨hk.2, hk.1.2⟩))); (case aB => exact (by repeat (first | (with_reducible first | exact HB.out | apply below_alloc | apply pw_below_drewN | apply below_drew1 | refine below_set ?_ GE210.out) | exact HB.out))); (case aF => exact (fun k_ hk => Kd.freshB (g := gb210) (o := .cells #[.slice Ao37 x211000_2.length co37, .int .u8 ((rd_T58 l0 x4_1).f1.f0), .int .i64 ((rd_T58 l0 x4_1).f1.f1), .int .i64 ((rd_T58 l0 x4_1).f1.f2), .int .i64 ((rd_T58 l0 x4_1).f1.f3)] 58 (0, 0)) (by (with_reducible repeat (first | refine blk_drewN ?_ _ | refine blk_drew ?_ | refine blk_alloc ?_ _)); exact BK210.out) k_ hk)); (case aO => exact (by (with_reducible repeat (first | apply Kd.R_alloc | apply Kd.R_drewN | apply Kd.R_drew)); exact Kd.R_mono HO_3.out (fun _ hk => hk.2))); (case aS => exact (below_size (by repeat (first | (with_reducible first | exact HB.out | apply below_alloc | apply pw_below_drewN | apply below_drew1 | refine below_set ?_ GE210.out) | exact HB.out)))); (case aL => have := LMc34.out; omega); intro v231 w36 ho hb hg hat; rw [← Ny230.out] at ho; have n0_ := Aside0.mk (blk_grown (g := gb210) (o := .cells #[.slice Ao37 x211000_2.length co37, .int .u8 ((rd_T58 l0 x4_1).f1.f0), .int .i64 ((rd_T58 l0 x4_1).f1.f1), .int .i64 ((rd_T58 l0 x4_1).f1.f2), .int .i64 ((rd_T58 l0 x4_1).f1.f3)] 58 (0, 0)) (by (with_reducible repeat (first | refine blk_drewN ?_ _ | refine blk_drew ?_ | refine blk_alloc ?_ _)); exact BK210.out) hg (Kd.R_away HO_3.out (fun _ hk => hk.2))); have n1_ := Aside0.mk (hb); have n2_ := Aside0.mk (ho); clear BK210; clear HB; clear HO_3; clear HO_211000; have BK210 := n0_; have HB := n1_; have HO232 := n2_; clear n0_ n1_ n2_; clear ho hb hg hat))
                      go_roundg k2
                      case measure => have := HK1.out; have := HK2.out; omega
                      case rel => exact ⟨(y230), (wrap64 (x4_1 + 1)), (by first | rfl | (simp; done) | (simp [*]; done)), H', ⟨by have := HK1.out; have := HK2.out; omega⟩, ⟨by (with_reducible repeat (first | apply Kd.R_alloc | apply Kd.R_drewN | apply Kd.R_drew)); exact Kd.R_mono HO232.out (fun _ hk => trivial)⟩, ⟨by repeat (first | (with_reducible first | exact HB.out | apply below_alloc | apply pw_below_drewN | apply below_drew1 | refine below_set ?_ GE210.out) | exact HB.out)⟩⟩
                    · rw [if_neg c34] at H
                      exact absurd H (by simp)
                · rw [if_neg c7] at H
                  exact absurd H (by simp)
              · rw [if_neg c6] at H
                exact absurd H (by simp)
        · rw [if_neg c3] at H
          exact absurd H (by simp)
      · rw [if_neg c2] at H
        have c2b0 : decide (x4_1 < (l0.length : Int)) = false := decide_eq_false c2
        clear c2
        obtain rfl := Option.some.inj H
        go_wp2
        go_ret
        exact ⟨_, by first | rfl | (simp [errW_none, errW_some] <;> rfl) | (simp [*, errW_none, errW_some] <;> rfl), by (with_reducible repeat (first | apply Kd.R_alloc | apply Kd.R_drewN | apply Kd.R_drew)); exact HO_3.out, by repeat (first | (with_reducible first | exact HB.out | apply below_alloc | apply pw_below_drewN | apply below_drew1) | exact HB.out)⟩

/-! ### fescueref06_Twin: function 16 -/
def fescueref06_Twin.l0 : Nat → Int → List (S78) → List (S55) → List (S78) → List (S55) → Option ((List (S78)) × (List (S55)))
  | 0, _, _, _, _, _ => none
  | k + 1, x4, x234000, x234001, x239000, x239001 => if x4 < (x234001.length : Int) then (if 0 ≤ x4 then ((fescueref06_TwinBlocks.f k ((rd_T55 x234001 x4).f1)).bind fun t241 => (if x239001.length < 4398046511104 then (fescueref06_Twin.l0 k (wrap64 (x4 + 1)) x234000 x234001 x239000 (x239001 ++ [(⟨(rd_T55 x234001 x4).f0, t241⟩ : S55)])) else (none))) else (none)) else (some (x239000, x239001))
def fescueref06_Twin.f (k : Nat) (l0_0 : List (S78)) (l0_1 : List (S55)) : Option ((List (S78)) × (List (S55))) := (fescueref03_Twin.f k l0_0).bind fun t235 => (fescueref06_Twin.l0 k 0 l0_0 l0_1 t235 ([] : List (S55)))
theorem fescueref06_Twin.mono_l : ∀ k, (∀ y0 y1 y2 y3 y4, LeO (fescueref06_Twin.l0 k y0 y1 y2 y3 y4) (fescueref06_Twin.l0 (k + 1) y0 y1 y2 y3 y4))
  | 0 => fun _ _ _ _ _ r h => by simp [fescueref06_Twin.l0] at h
  | k + 1 => by
    have ih0 := fescueref06_Twin.mono_l k
    · intro y0 y1 y2 y3 y4
      unfold fescueref06_Twin.l0
      repeat' first
      | (with_reducible exact ih0 _ _ _ _ _)
      | (with_reducible exact fescueref03_Twin.mono _ _)
      | (with_reducible exact fescueref06_TwinBlocks.mono _ _)
      | (with_reducible exact LeO.refl _)
      | (with_reducible exact LeO.none _)
      | (with_reducible refine LeO.ite ?_ ?_)
      | (with_reducible refine LeO.bind ?_ (fun _ => ?_))
      | exact ih0 _ _ _ _ _
      | exact fescueref03_Twin.mono _ _
      | exact fescueref06_TwinBlocks.mono _ _
      | exact LeO.none _
      | refine LeO.ite ?_ ?_
      | refine LeO.bind ?_ (fun _ => ?_)
theorem fescueref06_Twin.mono : ∀ a0 a1 k, LeO (fescueref06_Twin.f k a0 a1) (fescueref06_Twin.f (k + 1) a0 a1) := by
  intro a0 a1 k
  have ih0 := fescueref06_Twin.mono_l k
  unfold fescueref06_Twin.f
  repeat' first
      | (with_reducible exact ih0 _ _ _ _ _)
      | (with_reducible exact fescueref03_Twin.mono _ _)
      | (with_reducible exact fescueref06_TwinBlocks.mono _ _)
      | (with_reducible exact LeO.refl _)
      | (with_reducible exact LeO.none _)
      | (with_reducible refine LeO.ite ?_ ?_)
      | (with_reducible refine LeO.bind ?_ (fun _ => ?_))
      | exact ih0 _ _ _ _ _
      | exact fescueref03_Twin.mono _ _
      | exact fescueref06_TwinBlocks.mono _ _
      | exact LeO.none _
      | refine LeO.ite ?_ ?_
      | refine LeO.bind ?_ (fun _ => ?_)
def fescueref06_Twin.T5 : Bool × List (List Nat × List Nat) := (true, [([], []), ([0], [0]), ([], []), ([2], [2]), ([], []), ([3, 4], [3, 4]), ([5], [5]), ([6], [6]), ([], []), ([8], [8]), ([], []), ([9, 10], [9, 10]), ([11], [11]), ([12], [12]), ([13], [13]), ([7, 14], [7, 14]), ([15], [15]), ([1, 16, 14], [1, 16]), ([0, 1, 2, 3, 4, 5, 6, 7, 8, 9, 10, 11, 12, 13, 14, 15, 16, 17], []), ([18, 17, 17, 0, 1, 2, 3, 4, 5, 6, 7, 8, 9, 10, 11, 12, 13, 14, 15, 16, 17], [17, 18])])
def fescueref06_Twin.B5 : List Nat := [0, 1, 0, 4, 0, 28, 60, 124, 0, 256, 0, 1792, 3840, 7936, 16128, 32764, 65532, 131071, 262143, 524287]
theorem fescueref06_Twin.tab5 : rtab .any (opsOf Tryd.f16 5) = fescueref06_Twin.T5 := by kernel_rfl
theorem fescueref06_Twin.bits5 : waitsOk fescueref06_Twin.T5.2 fescueref06_Twin.B5 = true := by kernel_rfl
set_option maxHeartbeats 8000000 in
set_option maxRecDepth 100000 in
theorem fescueref06_Twin.calls (k : Nat) (A0_0 : Option Addr) (c0_0 : Nat) (l0_0 : List (S78)) (A0_1 : Option Addr) (c0_1 : Nat) (l0_1 : List (S55)) (r1 : List (S78)) (r2 : List (S55)) (w : World) (hr0_0 : Kd.C k78 w A0_0 l0_0.length l0_0) (hc0_0 : l0_0.length ≤ c0_0) (hr0_1 : Kd.C k55 w A0_1 l0_1.length l0_1) (hc0_1 : l0_1.length ≤ c0_1) (h : fescueref06_Twin.f k l0_0 l0_1 = some (r1, r2)) :
    Calls Tryd.prog 16 #[.agg #[.slice A0_0 l0_0.length c0_0, .slice A0_1 l0_1.length c0_1]] w fun e w' => ∃ v0_ v1_ : Value, e = .returned (.agg #[v0_, v1_]) ∧ Kd.S k78 78 w' w.heap.size (fun _ => True) v0_ r1 ∧ Kd.R k55 55 w' w.heap.size (fun _ => True) v1_ r2 ∧ Below w.heap.size w w' := by
  have hu35 := Tryd.underlying35
  have hu55 := Tryd.underlying55
  have HR0_0 := Aside0.mk hr0_0
  have HC0_0 := Aside0.mk hc0_0
  clear hr0_0 hc0_0
  have HR0_1 := Aside0.mk hr0_1
  have HC0_1 := Aside0.mk hc0_1
  clear hr0_1 hc0_1
  have HB := Aside0.mk (Below.refl w.heap.size w)
  have H : ((fescueref03_Twin.f k l0_0).bind fun t235 => (fescueref06_Twin.l0 k 0 l0_0 l0_1 t235 ([] : List (S55)))) = some (r1, r2) := h
  clear h
  replace H := Option.bind_eq_some_iff.mp H
  obtain ⟨t235, A20, H⟩ := H
  replace H : (fescueref06_Twin.l0 k 0 l0_0 l0_1 t235 ([] : List (S55))) = some (r1, r2) := H
  have A2 := Aside0.mk A20
  clear A20
  have H' := Aside0.mk H
  clear H
  go_enter Tryd.func16, Tryd.ntmps16
  go_wp2_with (first | ((with_reducible refine gate_dst (N := 1) rfl ?_); refine box_event ?hg (N := 1) ?hd (cs := #[.slice A0_0 l0_0.length c0_0, .slice A0_1 l0_1.length c0_1]) (t := 35) ?hr ?_; (case hd => rfl); (case hg => rfl); (case hr => first | (go_simp; done) | (go_simp; rfl)); intro gb233 hg w3 hbox hb; have n0_ := Aside0.mk (below_step (by repeat (first | (with_reducible first | exact HB.out | apply below_alloc | apply pw_below_drewN | apply below_drew1) | exact HB.out)) hb); have n1_ := Aside0.mk (hbox); have n2_ := Aside0.mk ((by rw [hg]; exact (below_size (by repeat (first | (with_reducible first | exact HB.out | apply below_alloc | apply pw_below_drewN | apply below_drew1) | exact HB.out))) : w.heap.size ≤ gb233)); have n3_ := Aside0.mk ((by rw [hg]; exact (below_size (by repeat (first | (with_reducible first | exact HB.out | apply below_alloc | apply pw_below_drewN | apply below_drew1) | exact HB.out))) : w.heap.size ≤ gb233)); clear HB; have HB := n0_; have BK233 := n1_; have GW233 := n2_; have GE233 := n3_; clear n0_ n1_ n2_ n3_; clear hb hbox hg) | ((with_reducible refine gate_dst (N := 2) rfl ?_); refine box_event ?hg (N := 2) ?hd (cs := #[.slice none 0 0, .slice none 0 0]) (t := 35) ?hr ?_; (case hd => rfl); (case hg => rfl); (case hr => first | (go_simp; done) | (go_simp; rfl)); intro gb234 hg w4 hbox hb; have n0_ := Aside0.mk (blk_below (g := gb233) (o := .cells #[.slice A0_0 l0_0.length c0_0, .slice A0_1 l0_1.length c0_1] 35 (0, 0)) (by (with_reducible repeat (first | refine blk_drewN ?_ _ | refine blk_drew ?_ | refine blk_alloc ?_ _)); exact BK233.out) hb); have n1_ := Aside0.mk (below_step (by repeat (first | (with_reducible first | exact HB.out | apply below_alloc | apply pw_below_drewN | apply below_drew1 | refine below_set ?_ GE233.out) | exact HB.out)) hb); have n2_ := Aside0.mk (hbox); have n3_ := Aside0.mk ((by rw [hg]; exact (below_size (by repeat (first | (with_reducible first | exact HB.out | apply below_alloc | apply pw_below_drewN | apply below_drew1 | refine below_set ?_ GE233.out) | exact HB.out))) : w.heap.size ≤ gb234)); have n4_ := Aside0.mk ((by rw [hg]; exact (below_size (by repeat (first | (with_reducible first | exact HB.out | apply below_alloc | apply pw_below_drewN | apply below_drew1 | refine below_set ?_ GE233.out) | exact HB.out))) : w.heap.size ≤ gb234)); have n5_ := Aside0.mk ((by rw [hg]; exact Nat.ne_of_lt (blk_lt (g := gb233) (o := .cells #[.slice A0_0 l0_0.length c0_0, .slice A0_1 l0_1.length c0_1] 35 (0, 0)) (by (with_reducible repeat (first | refine blk_drewN ?_ _ | refine blk_drew ?_ | refine blk_alloc ?_ _)); exact BK233.out)) : gb233 ≠ gb234)); have n6_ := Aside0.mk ((by rw [hg]; exact Nat.ne_of_gt (blk_lt (g := gb233) (o := .cells #[.slice A0_0 l0_0.length c0_0, .slice A0_1 l0_1.length c0_1] 35 (0, 0)) (by (with_reducible repeat (first | refine blk_drewN ?_ _ | refine blk_drew ?_ | refine blk_alloc ?_ _)); exact BK233.out)) : gb234 ≠ gb233)); clear BK233; clear HB; have BK233 := n0_; have HB := n1_; have BK234 := n2_; have GW234 := n3_; have GE234 := n4_; have NB233_234 := n5_; have NB234_233 := n6_; clear n0_ n1_ n2_ n3_ n4_ n5_ n6_; clear hb hbox hg; have hnb5 := NB233_234.out; have hnc5 := NB234_233.out; have hcz6_0 : w4.cell? ⟨gb233, 0, none⟩ = some (.slice A0_0 l0_0.length c0_0) := (blk_cell BK233.out 0).trans rfl; have hcz6_1 : w4.cell? ⟨gb233, 1, none⟩ = some (.slice A0_1 l0_1.length c0_1) := (blk_cell BK233.out 1).trans rfl; have hfz6_0 := blk_frozen BK233.out 0; have hfz6_1 := blk_frozen BK233.out 1) | ((with_reducible refine gate_callee (f := 37) rfl ?_); refine goesL_ (some 7) rfl rfl Tryd.func37 (by kernel_rfl) rfl #[.slice A0_0 l0_0.length c0_0] rfl (by (try simp only [List.map_toArray, List.map_cons, List.map_nil]); first | done | rfl | (simp only [List.length_drop, List.length_take]; rfl)) ?_; (with_reducible refine (fescueref03_Twin.calls k _ _ l0_0 t235 _ ?side1 ?side2 A2.out).mono ?_); (case side1 => repeat (first | exact (Kd.C_below HR0_0.out HB.out) | (with_reducible refine Kd.C_alloc ?_ _) | (with_reducible refine Kd.C_drewN ?_ _) | (with_reducible refine Kd.C_drew ?_))); (case side2 => exact HC0_0.out); rintro e w7 ⟨v236, rfl, ho0, hb⟩; refine ⟨_, rfl, ?_⟩; have n0_ := Aside0.mk (Kd.S_lower ho0 (below_size (by repeat (first | (with_reducible first | exact HB.out | apply below_alloc | apply pw_below_drewN | apply below_drew1 | refine below_set ?_ GE233.out | refine below_set ?_ GE234.out) | exact HB.out)))); have n1_ := Aside0.mk (blk_below (g := gb233) (o := .cells #[.slice A0_0 l0_0.length c0_0, .slice A0_1 l0_1.length c0_1] 35 (0, 0)) (by (with_reducible repeat (first | refine blk_drewN ?_ _ | refine blk_drew ?_ | refine blk_alloc ?_ _)); exact BK233.out) hb); have n2_ := Aside0.mk (blk_below (g := gb234) (o := .cells #[.slice none 0 0, .slice none 0 0] 35 (0, 0)) (by (with_reducible repeat (first | refine blk_drewN ?_ _ | refine blk_drew ?_ | refine blk_alloc ?_ _)); exact BK234.out) hb); have n3_ := Aside0.mk (below_step (by repeat (first | (with_reducible first | exact HB.out | apply below_alloc | apply pw_below_drewN | apply below_drew1 | refine below_set ?_ GE233.out | refine below_set ?_ GE234.out) | exact HB.out)) hb); clear BK233; clear BK234; clear HB; have HO237 := n0_; have BK233 := n1_; have BK234 := n2_; have HB := n3_; clear n0_ n1_ n2_ n3_; (try clear hb); (try clear hb2); (try clear hk); (try clear hi); (try clear ho0); obtain ⟨Ao8, co8, eo8⟩ := Kd.S_slice HO237.out; subst eo8) | ((with_reducible refine gate_dst (N := 3) rfl ?_); refine box_event ?hg (N := 3) ?hd (cs := #[.slice none 0 0, .slice none 0 0]) (t := 35) ?hr ?_; (case hd => rfl); (case hg => rfl); (case hr => first | (go_simp; done) | (go_simp; rfl)); intro gb238 hg w9 hbox hb; have n0_ := Aside0.mk (Kd.S_below (by (with_reducible repeat (first | apply Kd.S_alloc | apply Kd.S_drewN | apply Kd.S_drew)); exact HO237.out) hb); have n1_ := Aside0.mk (blk_below (g := gb233) (o := .cells #[.slice A0_0 l0_0.length c0_0, .slice A0_1 l0_1.length c0_1] 35 (0, 0)) (by (with_reducible repeat (first | refine blk_drewN ?_ _ | refine blk_drew ?_ | refine blk_alloc ?_ _)); exact BK233.out) hb); have n2_ := Aside0.mk (blk_below (g := gb234) (o := .cells #[.slice none 0 0, .slice none 0 0] 35 (0, 0)) (by (with_reducible repeat (first | refine blk_drewN ?_ _ | refine blk_drew ?_ | refine blk_alloc ?_ _)); exact BK234.out) hb); have n3_ := Aside0.mk (below_step (by repeat (first | (with_reducible first | exact HB.out | apply below_alloc | apply pw_below_drewN | apply below_drew1 | refine below_set ?_ GE233.out | refine below_set ?_ GE234.out) | exact HB.out)) hb); have n4_ := Aside0.mk (hbox); have n5_ := Aside0.mk ((by rw [hg]; exact (below_size (by repeat (first | (with_reducible first | exact HB.out | apply below_alloc | apply pw_below_drewN | apply below_drew1 | refine below_set ?_ GE233.out | refine below_set ?_ GE234.out) | exact HB.out))) : w.heap.size ≤ gb238)); have n6_ := Aside0.mk ((by rw [hg]; exact (below_size (by repeat (first | (with_reducible first | exact HB.out | apply below_alloc | apply pw_below_drewN | apply below_drew1 | refine below_set ?_ GE233.out | refine below_set ?_ GE234.out) | exact HB.out))) : w.heap.size ≤ gb238)); have n7_ := Aside0.mk ((by rw [hg]; exact Nat.ne_of_lt (blk_lt (g := gb233) (o := .cells #[.slice A0_0 l0_0.length c0_0, .slice A0_1 l0_1.length c0_1] 35 (0, 0)) (by (with_reducible repeat (first | refine blk_drewN ?_ _ | refine blk_drew ?_ | refine blk_alloc ?_ _)); exact BK233.out)) : gb233 ≠ gb238)); have n8_ := Aside0.mk ((by rw [hg]; exact Nat.ne_of_gt (blk_lt (g := gb233) (o := .cells #[.slice A0_0 l0_0.length c0_0, .slice A0_1 l0_1.length c0_1] 35 (0, 0)) (by (with_reducible repeat (first | refine blk_drewN ?_ _ | refine blk_drew ?_ | refine blk_alloc ?_ _)); exact BK233.out)) : gb238 ≠ gb233)); have n9_ := Aside0.mk ((by rw [hg]; exact Nat.ne_of_lt (blk_lt (g := gb234) (o := .cells #[.slice none 0 0, .slice none 0 0] 35 (0, 0)) (by (with_reducible repeat (first | refine blk_drewN ?_ _ | refine blk_drew ?_ | refine blk_alloc ?_ _)); exact BK234.out)) : gb234 ≠ gb238)); have n10_ := Aside0.mk ((by rw [hg]; exact Nat.ne_of_gt (blk_lt (g := gb234) (o := .cells #[.slice none 0 0, .slice none 0 0] 35 (0, 0)) (by (with_reducible repeat (first | refine blk_drewN ?_ _ | refine blk_drew ?_ | refine blk_alloc ?_ _)); exact BK234.out)) : gb238 ≠ gb234)); clear HO237; clear BK233; clear BK234; clear HB; have HO237 := n0_; have BK233 := n1_; have BK234 := n2_; have HB := n3_; have BK238 := n4_; have GW238 := n5_; have GE238 := n6_; have NB233_238 := n7_; have NB238_233 := n8_; have NB234_238 := n9_; have NB238_234 := n10_; clear n0_ n1_ n2_ n3_ n4_ n5_ n6_ n7_ n8_ n9_ n10_; clear hb hbox hg; have hnb10 := NB238_233.out; have hnc10 := NB233_238.out; have hnb11 := NB238_234.out; have hnc11 := NB234_238.out; have hcz12_0 : w9.cell? ⟨gb238, 0, none⟩ = some (.slice none 0 0) := (blk_cell BK238.out 0).trans rfl; have hcz12_1 : w9.cell? ⟨gb238, 1, none⟩ = some (.slice none 0 0) := (blk_cell BK238.out 1).trans rfl; have hfz12_0 := blk_frozen BK238.out 0; have hfz12_1 := blk_frozen BK238.out 1))
  go_loopg [4] k (fun kq v4 w' => ∃ (x4_1 : Int) (x239001_1 : List (S55)) (u239001 : Value), v4 = .int .i64 x4_1 ∧ Aside0 (fescueref06_Twin.l0 kq x4_1 l0_0 l0_1 t235 x239001_1 = some (r1, r2)) ∧ Aside0 (kq ≤ k) ∧ Aside0 (Kd.S k78 78 w' w.heap.size (fun _ => True) (.slice Ao8 t235.length co8) t235) ∧ Aside0 (Kd.R k55 55 w' w.heap.size (fun _ => True) u239001 x239001_1) ∧ Aside0 (w'.heap[gb233]? = some (.cells #[(.slice A0_0 l0_0.length c0_0), (.slice A0_1 l0_1.length c0_1)] 35 (0, 0))) ∧ Aside0 (w'.heap[gb234]? = some (.cells #[(.slice none 0 0), (.slice none 0 0)] 35 (0, 0))) ∧ Aside0 (w'.heap[gb238]? = some (.cells #[(.slice Ao8 t235.length co8), u239001] 35 (0, 0))) ∧ Aside0 (Below w.heap.size w w'))
  case atStart => exact ⟨(0), (([] : List (S55))), (.slice none 0 0), (by first | rfl | (simp; done) | (simp [*]; done)), H', ⟨Nat.le_refl _⟩, ⟨by (with_reducible repeat (first | apply Kd.S_alloc | apply Kd.S_drewN | apply Kd.S_drew)); exact Kd.S_mono (Kd.S_far (p := ⟨gb238, 1, none⟩) (Kd.S_far (p := ⟨gb238, 0, none⟩) (Kd.S_types HO237.out BK238.out (by decide)) (fun _ hk => hk.2) (.slice Ao8 t235.length co8)) (fun _ hk => hk.2) (.slice none 0 0)) (fun _ hk => trivial)⟩, ⟨by first | exact Kd.R_nil _ _ _ _ _ | exact Kd.N_nil _ _ _ _ _ | exact Kd.V_nil _ _ _ _ _ | exact Kd.Q_nil _ _ _ _ _ | exact Kd.S_nil _ _ _ _ _⟩, ⟨by (with_reducible repeat (first | refine blk_drewN ?_ _ | refine blk_drew ?_ | refine blk_alloc ?_ _)); refine blk_far ?_ NB233_238.out _; (with_reducible repeat (first | refine blk_drewN ?_ _ | refine blk_drew ?_ | refine blk_alloc ?_ _)); refine blk_far ?_ NB233_238.out _; (with_reducible repeat (first | refine blk_drewN ?_ _ | refine blk_drew ?_ | refine blk_alloc ?_ _)); exact BK233.out⟩, ⟨by (with_reducible repeat (first | refine blk_drewN ?_ _ | refine blk_drew ?_ | refine blk_alloc ?_ _)); refine blk_far ?_ NB234_238.out _; (with_reducible repeat (first | refine blk_drewN ?_ _ | refine blk_drew ?_ | refine blk_alloc ?_ _)); refine blk_far ?_ NB234_238.out _; (with_reducible repeat (first | refine blk_drewN ?_ _ | refine blk_drew ?_ | refine blk_alloc ?_ _)); exact BK234.out⟩, ⟨by (with_reducible repeat (first | refine blk_drewN ?_ _ | refine blk_drew ?_ | refine blk_alloc ?_ _)); refine blk_put (cs := #[.slice Ao8 t235.length co8, .slice none 0 0]) ?_ 1 _ rfl; (with_reducible repeat (first | refine blk_drewN ?_ _ | refine blk_drew ?_ | refine blk_alloc ?_ _)); refine blk_put (cs := #[.slice none 0 0, .slice none 0 0]) ?_ 0 _ rfl; (with_reducible repeat (first | refine blk_drewN ?_ _ | refine blk_drew ?_ | refine blk_alloc ?_ _)); exact BK238.out⟩, ⟨by repeat (first | (with_reducible first | exact HB.out | apply below_alloc | apply pw_below_drewN | apply below_drew1 | refine below_set ?_ GE233.out | refine below_set ?_ GE234.out | refine below_set ?_ GE238.out) | exact HB.out)⟩⟩
  case round =>
    clear H'
    try clear c1
    try clear p2
    try clear c3
    try clear c5
    try clear c10
    try clear c11
    try clear hcz12_0
    try clear hcz12_1
    try clear hcz6_0
    try clear hcz6_1
    try clear hfz12_0
    try clear hfz12_1
    try clear hfz6_0
    try clear hfz6_1
    obtain ⟨x4_1, x239001_1, u239001, rfl, HA, HK1, HO_239000, HO_239001, BK233, BK234, BK238, HB⟩ := hrel
    cases gk with
    | zero => exact absurd HA.out (by simp [fescueref06_Twin.l0])
    | succ k1 =>
      have H := HA.out
      clear HA
      simp only [fescueref06_Twin.l0] at H
      by_cases c13 : x4_1 < (l0_1.length : Int)
      · rw [if_pos c13] at H
        have c13b0 : decide (x4_1 < (l0_1.length : Int)) = true := decide_eq_true c13
        clear c13
        by_cases c14 : 0 ≤ x4_1
        · rw [if_pos c14] at H
          have c14b0 : decide (0 ≤ x4_1) = true := decide_eq_true c14
          clear c14
          replace H := Option.bind_eq_some_iff.mp H
          obtain ⟨t241, A150, H⟩ := H
          replace H : (if x239001_1.length < 4398046511104 then (fescueref06_Twin.l0 k1 (wrap64 (x4_1 + 1)) l0_0 l0_1 t235 (x239001_1 ++ [(⟨(rd_T55 l0_1 x4_1).f0, t241⟩ : S55)])) else (none)) = some (r1, r2) := H
          have A15 := Aside0.mk A150
          clear A150
          by_cases c16 : x239001_1.length < 4398046511104
          · rw [if_pos c16] at H
            have LMc16 := Aside0.mk c16
            clear c16
            obtain ⟨y244, hy244⟩ : ∃ y_ : List (S55), y_ = (x239001_1 ++ [(⟨(rd_T55 l0_1 x4_1).f0, t241⟩ : S55)]) := ⟨_, rfl⟩
            replace H : (fescueref06_Twin.l0 k1 (wrap64 (x4_1 + 1)) l0_0 l0_1 t235 y244) = some (r1, r2) := by first | (rw [hy244]; with_reducible exact H) | (have H2_ := (Option.bind_some _ _).symm.trans H; rw [hy244]; with_reducible exact H2_) | (have H2_ := (Option.bind_some _ _).symm.trans H; with_reducible exact H2_) | with_reducible exact H | (rw [hy244]; exact H) | exact H
            have Ny244 := Aside0.mk hy244
            clear hy244
            have H' := Aside0.mk H
            clear H
            have hnb17 := NB233_234.out
            have hnc17 := NB234_233.out
            have hnb18 := NB233_238.out
            have hnc18 := NB238_233.out
            have hcz19_0 : wr.cell? ⟨gb233, 0, none⟩ = some (.slice A0_0 l0_0.length c0_0) := (blk_cell BK233.out 0).trans rfl
            have hcz19_1 : wr.cell? ⟨gb233, 1, none⟩ = some (.slice A0_1 l0_1.length c0_1) := (blk_cell BK233.out 1).trans rfl
            have hfz19_0 := blk_frozen BK233.out 0
            have hfz19_1 := blk_frozen BK233.out 1
            try go_wp2
            have n0_ := Aside0.mk (Kd.S_drew HO_239000.out)
            have n1_ := Aside0.mk (Kd.R_drew HO_239001.out)
            have n2_ := Aside0.mk (blk_drew BK233.out)
            have n3_ := Aside0.mk (blk_drew BK234.out)
            have n4_ := Aside0.mk (blk_drew BK238.out)
            have n5_ := Aside0.mk (below_drew1 HB.out)
            clear HO_239000
            clear HO_239001
            clear BK233
            clear BK234
            clear BK238
            clear HB
            have HO_239000 := n0_
            have HO_239001 := n1_
            have BK233 := n2_
            have BK234 := n3_
            have BK238 := n4_
            have HB := n5_
            clear n0_ n1_ n2_ n3_ n4_ n5_
            have p239 : 0 ≤ (x4_1 : Int) := of_decide_eq_true (by first | (with_reducible assumption) | assumption)
            have q239 : x4_1 < (l0_1.length : Int) := of_decide_eq_true (by first | (with_reducible assumption) | assumption)
            obtain ⟨ad239, A239_1, c239_1, e239, hx239_0, hx239_1, hl239_1, hi239_1⟩ := at_T55 HR0_1.out x4_1 p239 q239
            have hw239_1 := hx239_1
            have hw239_0 := hx239_0
            cases e239
            replace hx239_0 := (HB.out.cell (World.block_lt_of_cell? w _ hx239_0)).trans hx239_0
            replace hx239_1 := (HB.out.cell (World.block_lt_of_cell? w _ hx239_1)).trans hx239_1
            have HR239_1 := Aside0.mk hi239_1
            have HC239_1 := Aside0.mk hl239_1
            clear hi239_1 hl239_1
            replace p239 := eq_true p239
            replace q239 := eq_true q239
            have p240 : 0 ≤ (x4_1 : Int) := of_decide_eq_true (by first | (with_reducible assumption) | assumption)
            have q240 : x4_1 < (l0_1.length : Int) := of_decide_eq_true (by first | (with_reducible assumption) | assumption)
            obtain ⟨ad240, A240_1, c240_1, e240, hx240_0, hx240_1, hl240_1, hi240_1⟩ := at_T55 HR0_1.out x4_1 p240 q240
            have hw240_1 := hx240_1
            have hw240_0 := hx240_0
            obtain rfl : ad239 = ad240 := (by injection e240)
            replace hx240_0 := (HB.out.cell (World.block_lt_of_cell? w _ hx240_0)).trans hx240_0
            replace hx240_1 := (HB.out.cell (World.block_lt_of_cell? w _ hx240_1)).trans hx240_1
            have HR240_1 := Aside0.mk hi240_1
            have HC240_1 := Aside0.mk hl240_1
            clear hi240_1 hl240_1
            replace p240 := eq_true p240
            replace q240 := eq_true q240
            have ea_ := Option.some.inj (hx239_1.symm.trans hx240_1)
            injection ea_ with ea_ en_ ec_
            subst ea_
            subst ec_
            clear en_
            refine start_ (n := 20) (S := fun w' => w'.cell? ⟨gb238, 0, none⟩ = some (.slice Ao8 t235.length co8) ∧ w'.cell? ⟨gb238, 1, none⟩ = some (u239001) ∧ w'.cell? ⟨gb233, 0, none⟩ = some (.slice A0_0 l0_0.length c0_0) ∧ w'.cell? ⟨gb233, 1, none⟩ = some (.slice (some ad239) l0_1.length c0_1) ∧ w'.cell? (ad239.add ((x4_1).toNat * 2)) = some (.int .i64 ((rd_T55 l0_1 x4_1).f0)) ∧ w'.cell? ⟨(ad239.add ((x4_1).toNat * 2)).block, (ad239.add ((x4_1).toNat * 2)).off + 1, none⟩ = some (.slice A239_1 ((rd_T55 l0_1 x4_1).f1).length c239_1) ∧ w'.cell? (ad239.add ((x4_1).toNat * 2)) = some (.int .i64 ((rd_T55 l0_1 x4_1).f0)) ∧ w'.cell? ⟨(ad239.add ((x4_1).toNat * 2)).block, (ad239.add ((x4_1).toNat * 2)).off + 1, none⟩ = some (.slice A239_1 ((rd_T55 l0_1 x4_1).f1).length c239_1)) (ds := [19]) #[false, false, false, false, false, false, false, false, false, false, false, false, false, false, false, false, false, false, false, false] (by kernel_rfl) rfl rfl ⟨(blk_cell BK238.out 0).trans rfl, (blk_cell BK238.out 1).trans rfl, (blk_cell BK233.out 0).trans rfl, (blk_cell BK233.out 1).trans rfl, ((HB.out.cell (World.block_lt_of_cell? w _ hw239_0)).trans hw239_0), ((HB.out.cell (World.block_lt_of_cell? w _ hw239_1)).trans hw239_1), ((HB.out.cell (World.block_lt_of_cell? w _ hw240_0)).trans hw240_0), ((HB.out.cell (World.block_lt_of_cell? w _ hw240_1)).trans hw240_1)⟩ (fun hHeld => ?_); refine with_tabW fescueref06_Twin.tab5 fescueref06_Twin.bits5 (fun HT_ HW_ => ?_)
            generalize wr.drew = w20 at HO_239000 HO_239001 BK233 BK234 BK238 HB HR239_1 HR240_1 hx239_0 hx239_1 hx240_0 hx240_1 hHeld ⊢
            refine pure_ (i := 0) (N := some 16) (v := ?_) (a' := ?_) #[true, false, false, false, false, false, false, false, false, false, false, false, false, false, false, false, false, false, false, false] rfl rfl (any_of HT_.out (by kernel_rfl)) (fun _ _ _ h => h) (Or.inl ⟨by rfl, ?_⟩) ?_ ?_
            rotate_left
            · intro w'
              go_simp
              with_reducible rfl
            rotate_left
            · simp only [Act.put, List.setIfInBounds_toArray, List.set_cons_zero, List.set_cons_succ, i64_w, i32_w]
              rfl
            refine pure_ (i := 2) (N := some 18) (v := ?_) (a' := ?_) #[true, false, true, false, false, false, false, false, false, false, false, false, false, false, false, false, false, false, false, false] rfl rfl (any_of HT_.out (by kernel_rfl)) (fun _ _ _ h => h) (Or.inl ⟨by rfl, ?_⟩) ?_ ?_
            rotate_left
            · intro w'
              go_simp
              with_reducible rfl
            rotate_left
            · simp only [Act.put, List.setIfInBounds_toArray, List.set_cons_zero, List.set_cons_succ, i64_w, i32_w]
              rfl
            refine pure_ (i := 4) (N := some 20) (v := ?_) (a' := ?_) #[true, false, true, false, true, false, false, false, false, false, false, false, false, false, false, false, false, false, false, false] rfl rfl (any_of HT_.out (by kernel_rfl)) (fun _ _ _ h => h) (Or.inl ⟨by rfl, ?_⟩) ?_ ?_
            rotate_left
            · intro w'
              go_simp
              with_reducible rfl
            rotate_left
            · simp only [Act.put, List.setIfInBounds_toArray, List.set_cons_zero, List.set_cons_succ, i64_w, i32_w]
              rfl
            refine pure_ (i := 8) (N := some 24) (v := ?_) (a' := ?_) #[true, false, true, false, true, false, false, false, true, false, false, false, false, false, false, false, false, false, false, false] rfl rfl (any_of HT_.out (by kernel_rfl)) (fun _ _ _ h => h) (Or.inl ⟨by rfl, ?_⟩) ?_ ?_
            rotate_left
            · intro w'
              go_simp
              with_reducible rfl
            rotate_left
            · simp only [Act.put, List.setIfInBounds_toArray, List.set_cons_zero, List.set_cons_succ, i64_w, i32_w]
              rfl
            refine pure_ (i := 10) (N := some 26) (v := ?_) (a' := ?_) #[true, false, true, false, true, false, false, false, true, false, true, false, false, false, false, false, false, false, false, false] rfl rfl (any_of HT_.out (by kernel_rfl)) (fun _ _ _ h => h) (Or.inl ⟨by rfl, ?_⟩) ?_ ?_
            rotate_left
            · intro w'
              go_simp
              with_reducible rfl
            rotate_left
            · simp only [Act.put, List.setIfInBounds_toArray, List.set_cons_zero, List.set_cons_succ, i64_w, i32_w]
              rfl
            refine take_ (i := 1) (N := some 17) (v := ?_) (a' := ?_) #[true, true, true, false, true, false, false, false, true, false, true, false, false, false, false, false, false, false, false, false] rfl rfl (take_ofW HT_.out HW_.out (by kernel_rfl)) (fun _ _ _ h => h) (Or.inl ⟨by rfl, ?_⟩) hHeld ?_ ?_
            rotate_left
            · rintro w' ⟨s0, s1, s2, s3, s4, s5, s6, s7⟩
              go_simp
              with_reducible rfl
            rotate_left
            · simp only [Act.put, List.setIfInBounds_toArray, List.set_cons_zero, List.set_cons_succ, i64_w, i32_w]
              rfl
            refine take_ (i := 3) (N := some 19) (v := ?_) (a' := ?_) #[true, true, true, true, true, false, false, false, true, false, true, false, false, false, false, false, false, false, false, false] rfl rfl (take_ofW HT_.out HW_.out (by kernel_rfl)) (fun _ _ _ h => h) (Or.inl ⟨by rfl, ?_⟩) hHeld ?_ ?_
            rotate_left
            · rintro w' ⟨s0, s1, s2, s3, s4, s5, s6, s7⟩
              go_simp
              with_reducible rfl
            rotate_left
            · simp only [Act.put, List.setIfInBounds_toArray, List.set_cons_zero, List.set_cons_succ, i64_w, i32_w]
              rfl
            refine pure_ (i := 5) (N := some 21) (v := ?_) (a' := ?_) #[true, true, true, true, true, true, false, false, true, false, true, false, false, false, false, false, false, false, false, false] rfl rfl (any_of HT_.out (by kernel_rfl)) (fun _ _ _ h => h) (Or.inl ⟨by rfl, ?_⟩) ?_ ?_
            rotate_left
            · intro w'
              go_simp
              with_reducible rfl
            rotate_left
            · simp only [Act.put, List.setIfInBounds_toArray, List.set_cons_zero, List.set_cons_succ, i64_w, i32_w]
              rfl
            refine pure_ (i := 6) (N := some 22) (v := ?_) (a' := ?_) #[true, true, true, true, true, true, true, false, true, false, true, false, false, false, false, false, false, false, false, false] rfl rfl (any_of HT_.out (by kernel_rfl)) (fun _ _ _ h => h) (Or.inl ⟨by rfl, ?_⟩) ?_ ?_
            rotate_left
            · intro w'
              go_simp
              with_reducible rfl
            rotate_left
            · simp only [Act.put, List.setIfInBounds_toArray, List.set_cons_zero, List.set_cons_succ, i64_w, i32_w]
              rfl
            refine take_ (i := 7) (N := some 23) (v := ?_) (a' := ?_) #[true, true, true, true, true, true, true, true, true, false, true, false, false, false, false, false, false, false, false, false] rfl rfl (take_ofW HT_.out HW_.out (by kernel_rfl)) (fun _ _ _ h => h) (Or.inl ⟨by rfl, ?_⟩) hHeld ?_ ?_
            rotate_left
            · rintro w' ⟨s0, s1, s2, s3, s4, s5, s6, s7⟩
              go_simp
              with_reducible rfl
            rotate_left
            · simp only [Act.put, List.setIfInBounds_toArray, List.set_cons_zero, List.set_cons_succ, i64_w, i32_w]
              rfl
            refine take_ (i := 9) (N := some 25) (v := ?_) (a' := ?_) #[true, true, true, true, true, true, true, true, true, true, true, false, false, false, false, false, false, false, false, false] rfl rfl (take_ofW HT_.out HW_.out (by kernel_rfl)) (fun _ _ _ h => h) (Or.inl ⟨by rfl, ?_⟩) hHeld ?_ ?_
            rotate_left
            · rintro w' ⟨s0, s1, s2, s3, s4, s5, s6, s7⟩
              go_simp
              with_reducible rfl
            rotate_left
            · simp only [Act.put, List.setIfInBounds_toArray, List.set_cons_zero, List.set_cons_succ, i64_w, i32_w]
              rfl
            refine pure_ (i := 11) (N := some 27) (v := ?_) (a' := ?_) #[true, true, true, true, true, true, true, true, true, true, true, true, false, false, false, false, false, false, false, false] rfl rfl (any_of HT_.out (by kernel_rfl)) (fun _ _ _ h => h) (Or.inl ⟨by rfl, ?_⟩) ?_ ?_
            rotate_left
            · intro w'
              go_simp
              with_reducible rfl
            rotate_left
            · simp only [Act.put, List.setIfInBounds_toArray, List.set_cons_zero, List.set_cons_succ, i64_w, i32_w]
              rfl
            refine pure_ (i := 12) (N := some 28) (v := ?_) (a' := ?_) #[true, true, true, true, true, true, true, true, true, true, true, true, true, false, false, false, false, false, false, false] rfl rfl (any_of HT_.out (by kernel_rfl)) (fun _ _ _ h => h) (Or.inl ⟨by rfl, ?_⟩) ?_ ?_
            rotate_left
            · intro w'
              go_simp
              with_reducible rfl
            rotate_left
            · simp only [Act.put, List.setIfInBounds_toArray, List.set_cons_zero, List.set_cons_succ, i64_w, i32_w]
              rfl
            refine take_ (i := 13) (N := some 29) (v := ?_) (a' := ?_) #[true, true, true, true, true, true, true, true, true, true, true, true, true, true, false, false, false, false, false, false] rfl rfl (take_ofW HT_.out HW_.out (by kernel_rfl)) (fun _ _ _ h => h) (Or.inl ⟨by rfl, ?_⟩) hHeld ?_ ?_
            rotate_left
            · rintro w' ⟨s0, s1, s2, s3, s4, s5, s6, s7⟩
              go_simp
              with_reducible rfl
            rotate_left
            · simp only [Act.put, List.setIfInBounds_toArray, List.set_cons_zero, List.set_cons_succ, i64_w, i32_w]
              rfl
            refine one_ (i := 14) (N := some 30) #[true, true, true, true, true, true, true, true, true, true, true, true, true, true, true, false, false, false, false, false] rfl rfl (one_of HT_.out (by kernel_rfl)) (by decide) (fun K hK => ?_)
            refine goes_ Tryd.func38 (by kernel_rfl) rfl #[.slice A239_1 ((rd_T55 l0_1 x4_1).f1).length c239_1] (by rfl) rfl rfl (by (try simp only [List.map_toArray, List.map_cons, List.map_nil]); first | done | rfl | (simp only [List.length_drop, List.length_take]; rfl)) ?_
            with_reducible refine (fescueref06_TwinBlocks.calls k1 _ _ ((rd_T55 l0_1 x4_1).f1) t241 _ ?side1 ?side2 A15.out).mono ?_
            (case side1 => repeat (first | exact (Kd.C_below HR240_1.out HB.out) | (with_reducible refine Kd.C_alloc ?_ _) | (with_reducible refine Kd.C_drewN ?_ _) | (with_reducible refine Kd.C_drew ?_)))
            (case side2 => exact HC240_1.out)
            rintro e w21 ⟨v242, rfl, ho0, hb⟩
            refine ⟨_, rfl, ?_⟩
            have n0_ := Aside0.mk (Kd.S_below (by (with_reducible repeat (first | apply Kd.S_alloc | apply Kd.S_drewN | apply Kd.S_drew)); exact HO_239000.out) hb)
            have n1_ := Aside0.mk (Kd.R_elder' (by (with_reducible repeat (first | apply Kd.R_alloc | apply Kd.R_drewN | apply Kd.R_drew)); exact HO_239001.out) (Kd.R_base ho0) hb)
            have n2_ := Aside0.mk (Kd.R_lower ho0 (below_size (by repeat (first | (with_reducible first | exact HB.out | apply below_alloc | apply pw_below_drewN | apply below_drew1 | refine below_set ?_ GE233.out | refine below_set ?_ GE234.out | refine below_set ?_ GE238.out) | exact HB.out))))
            have n3_ := Aside0.mk (blk_below (g := gb233) (o := .cells #[.slice A0_0 l0_0.length c0_0, .slice (some ad239) l0_1.length c0_1] 35 (0, 0)) (by (with_reducible repeat (first | refine blk_drewN ?_ _ | refine blk_drew ?_ | refine blk_alloc ?_ _)); exact BK233.out) hb)
            have n4_ := Aside0.mk (blk_below (g := gb234) (o := .cells #[.slice none 0 0, .slice none 0 0] 35 (0, 0)) (by (with_reducible repeat (first | refine blk_drewN ?_ _ | refine blk_drew ?_ | refine blk_alloc ?_ _)); exact BK234.out) hb)
            have n5_ := Aside0.mk (blk_below (g := gb238) (o := .cells #[.slice Ao8 t235.length co8, u239001] 35 (0, 0)) (by (with_reducible repeat (first | refine blk_drewN ?_ _ | refine blk_drew ?_ | refine blk_alloc ?_ _)); exact BK238.out) hb)
            have n6_ := Aside0.mk (below_step (by repeat (first | (with_reducible first | exact HB.out | apply below_alloc | apply pw_below_drewN | apply below_drew1 | refine below_set ?_ GE233.out | refine below_set ?_ GE234.out | refine below_set ?_ GE238.out) | exact HB.out)) hb)
            clear HO_239000
            clear HO_239001
            clear BK233
            clear BK234
            clear BK238
            clear HB
            have HO_239000 := n0_
            have HO_239001 := n1_
            have HO243 := n2_
            have BK233 := n3_
            have BK234 := n4_
            have BK238 := n5_
            have HB := n6_
            clear n0_ n1_ n2_ n3_ n4_ n5_ n6_
            (try clear hb)
            (try clear hb2)
            (try clear hk)
            (try clear hi)
            (try clear ho0)
            obtain ⟨Ao22, co22, eo22⟩ := Kd.R_slice HO243.out
            (first | subst eo22 | (injection eo22 with f1_ f2_ f3_; have f4_ := f1_.symm; have f5_ := f3_.symm; clear f1_ f2_ f3_; subst f4_; subst f5_))
            refine hK.out _ _ ⟨(blk_cell BK238.out 0).trans rfl, (blk_cell BK238.out 1).trans rfl, (blk_cell BK233.out 0).trans rfl, (blk_cell BK233.out 1).trans rfl, ((HB.out.cell (World.block_lt_of_cell? w _ hw239_0)).trans hw239_0), ((HB.out.cell (World.block_lt_of_cell? w _ hw239_1)).trans hw239_1), ((HB.out.cell (World.block_lt_of_cell? w _ hw240_0)).trans hw240_0), ((HB.out.cell (World.block_lt_of_cell? w _ hw240_1)).trans hw240_1)⟩ (fun hHeld => ?_)
            clear hK K
            refine norm_ (a' := ?_) ?_ ?_
            rotate_left
            · show Act.put _ (some 30) _ = _
              simp only [Act.put, List.setIfInBounds_toArray, List.set_cons_zero, List.set_cons_succ, i64_w, i32_w]
              rfl
            refine pure_ (i := 15) (N := some 31) (v := ?_) (a' := ?_) #[true, true, true, true, true, true, true, true, true, true, true, true, true, true, true, true, false, false, false, false] rfl rfl (any_of HT_.out (by kernel_rfl)) (fun _ _ _ h => h) (Or.inl ⟨by rfl, ?_⟩) ?_ ?_
            rotate_left
            · intro w'
              go_simp
              with_reducible rfl
            rotate_left
            · simp only [Act.put, List.setIfInBounds_toArray, List.set_cons_zero, List.set_cons_succ, i64_w, i32_w]
              rfl
            refine one_ (i := 16) (N := some 32) #[true, true, true, true, true, true, true, true, true, true, true, true, true, true, true, true, true, false, false, false] rfl rfl (one_of HT_.out (by kernel_rfl)) (by decide) (fun K hK => ?_)
            refine value_ (w1 := ?_) (v := ?_) (by rfl) rfl ?_ ?_
            rotate_left 2
            · go_simp
              constructor
              · rfl
              · rfl
            refine hK.out _ _ ⟨(blk_cell (blk_alloc BK238.out _) 0).trans rfl, (blk_cell (blk_alloc BK238.out _) 1).trans rfl, (blk_cell (blk_alloc BK233.out _) 0).trans rfl, (blk_cell (blk_alloc BK233.out _) 1).trans rfl, (World.cell?_alloc_lt _ _ _ (World.block_lt_of_cell? _ _ (((HB.out.cell (World.block_lt_of_cell? w _ hw239_0)).trans hw239_0)))).trans (((HB.out.cell (World.block_lt_of_cell? w _ hw239_0)).trans hw239_0)), (World.cell?_alloc_lt _ _ _ (World.block_lt_of_cell? _ _ (((HB.out.cell (World.block_lt_of_cell? w _ hw239_1)).trans hw239_1)))).trans (((HB.out.cell (World.block_lt_of_cell? w _ hw239_1)).trans hw239_1)), (World.cell?_alloc_lt _ _ _ (World.block_lt_of_cell? _ _ (((HB.out.cell (World.block_lt_of_cell? w _ hw240_0)).trans hw240_0)))).trans (((HB.out.cell (World.block_lt_of_cell? w _ hw240_0)).trans hw240_0)), (World.cell?_alloc_lt _ _ _ (World.block_lt_of_cell? _ _ (((HB.out.cell (World.block_lt_of_cell? w _ hw240_1)).trans hw240_1)))).trans (((HB.out.cell (World.block_lt_of_cell? w _ hw240_1)).trans hw240_1))⟩ (fun hHeld => ?_)
            clear hK K
            refine norm_ (a' := ?_) ?_ ?_
            rotate_left
            · show Act.put _ (some 32) _ = _
              simp only [Act.put, List.setIfInBounds_toArray, List.set_cons_zero, List.set_cons_succ, i64_w, i32_w]
              rfl
            refine one_ (i := 17) (N := some 33) #[true, true, true, true, true, true, true, true, true, true, true, true, true, true, true, true, true, true, false, false] rfl rfl (one_of HT_.out (by kernel_rfl)) (by decide) (fun K hK => ?_)
            refine Kd.R_append_step k55 (w0 := w) w.heap.size (by rfl) (.tmp 17) (.tmp 32) 33 55 (.agg #[(.int .i64 0), (.slice none 0 0)]) 32 rfl Tryd.underlying33 info55 rfl (by decide) (by omega) u239001 x239001_1 (⟨(rd_T55 l0_1 x4_1).f0, t241⟩ : S55) [.int .i64 ((rd_T55 l0_1 x4_1).f0), .slice Ao22 t241.length co22] (fun _ => True) (fun k_ => ((fun _ => True)) k_ ∧ some k_ ≠ (u239001 : Value).ownBlock) rfl rfl ?aP (fun _ hk => hk) ?aF ?aO ?aB ?aS ?aL ?_
            (case aP => exact k55_mkM _ _ _ (⟨(rd_T55 l0_1 x4_1).f0, t241⟩ : S55) (Kd.R_mono (Kd.R_apart' (HO243.out) (Kd.R_typed HO_239001.out) (by decide)) (fun k_ hk => ⟨trivial, hk.2⟩)))
            (case aB => exact (by repeat (first | (with_reducible first | exact HB.out | apply below_alloc | apply pw_below_drewN | apply below_drew1 | refine below_set ?_ GE233.out | refine below_set ?_ GE234.out | refine below_set ?_ GE238.out) | exact HB.out)))
            (case aF => exact (fun _ _ => trivial))
            (case aO => exact (by (with_reducible repeat (first | apply Kd.R_alloc | apply Kd.R_drewN | apply Kd.R_drew)); exact Kd.R_mono HO_239001.out (fun _ hk => trivial)))
            (case aS => exact (below_size (by repeat (first | (with_reducible first | exact HB.out | apply below_alloc | apply pw_below_drewN | apply below_drew1 | refine below_set ?_ GE233.out | refine below_set ?_ GE234.out | refine below_set ?_ GE238.out) | exact HB.out))))
            (case aL => have := LMc16.out; omega)
            intro v245 w23 ho hb hg hat
            rw [← Ny244.out] at ho
            have n0_ := Aside0.mk (Kd.S_over' (by (with_reducible repeat (first | apply Kd.S_alloc | apply Kd.S_drewN | apply Kd.S_drew)); exact HO_239000.out) (Kd.R_typed (by (with_reducible repeat (first | apply Kd.R_alloc | apply Kd.R_drewN | apply Kd.R_drew)); exact HO_239001.out)) (by decide) hg)
            have n1_ := Aside0.mk (blk_grown (g := gb233) (o := .cells #[.slice A0_0 l0_0.length c0_0, .slice (some ad239) l0_1.length c0_1] 35 (0, 0)) (by (with_reducible repeat (first | refine blk_drewN ?_ _ | refine blk_drew ?_ | refine blk_alloc ?_ _)); exact BK233.out) hg (Kd.R_ne HO_239001.out BK233.out (by decide)))
            have n2_ := Aside0.mk (blk_grown (g := gb234) (o := .cells #[.slice none 0 0, .slice none 0 0] 35 (0, 0)) (by (with_reducible repeat (first | refine blk_drewN ?_ _ | refine blk_drew ?_ | refine blk_alloc ?_ _)); exact BK234.out) hg (Kd.R_ne HO_239001.out BK234.out (by decide)))
            have n3_ := Aside0.mk (blk_grown (g := gb238) (o := .cells #[.slice Ao8 t235.length co8, u239001] 35 (0, 0)) (by (with_reducible repeat (first | refine blk_drewN ?_ _ | refine blk_drew ?_ | refine blk_alloc ?_ _)); exact BK238.out) hg (Kd.R_ne HO_239001.out BK238.out (by decide)))
            have n4_ := Aside0.mk (hb)
            have n5_ := Aside0.mk (ho)
            clear HO_239000
            clear BK233
            clear BK234
            clear BK238
            clear HB
            clear HO_239001
            clear HO243
            have HO_239000 := n0_
            have BK233 := n1_
            have BK234 := n2_
            have BK238 := n3_
            have HB := n4_
            have HO246 := n5_
            clear n0_ n1_ n2_ n3_ n4_ n5_
            clear ho hb hg hat
            obtain ⟨Ao24, co24, eo24⟩ := Kd.R_slice HO246.out
            (first | subst eo24 | (injection eo24 with f1_ f2_ f3_; have f4_ := f1_.symm; have f5_ := f3_.symm; clear f1_ f2_ f3_; subst f4_; subst f5_))
            refine hK.out _ _ ⟨(blk_cell BK238.out 0).trans rfl, (blk_cell BK238.out 1).trans rfl, (blk_cell BK233.out 0).trans rfl, (blk_cell BK233.out 1).trans rfl, ((HB.out.cell (World.block_lt_of_cell? w _ hw239_0)).trans hw239_0), ((HB.out.cell (World.block_lt_of_cell? w _ hw239_1)).trans hw239_1), ((HB.out.cell (World.block_lt_of_cell? w _ hw240_0)).trans hw240_0), ((HB.out.cell (World.block_lt_of_cell? w _ hw240_1)).trans hw240_1)⟩ (fun hHeld => ?_)
            clear hK K
            refine norm_ (a' := ?_) ?_ ?_
            rotate_left
            · show Act.put _ (some 33) _ = _
              simp only [Act.put, List.setIfInBounds_toArray, List.set_cons_zero, List.set_cons_succ, i64_w, i32_w]
              rfl
            refine pure_ (i := 18) (N := some 34) (v := ?_) (a' := ?_) #[true, true, true, true, true, true, true, true, true, true, true, true, true, true, true, true, true, true, true, false] rfl rfl (any_of HT_.out (by kernel_rfl)) (fun _ _ _ h => h) (Or.inl ⟨by rfl, ?_⟩) ?_ ?_
            rotate_left
            · intro w'
              go_simp
              with_reducible rfl
            rotate_left
            · simp only [Act.put, List.setIfInBounds_toArray, List.set_cons_zero, List.set_cons_succ, i64_w, i32_w]
              rfl
            refine last_ (i := 19) (N := none) #[true, true, true, true, true, true, true, true, true, true, true, true, true, true, true, true, true, true, true, true] rfl rfl (one_of HT_.out (by kernel_rfl)) (by decide) (fun K hK => ?_)
            have hs25 : w23.cell? ⟨gb238, 1, none⟩ = some (u239001) := (blk_cell BK238.out 1).trans rfl
            have hfs25 := blk_frozen BK238.out 1
            have hns25_0 := NB233_238.out
            have hns25_1 := NB234_238.out
            have hms25_0 := NB238_233.out
            have hms25_1 := NB238_234.out
            refine skip_ (w1 := ?_) (by rfl) rfl ?_ ?_
            rotate_left
            · go_simp
              rfl
            refine hK.out _ _ ?_
            clear hK K
            refine done_ (done_of HT_.out (by kernel_rfl)) ?_
            try go_wp2
            go_roundg k1
            case measure => have := HK1.out; omega
            case rel => exact ⟨(wrap64 (x4_1 + 1)), (y244), (.slice Ao24 y244.length co24), (by first | rfl | (simp; done) | (simp [*]; done)), H', ⟨by have := HK1.out; omega⟩, ⟨by (with_reducible repeat (first | apply Kd.S_alloc | apply Kd.S_drewN | apply Kd.S_drew)); exact Kd.S_mono (Kd.S_far (p := ⟨gb238, 1, none⟩) (Kd.S_types HO_239000.out BK238.out (by decide)) (fun _ hk => hk.2) (.slice Ao24 y244.length co24)) (fun _ hk => trivial)⟩, ⟨by (with_reducible repeat (first | apply Kd.R_alloc | apply Kd.R_drewN | apply Kd.R_drew)); exact Kd.R_mono (Kd.R_far (p := ⟨gb238, 1, none⟩) (Kd.R_types HO246.out BK238.out (by decide)) (fun _ hk => hk.2) (.slice Ao24 y244.length co24)) (fun _ hk => trivial)⟩, ⟨by (with_reducible repeat (first | refine blk_drewN ?_ _ | refine blk_drew ?_ | refine blk_alloc ?_ _)); refine blk_far ?_ NB233_238.out _; (with_reducible repeat (first | refine blk_drewN ?_ _ | refine blk_drew ?_ | refine blk_alloc ?_ _)); exact BK233.out⟩, ⟨by (with_reducible repeat (first | refine blk_drewN ?_ _ | refine blk_drew ?_ | refine blk_alloc ?_ _)); refine blk_far ?_ NB234_238.out _; (with_reducible repeat (first | refine blk_drewN ?_ _ | refine blk_drew ?_ | refine blk_alloc ?_ _)); exact BK234.out⟩, ⟨by (with_reducible repeat (first | refine blk_drewN ?_ _ | refine blk_drew ?_ | refine blk_alloc ?_ _)); refine blk_put (cs := #[.slice Ao8 t235.length co8, u239001]) ?_ 1 _ rfl; (with_reducible repeat (first | refine blk_drewN ?_ _ | refine blk_drew ?_ | refine blk_alloc ?_ _)); exact BK238.out⟩, ⟨by repeat (first | (with_reducible first | exact HB.out | apply below_alloc | apply pw_below_drewN | apply below_drew1 | refine below_set ?_ GE233.out | refine below_set ?_ GE234.out | refine below_set ?_ GE238.out) | exact HB.out)⟩⟩
          · rw [if_neg c16] at H
            exact absurd H (by simp)
        · rw [if_neg c14] at H
          exact absurd H (by simp)
      · rw [if_neg c13] at H
        have c13b0 : decide (x4_1 < (l0_1.length : Int)) = false := decide_eq_false c13
        clear c13
        simp only [Option.some.injEq, Prod.mk.injEq] at H
        obtain ⟨rfl, rfl⟩ := H
        have hnb26 := NB233_234.out
        have hnc26 := NB234_233.out
        have hnb27 := NB233_238.out
        have hnc27 := NB238_233.out
        have hcz28_0 : wr.cell? ⟨gb233, 0, none⟩ = some (.slice A0_0 l0_0.length c0_0) := (blk_cell BK233.out 0).trans rfl
        have hcz28_1 : wr.cell? ⟨gb233, 1, none⟩ = some (.slice A0_1 l0_1.length c0_1) := (blk_cell BK233.out 1).trans rfl
        have hfz28_0 := blk_frozen BK233.out 0
        have hfz28_1 := blk_frozen BK233.out 1
        have hnb29 := NB238_234.out
        have hnc29 := NB234_238.out
        have hcz30_0 : wr.cell? ⟨gb238, 0, none⟩ = some (.slice Ao8 t235.length co8) := (blk_cell BK238.out 0).trans rfl
        have hcz30_1 : wr.cell? ⟨gb238, 1, none⟩ = some (u239001) := (blk_cell BK238.out 1).trans rfl
        have hfz30_0 := blk_frozen BK238.out 0
        have hfz30_1 := blk_frozen BK238.out 1
        have hcz31_0 : wr.cell? ⟨gb234, 0, none⟩ = some (.slice none 0 0) := (blk_cell BK234.out 0).trans rfl
        have hcz31_1 : wr.cell? ⟨gb234, 1, none⟩ = some (.slice none 0 0) := (blk_cell BK234.out 1).trans rfl
        have hfz31_0 := blk_frozen BK234.out 0
        have hfz31_1 := blk_frozen BK234.out 1
        obtain ⟨Ao32, co32, eo32⟩ := Kd.R_slice HO_239001.out
        subst eo32
        go_wp2
        refine bodyPost_ret (results_cell_row rfl _ _ gb234 35 #[.slice Ao8 t235.length co8, .slice Ao32 x239001_1.length co32] (0, 0) _ rfl (by (with_reducible repeat (first | refine blk_drewN ?_ _ | refine blk_drew ?_ | refine blk_alloc ?_ _)); refine blk_put (cs := #[.slice Ao8 t235.length co8, .slice none 0 0]) ?_ 1 _ rfl; (with_reducible repeat (first | refine blk_drewN ?_ _ | refine blk_drew ?_ | refine blk_alloc ?_ _)); refine blk_put (cs := #[.slice none 0 0, .slice none 0 0]) ?_ 0 _ rfl; (with_reducible repeat (first | refine blk_drewN ?_ _ | refine blk_drew ?_ | refine blk_alloc ?_ _)); exact BK234.out) Tryd.underlying35 rfl (by kernel_rfl)) rfl ?_
        exact ⟨_, _, by first | rfl | (simp [errW_none, errW_some] <;> rfl) | (simp [*, errW_none, errW_some] <;> rfl), by (with_reducible repeat (first | apply Kd.S_alloc | apply Kd.S_drewN | apply Kd.S_drew)); exact Kd.S_mono (Kd.S_far (p := ⟨gb234, 1, none⟩) (Kd.S_far (p := ⟨gb234, 0, none⟩) (Kd.S_types HO_239000.out BK234.out (by decide)) (fun _ hk => hk.2) (.slice Ao8 t235.length co8)) (fun _ hk => hk.2) (.slice Ao32 x239001_1.length co32)) (fun _ hk => trivial), by (with_reducible repeat (first | apply Kd.R_alloc | apply Kd.R_drewN | apply Kd.R_drew)); exact Kd.R_mono (Kd.R_far (p := ⟨gb234, 1, none⟩) (Kd.R_far (p := ⟨gb234, 0, none⟩) (Kd.R_types HO_239001.out BK234.out (by decide)) (fun _ hk => hk.2) (.slice Ao8 t235.length co8)) (fun _ hk => hk.2) (.slice Ao32 x239001_1.length co32)) (fun _ hk => trivial), by repeat (first | (with_reducible first | exact HB.out | apply below_alloc | apply pw_below_drewN | apply below_drew1 | refine below_set ?_ GE233.out | refine below_set ?_ GE234.out | refine below_set ?_ GE238.out) | exact HB.out)⟩

end Go.Proofs.YtfjmpfecnemoiaaDoor.Q
