/-
  shape.of: what an operation's has, out of the package's table; the table's cells as they are laid.
-/
import Derived.Test.YtfjmpfecnemoiaaDoorQx0
import Derived.WalkMore
namespace Go.Proofs.YtfjmpfecnemoiaaDoor.Q
open Go.RowKit Go.Proofs.YtfjmpfecnemoiaaDoorW.PrintWords Go.Proofs.YtfjmpfecnemoiaaDoorW.PrintLast Go.Proofs.YtfjmpfecnemoiaaDoorW.PrintMore
set_option linter.unusedVariables false
set_option linter.unusedSimpArgs false

abbrev Has := Bool × Bool × Bool × Bool × Bool × Bool
def tabL : List Has := [(false, false, false, false, false, false), (false, false, true, false, false, true), (false, false, false, false, false, true), (false, false, true, false, false, true), (true, true, false, false, false, true), (true, true, false, false, false, true), (true, true, false, false, false, true), (true, true, false, false, false, true), (true, true, false, false, false, true), (true, true, false, false, false, true), (true, true, false, false, false, true), (false, false, false, false, false, true), (false, false, false, false, false, true), (true, false, false, false, false, false), (true, false, true, false, false, true), (true, true, false, false, false, true), (true, false, false, false, false, true), (true, true, false, false, false, false), (false, false, true, true, false, true), (true, false, false, true, false, true), (false, false, false, false, false, true), (true, false, false, false, false, false), (false, false, false, true, true, true)]
def rowOf (a : Int) : Has := tabL.getD a.toNat (false, false, false, false, false, false)
/-- The table's cells. -/
def Tab (w : World) : Prop := ∀ n : Nat, n < 23 → w.cell? ⟨0, n * 6, none⟩ = some (.bool (rowOf n).1) ∧ w.cell? ⟨0, n * 6 + 1, none⟩ = some (.bool (rowOf n).2.1) ∧ w.cell? ⟨0, n * 6 + 2, none⟩ = some (.bool (rowOf n).2.2.1) ∧
  w.cell? ⟨0, n * 6 + 3, none⟩ = some (.bool (rowOf n).2.2.2.1) ∧ w.cell? ⟨0, n * 6 + 4, none⟩ = some (.bool (rowOf n).2.2.2.2.1) ∧ w.cell? ⟨0, n * 6 + 5, none⟩ = some (.bool (rowOf n).2.2.2.2.2)
theorem Tab.pos {w : World} (h : Tab w) : 0 < w.heap.size := World.block_lt_of_cell? _ _ (h 0 (by decide)).1
theorem Tab_move {w w1 : World} (h : Tab w) (hc : ∀ p : Addr, p.block = 0 → w1.cell? p = w.cell? p) : Tab w1 := by
  intro n hn
  obtain ⟨a0, a1, a2, a3, a4, a5⟩ := h n hn
  exact ⟨(hc _ rfl).trans a0, (hc _ rfl).trans a1, (hc _ rfl).trans a2, (hc _ rfl).trans a3, (hc _ rfl).trans a4, (hc _ rfl).trans a5⟩
theorem Tab_below {w w1 : World} (h : Tab w) (hb : Below w.heap.size w w1) : Tab w1 := Tab_move h (fun p hp => hb.cell (by rw [hp]; exact h.pos))
theorem Tab_alloc {w : World} (h : Tab w) (o : Obj) : Tab (w.alloc o) := Tab_below h ((Below.refl w.heap.size w).alloc (Nat.le_refl _) o)
theorem Tab_drew {w : World} (h : Tab w) : Tab w.drew := Tab_below h ((Below.refl w.heap.size w).drew)
theorem Tab_drewN {w : World} (h : Tab w) (n : Nat) : Tab (w.drewN n) := Tab_below h (pw_below_drewN (Below.refl w.heap.size w) n)

def shape_of.f (a0 : Int) : Option Has := if 0 ≤ a0 ∧ a0 < 256 then some (rowOf a0) else none
theorem rowOf_none {a : Int} (h : 23 ≤ a) : rowOf a = (false, false, false, false, false, false) := by
  unfold rowOf
  rw [List.getD_eq_getElem?_getD, List.getElem?_eq_none (by show 23 ≤ a.toNat; omega)]
  rfl
set_option maxHeartbeats 4000000 in
set_option maxRecDepth 100000 in
theorem shape_of.calls (a0 : Int) (t1 t2 t3 t4 t5 t6 : Bool) (w : World) (hT : Tab w) (h : shape_of.f a0 = some (t1, t2, t3, t4, t5, t6)) :
    Calls Tryd.prog 32 #[.int .u8 a0] w fun e w' => e = .returned (.agg #[.bool t1, .bool t2, .bool t3, .bool t4, .bool t5, .bool t6]) ∧ Below w.heap.size w w' := by
  unfold shape_of.f at h
  by_cases hr : 0 ≤ a0 ∧ a0 < 256
  · rw [if_pos hr] at h
    have h := Option.some.inj h
    obtain ⟨n, rfl⟩ := Int.eq_ofNat_of_zero_le hr.1
    by_cases h23 : n < 23
    · obtain ⟨c0, c1, c2, c3, c4, c5⟩ := hT n h23
      rw [h] at c0 c1 c2 c3 c4 c5
      dsimp only at c0 c1 c2 c3 c4 c5
      have hp := hT.pos
      clear h hT
      go_enter Tryd.func32, Tryd.ntmps32
      go_wp2
      refine bodyPost_ret (results_cell_row rfl _ _ w.heap.size 65 #[.bool t1, .bool t2, .bool t3, .bool t4, .bool t5, .bool t6] (0, 0) _ rfl (heap_alloc_new w _) Tryd.underlying65 rfl (by kernel_rfl)) rfl ?_
      exact ⟨rfl, (Below.refl w.heap.size w).alloc (Nat.le_refl _) _⟩
    · rw [rowOf_none (by omega)] at h
      simp only [Prod.mk.injEq] at h
      obtain ⟨rfl, rfl, rfl, rfl, rfl, rfl⟩ := h
      clear hT
      go_enter Tryd.func32, Tryd.ntmps32
      go_wp2
      refine bodyPost_ret (results_cell_row rfl _ _ w.heap.size 65 #[.bool false, .bool false, .bool false, .bool false, .bool false, .bool false] (0, 0) _ rfl (heap_alloc_new w _) Tryd.underlying65 rfl (by kernel_rfl)) rfl ?_
      exact ⟨rfl, (Below.refl w.heap.size w).alloc (Nat.le_refl _) _⟩
  · rw [if_neg hr] at h
    cases h
end Go.Proofs.YtfjmpfecnemoiaaDoor.Q
