/-
  shape.all: whether all are numbers from 0 on, below another one.
-/
import Derived.Test.YtfjmpfecnemoiaaDoorQThere
import Derived.Test.YtfjmpfecnemoiaaDoorQx5
namespace Go.Proofs.YtfjmpfecnemoiaaDoor.Q
open Go.RowKit Go.Proofs.YtfjmpfecnemoiaaDoorW.PrintWords Go.Proofs.YtfjmpfecnemoiaaDoorW.PrintLast Go.Proofs.YtfjmpfecnemoiaaDoorW.PrintMore
set_option linter.unusedVariables false
set_option linter.unusedSimpArgs false
set_option maxRecDepth 100000

theorem below_some (n most : Int) : shape_below.f n most = some (decide (0 ≤ n) && decide (n < most)) := by
  unfold shape_below.f
  by_cases h : 0 ≤ n <;> simp [h]
theorem all1_calls (most x : Int) (b : Nat) (W : World) (hc : W.cell? ⟨b, 0, none⟩ = some (.int .i64 most)) :
    Calls Tryd.prog 101 #[.int .i64 x, .pointer (some ⟨b, 0, none⟩)] W fun e w' => e = .returned (.bool (!(decide (0 ≤ x) && decide (x < most)))) ∧ Below W.heap.size W w' := by
  have hb := fun (W' : World) => shape_below.calls x most _ W' (below_some x most)
  cases hq : (decide (0 ≤ x) && decide (x < most))
  all_goals
    rw [hq] at hb
    clear hq
    go_enter Tryd.func101, Tryd.ntmps101
    go_wp2_with fail
    refine (hb _).mono ?_
    rintro e w' ⟨rfl, ⟨m, rfl⟩⟩
    clear hb
    go_wp2_with fail
    go_ret
    exact ⟨rfl, pw_below_drewN (Below.refl _ _) m⟩
theorem all_any (most : Int) (l : List Int) : (!l.any fun n => !(decide (0 ≤ n) && decide (n < most))) = there most l := by
  unfold there
  induction l with
  | nil => rfl
  | cons a l ih => rw [List.any_cons, List.all_cons, Bool.not_or, ih, Bool.not_not]
theorem all_any2 (most : Int) (l : List Int) : (!l.any fun n => !decide (0 ≤ n) || !decide (n < most)) = there most l := by
  have h := all_any most l
  simp only [Bool.not_and] at h
  exact h
def shape_all.f (l0 : List Int) (a1 : Int) : Option Bool := some (there a1 l0)
theorem shape_all.calls (A : Option Addr) (c : Nat) (xs : List Int) (most : Int) (r : Bool) (w : World) (hr : Kd.C (Kd.int .i64) w A xs.length xs) (hc : xs.length ≤ c) (h : shape_all.f xs most = some r) :
    Calls Tryd.prog 91 #[.slice A xs.length c, .int .i64 most] w fun e w' => e = .returned (.bool r) ∧ Below w.heap.size w w' := by
  obtain rfl := Option.some.inj h
  clear h
  have hcall := fun (W : World) (B : Nat) (hb : Below w.heap.size w W) (hB : B < W.heap.size) (hc : W.cell? ⟨B, 0, none⟩ = some (.int .i64 most)) =>
    containsFunc_calls 101 #[.pointer (some ⟨B, 0, none⟩)] (enters_of Tryd.func101 (by kernel_rfl) rfl) (fun n => !(decide (0 ≤ n) && decide (n < most))) A c xs W (Kd.C_below hr hb)
      (fun W' x hb' _ => all1_calls most x B W' ((hb'.cell (p := ⟨B, 0, none⟩) hB).trans hc))
  have HCALL := Aside0.mk hcall
  clear hr hcall
  go_enter Tryd.func91, Tryd.ntmps91
  go_wp2_with fail
  refine (HCALL.out _ w.heap.size ((Below.refl _ _).alloc (Nat.le_refl _) _) (by simp) (by simp)).mono ?_
  rintro e w' ⟨rfl, hb⟩
  clear HCALL
  go_wp2_with fail
  go_ret
  exact ⟨congrArg (fun b => Ending.returned (.bool b)) (all_any2 most xs), below_then ((Below.refl _ _).alloc (Nat.le_refl _) _) (by simp) hb⟩
end Go.Proofs.YtfjmpfecnemoiaaDoor.Q
