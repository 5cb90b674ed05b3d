/-
  slices.Repeat of one number, 1 to 16 times; types.parts.
-/
import Derived.Test.YtfjmpfecnemoiaaQCells
import Derived.Test.YtfjmpfecnemoiaaQx4
import Derived.Laws.CopyOwn
import Derived.Deep.RegionLaw
namespace Go.Proofs.Ytfjmpfecnemoiaa.Q
open Go.RowKit Go.Proofs.YtfjmpfecnemoiaaW.PrintWords Go.Proofs.YtfjmpfecnemoiaaW.PrintLast Go.Proofs.YtfjmpfecnemoiaaW.PrintMore
set_option linter.unusedVariables false
set_option linter.unusedSimpArgs false

theorem mul_one_some (n : Nat) (h : n ≤ 16) : bits_Mul.f 1 (n : Int) = some (0, (n : Int)) := by
  have h' : n = 0 ∨ n = 1 ∨ n = 2 ∨ n = 3 ∨ n = 4 ∨ n = 5 ∨ n = 6 ∨ n = 7 ∨ n = 8 ∨ n = 9 ∨ n = 10 ∨ n = 11 ∨ n = 12 ∨ n = 13 ∨ n = 14 ∨ n = 15 ∨ n = 16 := by omega
  rcases h' with rfl | rfl | rfl | rfl | rfl | rfl | rfl | rfl | rfl | rfl | rfl | rfl | rfl | rfl | rfl | rfl | rfl <;> decide +kernel

/-- So many cells are filled. -/
def filled (v : Int) (j n : Nat) : List Value := List.replicate j (.int .i64 v) ++ List.replicate (n - j) (.int .i64 0)
theorem filled_splice (v : Int) (j m n : Nat) (h : j + m ≤ n) : splice (filled v j n) j (List.replicate m (.int .i64 v)) = filled v (j + m) n := by
  unfold splice filled
  rw [List.take_left' (by simp), List.length_replicate, List.drop_append, List.drop_replicate, List.drop_replicate, List.length_replicate, show j - (j + m) = 0 from by omega, show j + m - j = m from by omega, show n - j - m = n - (j + m) from by omega, ← List.append_assoc, List.replicate_append_replicate]
  rfl
theorem filled_first (v : Int) (n : Nat) (h : 1 ≤ n) : splice (filled v 0 n) 0 [.int .i64 v] = filled v 1 n := by
  have := filled_splice v 0 1 n (by omega)
  simpa using this

theorem made_filled (v : Int) (n : Nat) : madeCells #[.int .i64 0] n = (filled v 0 n).toArray := by
  apply Array.toList_inj.1
  rw [toList_madeCells_one]
  simp [filled]
theorem size3 : (Try.prog.info? 3).map (·.size) = some 1 := by kernel_rfl

def RepPost (v : Int) (n : Nat) (W : World) (e : Ending) (w' : World) : Prop := ∃ g, e = .returned (.slice (some ⟨g, 0, none⟩) n n) ∧ w'.heap[g]? = some (.cells (filled v n n).toArray 3 (0, 0)) ∧ Below W.heap.size W w'

set_option maxHeartbeats 2000000 in
theorem repeat_calls (v : Int) (n c : Nat) (h1 : 1 ≤ n) (h16 : n ≤ 16) (A : Addr) (W : World) (hA : W.cell? A = some (.int .i64 v)) :
    Calls Try.prog 69 #[.slice (some A) 1 c, .int .i64 n] W (RepPost v n W) := by
  have hmul := fun (W : World) => bits_Mul.calls 1 (n : Int) 0 (n : Int) W (mul_one_some n h16)
  have HMUL := Aside0.mk hmul
  have HA := Aside0.mk hA
  have hmk := print_make (P := Try.prog) 29 3 .i64 8 Try.underlying29 info3 (by decide) n (by omega)
  clear hmul hA
  go_enter Try.func69, Try.ntmps69
  go_wp2_with fail
  refine (HMUL.out _).mono ?_
  rintro e w' ⟨rfl, ⟨m, rfl⟩⟩
  clear HMUL
  have hA1 : (W.drewN m).cell? A = some (.int .i64 v) := HA.out
  have hAb := World.block_lt_of_cell? _ _ hA1
  generalize hW1 : W.drewN m = W1 at *
  have HB1 := Aside0.mk (show Below W.heap.size W W1 from hW1 ▸ pw_below_drewN (Below.refl _ _) _)
  clear hW1 HA
  have HM := Aside0.mk (show (W1.alloc (.cells (madeCells #[.int .i64 0] n) 3)).heap[W1.heap.size]? = some (.cells (filled v 0 n).toArray 3 (0, 0)) from by rw [blk_new, made_filled v n])
  have HN := Aside0.mk (show [Value.int .i64 v].length = Nat.min 1 n from (Nat.min_eq_left h1).symm)
  have HPOS := Aside0.mk (show 0 < [Value.int .i64 v].length → (some ⟨W1.heap.size, 0, none⟩ : Option Addr) = some ⟨W1.heap.size, 0, none⟩ ∧ ∃ ad, some A = some ad ∧ ∀ j u, [Value.int .i64 v][j]? = some u → (W1.alloc (.cells (madeCells #[.int .i64 0] n) 3)).cell? (ad.add j) = some u from by
    intro _
    refine ⟨rfl, A, rfl, fun j u hj => ?_⟩
    cases j with
    | zero =>
      simp at hj
      subst hj
      rw [Addr.add_zero']
      exact ((below_alloc (Below.refl _ _) _ : Below W1.heap.size W1 _).cell hAb).trans hA1
    | succ j => simp at hj)
  have HFIT := Aside0.mk (show 0 + [Value.int .i64 v].length ≤ (filled v 0 n).length from by simp [filled]; omega)
  have HONE := Aside0.mk (show ∀ u ∈ [Value.int .i64 v], u.oneCell' = true from by simp [Value.oneCell'])
  have HBA := Aside0.mk (below_alloc (Below.refl W1.heap.size W1) (.cells (madeCells #[.int .i64 0] n) 3))
  go_wp2_with ((with_reducible refine wpList_copy_splice rfl (.tmp 31) (.tmp 32) 29 29 rfl 3 Try.underlying29 size3 (some ⟨W1.heap.size, 0, none⟩) (some A) n n 1 c rfl rfl W1.heap.size 0 (filled v 0 n) 3 HM.out [.int .i64 v] ?hn ?hpos ?hfit ?h1 W1.heap.size W1 ?hb (Nat.le_refl _) ?_))
  case hn => exact HN.out
  case hpos => exact fun j u hj => by obtain ⟨_, ad, e, h⟩ := HPOS.out (by simp); cases e; exact h j u hj
  case hfit => exact HFIT.out
  case h1 => exact HONE.out
  case hb => exact HBA.out
  intro w2 hw2 hb2
  rw [filled_first v n h1] at hw2
  have HW2 := Aside0.mk hw2.out
  have HB2 := Aside0.mk (below_then HB1.out HB1.out.size hb2)
  clear hw2 hb2 HM hAb hA1 hmk HN HPOS HFIT HONE HBA
  have GL := Aside0.mk (show W.heap.size ≤ W1.heap.size from HB1.out.size)
  clear HB1
  generalize W1.heap.size = g at *
  go_wp2_with fail
  go_loopg [8] n (fun gg v8 Wr => ∃ j : Nat, 1 ≤ j ∧ j ≤ n ∧ n - j ≤ gg ∧ v8 = .int .i64 j ∧ Aside0 (Wr.heap[g]? = some (.cells (filled v j n).toArray 3 (0, 0))) ∧ Aside0 (Below W.heap.size W Wr))
  case atStart => exact ⟨1, by omega, by omega, by omega, rfl, HW2, HB2⟩
  case round =>
    obtain ⟨j, hj1, hj, hg, rfl, HF, HB⟩ := hrel
    by_cases hlt : j < n
    · have hltz : (j : Int) < (n : Int) := by omega
      go_wp2_with fail
      have HCS := Aside0.mk (show (List.replicate (min j (n - j)) (Value.int .i64 v)).length = Nat.min j (n - j) from by simp)
      have HPOS := Aside0.mk (show ∀ W' : World, W'.heap[g]? = some (.cells (filled v j n).toArray 3 (0, 0)) → 0 < (List.replicate (min j (n - j)) (Value.int .i64 v)).length → (some ⟨g, j, none⟩ : Option Addr) = some ⟨g, j, none⟩ ∧ ∃ ad, (some ⟨g, 0, none⟩ : Option Addr) = some ad ∧ ∀ i u, (List.replicate (min j (n - j)) (Value.int .i64 v))[i]? = some u → W'.cell? (ad.add i) = some u from by
        intro W' hW' _
        refine ⟨rfl, _, rfl, fun i u hi => ?_⟩
        have hi' := List.getElem?_eq_some_iff.1 hi
        obtain ⟨h1, h2⟩ := hi'
        rw [List.length_replicate] at h1
        rw [List.getElem_replicate] at h2
        subst h2
        rw [add_plain, blk_cell hW' i]
        simp [filled, List.getElem?_append, show i < j by omega])
      have HFIT := Aside0.mk (show j + (List.replicate (min j (n - j)) (Value.int .i64 v)).length ≤ (filled v j n).length from by simp [filled]; omega)
      have HONE := Aside0.mk (show ∀ u ∈ List.replicate (min j (n - j)) (Value.int .i64 v), u.oneCell' = true from by intro u hu; rw [List.eq_of_mem_replicate hu]; rfl)
      have hne : ¬ n = j := by omega
      have HGL := Aside0.mk (show W.heap.size ≤ g from GL.out)
      go_region_law (refine step_copy_splice rfl (.tmp 41) (.tmp 44) 29 29 rfl 3 Try.underlying29 size3 (some ⟨g, j, none⟩) (some ⟨g, 0, none⟩) (n - j) (n - j) j n (by simp [Act.eval, Act.put, hne]) (by simp [Act.eval, Act.put]) g j (filled v j n) 3 HF.out (List.replicate (min j (n - j)) (.int .i64 v)) HCS.out (HPOS.out _ HF.out) HFIT.out HONE.out W.heap.size W (below_drew HB.out) HGL.out ?_; intro w4 hg4 hb4)
      have HF4 := Aside0.mk (show w4.heap[g]? = some (.cells (filled v (j + min j (n - j)) n).toArray 3 (0, 0)) from by have := hg4.out; rwa [filled_splice v j _ n (by omega)] at this)
      have HB4 := Aside0.mk hb4
      clear hg4 hb4 HF HB HCS HPOS HFIT HONE HGL hne
      go_wp2_with fail
      go_roundg (n - (j + min j (n - j)))
      case measure => omega
      case rel => exact ⟨j + min j (n - j), by omega, by omega, by omega, by simp [goInt]; exact IntWalk.i64_in _ (by omega), HF4, HB4⟩
    · have hltz : ¬ (j : Int) < (n : Int) := by omega
      obtain rfl : j = n := by omega
      go_wp2_with fail
      go_ret
      exact ⟨g, rfl, HF.out, HB.out⟩
end Go.Proofs.Ytfjmpfecnemoiaa.Q
