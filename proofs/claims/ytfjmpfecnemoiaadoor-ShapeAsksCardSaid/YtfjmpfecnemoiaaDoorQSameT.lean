/-
  The slow comparison of tables, in plain Lean.
-/
import Derived.Test.YtfjmpfecnemoiaaDoorQSame
import Derived.Test.YtfjmpfecnemoiaaDoorQTh
import Derived.Test.YtfjmpfecnemoiaaDoorQx15
namespace Go.Proofs.YtfjmpfecnemoiaaDoor.Q
open Go.RowKit Go.Proofs.YtfjmpfecnemoiaaDoorW.PrintWords Go.Proofs.YtfjmpfecnemoiaaDoorW.PrintLast Go.Proofs.YtfjmpfecnemoiaaDoorW.PrintMore
set_option linter.unusedVariables false
set_option linter.unusedSimpArgs false
theorem sameR2_l1 (t o : List S78) (i : Nat) (hi : i < t.length) (ho_ : i < o.length) (hlen : t[i].f3.length = o[i].f3.length) (hl : t[i].f3.length ≤ 20) (m : Nat) (b : Bool) (ho : ∀ k, m ≤ k → fescueref03_Same.l0 k t o (wrap64 ((i : Int) + 1)) = some b) (d : Nat) :
    ∀ (k j : Nat), j + d = t[i].f3.length → m + d < k → fescueref03_Same.l1 k t o (i : Int) (j : Int) = some ((t[i].f3.drop j == o[i].f3.drop j) && b) := by
  have e1 := rdT_at hi
  have e2 := rdT_at ho_
  induction d with
  | zero =>
    intro k j hj hk
    obtain ⟨k, rfl⟩ : ∃ q, k = q + 1 := ⟨k - 1, by omega⟩
    simp only [fescueref03_Same.l1, e1, e2]
    rw [if_pos (by omega), if_pos (by omega), if_neg (by omega), ho k (by omega), List.drop_eq_nil_of_le (by omega), List.drop_eq_nil_of_le (by omega)]
    rfl
  | succ d ih =>
    intro k j hj hk
    obtain ⟨k, rfl⟩ : ∃ q, k = q + 1 := ⟨k - 1, by omega⟩
    have h1 : j < t[i].f3.length := by omega
    have h2 : j < o[i].f3.length := by omega
    simp only [fescueref03_Same.l1, e1, e2]
    rw [if_pos (by omega), if_pos (by omega), if_pos (by omega), if_pos (by omega), if_pos (by omega), if_pos (by omega), rd_at h1, rd_at h2, wrap_nat (by omega), ih k (j + 1) (by omega) (by omega), List.drop_eq_getElem_cons h1, List.drop_eq_getElem_cons h2]
    by_cases h : t[i].f3[j] = o[i].f3[j]
    · rw [if_pos h, h]
      refine congrArg (fun x => some (x && b)) ?_
      rw [Bool.eq_iff_iff]
      simp only [beq_iff_eq, List.cons.injEq, true_and]
    · rw [if_neg h, show (t[i].f3[j] :: t[i].f3.drop (j + 1) == o[i].f3[j] :: o[i].f3.drop (j + 1)) = false from beq_eq_false_iff_ne.mpr fun e => h (List.cons.inj e).1]
      rfl
theorem sameR2_l0 (t o : List S78) (hF : Few t) (hlen : t.length = o.length) (d : Nat) : ∀ (k i : Nat), i + d = t.length → 30 * d < k → fescueref03_Same.l0 k t o (i : Int) = some (sameL (t.drop i) (o.drop i)) := by
  have h20 := hF.1
  induction d with
  | zero =>
    intro k i hi hk
    obtain ⟨k, rfl⟩ : ∃ q, k = q + 1 := ⟨k - 1, by omega⟩
    rw [fescueref03_Same.l0, if_neg (by omega), List.drop_eq_nil_of_le (by omega), List.drop_eq_nil_of_le (by omega)]
    rfl
  | succ d ih =>
    intro k i hi hk
    obtain ⟨k, rfl⟩ : ∃ q, k = q + 2 := ⟨k - 2, by omega⟩
    have h1 : i < t.length := by omega
    have h2 : i < o.length := by omega
    have hp : t[i].f3.length ≤ 20 := by have := hF.2 i h1; rwa [rdT_at h1] at this
    have hj : ∀ b, fescueref03_Same.j1 (k + 1) t o (i : Int) b = if b = true then some false else fescueref03_Same.l1 k t o (i : Int) 0 := fun b => by rw [fescueref03_Same.j1]
    simp only [fescueref03_Same.l0, rdT_at h1, rdT_at h2, hj]
    rw [if_pos (by omega), if_pos (by omega), if_pos (by omega), List.drop_eq_getElem_cons h1, List.drop_eq_getElem_cons h2, sameL]
    unfold sameT
    by_cases a : t[i].f0 = o[i].f0
    · by_cases b : t[i].f1 = o[i].f1
      · by_cases c : t[i].f2 = o[i].f2
        · rw [if_pos a, if_pos b, if_pos c, beq_iff_eq.mpr a, beq_iff_eq.mpr b, beq_iff_eq.mpr c]
          by_cases e : t[i].f3.length = o[i].f3.length
          · have := sameR2_l1 t o i h1 h2 e hp (30 * d + 1) _ (fun k hk => by rw [wrap_nat (by omega)]; exact ih k (i + 1) (by omega) (by omega)) t[i].f3.length k 0 (by omega) (by omega)
            rw [if_neg (by simp [e])]
            refine this.trans ?_
            rw [List.drop_zero, List.drop_zero]
            rfl
          · rw [if_pos (by simp; omega), show (t[i].f3 == o[i].f3) = false from beq_eq_false_iff_ne.mpr fun h => e (by rw [h])]
            rfl
        · rw [if_pos a, if_pos b, if_neg c, if_pos trivial, beq_eq_false_iff_ne.mpr c, Bool.false_and, Bool.and_false, Bool.and_false, Bool.false_and]
      · rw [if_pos a, if_neg b, if_pos trivial, beq_eq_false_iff_ne.mpr b, Bool.false_and, Bool.and_false, Bool.false_and]
    · rw [if_neg a, if_pos trivial, beq_eq_false_iff_ne.mpr a, Bool.false_and, Bool.false_and]
theorem sameR2_some (t o : List S78) (hF : Few t) (k : Nat) (hk : 640 ≤ k) : fescueref03_Same.f k t o = some (sameL t o) := by
  have h20 := hF.1
  unfold fescueref03_Same.f
  by_cases h : t.length = o.length
  · rw [if_pos (by omega)]
    exact sameR2_l0 t o hF h t.length k 0 (by omega) (by omega)
  · rw [if_neg (by omega), sameL_len t o h]
end Go.Proofs.YtfjmpfecnemoiaaDoor.Q
