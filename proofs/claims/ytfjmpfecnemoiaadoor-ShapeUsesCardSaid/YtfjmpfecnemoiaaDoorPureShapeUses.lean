/-
  The law ShapeUses, over numbers and lists: what the table tells of an operation is what the document's functions tell.
-/
import Derived.Test.YtfjmpfecnemoiaaDoorQx3
namespace Go.Proofs.YtfjmpfecnemoiaaDoor.Pure
open Go.RowKit Go.Proofs.YtfjmpfecnemoiaaDoor.Q Go.Proofs.YtfjmpfecnemoiaaDoorW.PrintWords Go.Proofs.YtfjmpfecnemoiaaDoorW.PrintLast
set_option linter.unusedVariables false

theorem told_all : ∀ n : Fin 256, fescueref06_HasA.f (n.val : Int) = some (rowOf (n.val : Int)).1 ∧ fescueref06_two.f (n.val : Int) = some (rowOf (n.val : Int)).2.1 ∧ fescueref06_HasArgs.f (n.val : Int) = some (rowOf (n.val : Int)).2.2.2.1 ∧ fescueref06_Answers.f (n.val : Int) = some (rowOf (n.val : Int)).2.2.2.2.2 := by decide +kernel
theorem told (a : Int) (h0 : 0 ≤ a) (h1 : a < 256) : fescueref06_HasA.f a = some (rowOf a).1 ∧ fescueref06_two.f a = some (rowOf a).2.1 ∧ fescueref06_HasArgs.f a = some (rowOf a).2.2.2.1 ∧ fescueref06_Answers.f a = some (rowOf a).2.2.2.2.2 := by
  obtain ⟨n, rfl⟩ := Int.eq_ofNat_of_zero_le h0
  exact told_all ⟨n, by omega⟩
theorem rd_at {L : List Int} {i : Nat} (h : i < L.length) : rd L (i : Int) = L[i] := by
  unfold rd
  rw [Int.toNat_natCast, List.getD_eq_getElem?_getD, List.getElem?_eq_getElem h]
  rfl
theorem wrap_nat {n : Nat} (h : n < 4611686018427387904) : wrap64 ((n : Int) + 1) = ((n + 1 : Nat) : Int) := by unfold wrap64; omega
theorem same_l0 (L : List Int) (hb : L.length < 4611686018427387904) (d : Nat) : ∀ (k i : Nat), i + d = L.length → d < k → fescueref02_SameInts.l0 k L L (i : Int) = some true := by
  induction d with
  | zero =>
    intro k i hi hk
    obtain ⟨k, rfl⟩ : ∃ m, k = m + 1 := ⟨k - 1, by omega⟩
    rw [fescueref02_SameInts.l0, if_neg (by omega)]
  | succ d ih =>
    intro k i hi hk
    obtain ⟨k, rfl⟩ : ∃ m, k = m + 1 := ⟨k - 1, by omega⟩
    rw [fescueref02_SameInts.l0, if_pos (by omega), if_pos (by omega), if_pos (by omega), if_pos rfl, wrap_nat (by omega)]
    exact ih k (i + 1) (by omega) (by omega)
theorem same_self (L : List Int) (hb : L.length < 4611686018427387904) (k : Nat) (hk : L.length < k) : fescueref02_SameInts.f k L L = some true := by
  unfold fescueref02_SameInts.f
  rw [if_pos rfl]
  exact same_l0 L hb L.length k 0 (by omega) hk
/-- The registers that an instruction reads. -/
def usesV (h : Has) (a b : Int) (l : List Int) : List Int := (if h.1 = true then [a] else []) ++ ((if h.2.1 = true then [b] else []) ++ (if h.2.2.2.1 = true then l else []))
theorem usesV_len (h : Has) (a b : Int) (l : List Int) : (usesV h a b l).length ≤ l.length + 2 := by
  unfold usesV
  simp only [List.length_append]
  split <;> split <;> split <;> simp <;> omega
theorem uses_some (k : Nat) (hk : 1 ≤ k) (a0 a1 a2 a3 a4 : Int) (l5 l6 : List Int) (h0 : 0 ≤ a0) (h1 : a0 < 256) (hl : l5.length ≤ 100) : shape_Uses.f k a0 a1 a2 a3 a4 l5 l6 = some (usesV (rowOf a0) a2 a3 l5) := by
  obtain ⟨k, rfl⟩ : ∃ m, k = m + 1 := ⟨k - 1, by omega⟩
  unfold shape_Uses.f shape_of.f usesV
  rw [if_pos ⟨h0, h1⟩, Option.bind_some]
  obtain ⟨b1, b2, b3, b4, b5, b6⟩ := rowOf a0
  dsimp only
  cases b1 <;> cases b2 <;> cases b4 <;> simp [shape_Uses.j0] <;> omega
theorem usesR_some (k : Nat) (hk : 1 ≤ k) (a0 a1 a2 a3 a4 : Int) (l5 l6 : List Int) (h0 : 0 ≤ a0) (h1 : a0 < 256) (hl : l5.length ≤ 100) : fescueref06_Uses.f k a0 a1 a2 a3 a4 l5 l6 = some (usesV (rowOf a0) a2 a3 l5) := by
  obtain ⟨k, rfl⟩ : ∃ m, k = m + 1 := ⟨k - 1, by omega⟩
  obtain ⟨t1, t2, t3, _⟩ := told a0 h0 h1
  unfold fescueref06_Uses.f usesV
  rw [t1, Option.bind_some]
  simp only [fescueref06_Uses.j0, t2, t3, Option.bind_some]
  obtain ⟨b1, b2, b3, b4, b5, b6⟩ := rowOf a0
  dsimp only
  cases b1 <;> cases b2 <;> cases b4 <;> simp <;> omega
theorem ends_some (b0 b1 b2 b3 : Int) : ∃ E, shape_Ends.f b0 b1 b2 b3 = some E ∧ fescueref06_Ends.f b0 b1 b2 b3 = some E ∧ E.length ≤ 1 := by
  unfold shape_Ends.f fescueref06_Ends.f
  by_cases h2 : b0 = 2
  · exact ⟨[b1], by rw [if_pos h2], by rw [if_pos h2], by simp⟩
  · by_cases h3 : b0 = 3
    · exact ⟨[b1], by rw [if_neg h2, if_pos h3], by rw [if_neg h2, if_pos h3], by simp⟩
    · exact ⟨[], by rw [if_neg h2, if_neg h3], by rw [if_neg h2, if_neg h3], by simp⟩
theorem su_l0 (a0 a1 a2 a3 a4 : Int) (l5 l6 : List Int) (hl : l5.length ≤ 100) (d : Nat) : ∀ (k i : Nat) (V : List Int), V.length ≤ 102 → i + d = V.length → d + 110 < k → fescuelaw06_ShapeUses.l0 k V true (i : Int) a0 a1 a2 a3 a4 l5 l6 a0 a1 a2 a3 a4 l5 l6 = some true := by
  induction d with
  | zero =>
    intro k i V hV hi hk
    obtain ⟨k, rfl⟩ : ∃ m, k = m + 1 := ⟨k - 1, by omega⟩
    rw [fescuelaw06_ShapeUses.l0, if_neg (by omega), if_pos rfl, same_self l5 (by omega) k (by omega)]
    rfl
  | succ d ih =>
    intro k i V hV hi hk
    obtain ⟨k, rfl⟩ : ∃ m, k = m + 1 := ⟨k - 1, by omega⟩
    rw [fescuelaw06_ShapeUses.l0, if_pos (by omega), if_pos (by omega), wrap_nat (by omega)]
    exact ih k (i + 1) _ (by rw [List.length_set]; exact hV) (by rw [List.length_set]; omega) (by omega)
theorem ShapeUses (a0 a1 a2 a3 a4 : Int) (l5 l6 : List Int) (b0 b1 b2 b3 : Int) (h0 : 0 ≤ a0) (h1 : a0 < 256) : ∃ K, fescuelaw06_ShapeUses.f K a0 a1 a2 a3 a4 l5 l6 b0 b1 b2 b3 = some true := by
  refine ⟨400, ?_⟩
  unfold fescuelaw06_ShapeUses.f
  by_cases hl : l5.length > 100
  · rw [if_pos (by omega)]
  · have hl : l5.length ≤ 100 := by omega
    have hV := usesV_len (rowOf a0) a2 a3 l5
    obtain ⟨E, e1, e2, e3⟩ := ends_some b0 b1 b2 b3
    obtain ⟨_, _, _, t4⟩ := told a0 h0 h1
    rw [if_neg (by omega), Option.bind_some, List.length_nil, if_pos (by omega), Option.bind_some, List.nil_append, uses_some 400 (by omega) a0 a1 a2 a3 a4 l5 l6 h0 h1 hl, Option.bind_some]
    unfold shape_Answers.f shape_of.f
    rw [if_pos ⟨h0, h1⟩, Option.bind_some, Option.bind_some, t4, Option.bind_some, beq_self_eq_true, if_pos rfl, usesR_some 400 (by omega) a0 a1 a2 a3 a4 l5 l6 h0 h1 hl, Option.bind_some, same_self _ (by omega) 400 (by omega), Option.bind_some, if_pos rfl, e1, Option.bind_some, e2, Option.bind_some, same_self E (by omega) 400 (by omega), Option.bind_some, fescuelaw06_ShapeUses.j0]
    exact su_l0 a0 a1 a2 a3 a4 l5 l6 hl (usesV (rowOf a0) a2 a3 l5).length 399 0 _ (by omega) (by omega) (by omega)
end Go.Proofs.YtfjmpfecnemoiaaDoor.Pure
