/-
  What the slow reference of types answers: Plain, mayType, Of, Check, in plain Lean.
-/
import Derived.Test.YtfjmpfecnemoiaaQScal
import Derived.Test.YtfjmpfecnemoiaaQx5
namespace Go.Proofs.Ytfjmpfecnemoiaa.Q
open Go.RowKit Go.Proofs.YtfjmpfecnemoiaaW.PrintWords Go.Proofs.YtfjmpfecnemoiaaW.PrintLast Go.Proofs.YtfjmpfecnemoiaaW.PrintMore
set_option linter.unusedVariables false
set_option linter.unusedSimpArgs false

def plR (t : List S31) (p : Int) : Bool := (decide (0 ≤ p) && decide (p < t.length)) && isScalar (rd_T31 t p)
theorem Plain_ref (t : List S31) (p : Int) : fescueref03_Plain.f t p = some (plR t p) := by
  unfold fescueref03_Plain.f plR isScalar
  by_cases h0 : 0 ≤ p
  · by_cases h1 : p < t.length
    · rw [if_pos h0, if_pos h1, if_pos h0]
      generalize (rd_T31 t p).f0 = f
      by_cases e1 : f = 1
      · subst e1; simp [h0, h1]
      by_cases e2 : f = 2
      · subst e2; simp [h0, h1]
      by_cases e3 : f = 3
      · subst e3; simp [h0, h1]
      rw [if_neg e1, if_neg e2]
      have a : (f == 3) = false := beq_eq_false_iff_ne.2 e3
      have b : (decide (1 ≤ f) && decide (f ≤ 3)) = false := by
        rw [Bool.and_eq_false_iff, decide_eq_false_iff_not, decide_eq_false_iff_not]; omega
      rw [a, b]
      simp
    · rw [if_pos h0, if_neg h1]; simp [h1]
  · rw [if_neg h0]; simp [h0]
theorem drop_at (L : List Int) (j : Nat) (h : j < L.length) : L.drop j = rd L j :: L.drop (j + 1) := by
  rw [rd_at h, ← List.drop_eq_getElem_cons h]
theorem mayFn_l0 (t : List S31) (f0 f1 f2 : Int) (L : List Int) (hL : L.length ≤ 20) (d : Nat) : ∀ (k j : Nat), j + d = L.length → d < k → fescueref03_mayFn.l0 k t (j : Int) f0 f1 f2 L = some ((L.drop j).all (plR t) && (plR t f1 && (decide (L.length ≤ 4) && f2 == 0))) := by
  induction d with
  | zero =>
    intro k j hj hk
    obtain ⟨k, rfl⟩ : ∃ q, k = q + 1 := ⟨k - 1, by omega⟩
    rw [fescueref03_mayFn.l0, if_neg (by omega), Plain_ref, Option.bind_some, List.drop_eq_nil_of_le (by omega)]
    by_cases h4 : L.length ≤ 4
    · rw [if_pos (show (L.length : Int) ≤ 4 by omega)]
      cases plR t f1 <;> simp [h4]
    · rw [if_neg (show ¬ (L.length : Int) ≤ 4 by omega)]
      cases plR t f1 <;> simp [h4]
  | succ d ih =>
    intro k j hj hk
    obtain ⟨k, rfl⟩ : ∃ q, k = q + 1 := ⟨k - 1, by omega⟩
    have hw : wrap64 ((j : Int) + 1) = ((j + 1 : Nat) : Int) := wrap_nat (by omega)
    rw [fescueref03_mayFn.l0, if_pos (by omega), if_pos (by omega), Plain_ref, Option.bind_some, hw, drop_at L j (by omega), List.all_cons]
    cases hp : plR t (rd L j)
    · rfl
    · rw [if_pos rfl, ih k (j + 1) (by omega) (by omega), Bool.true_and]
theorem lower_l0 (i : Int) (L : List Int) (hL : L.length ≤ 20) (d : Nat) : ∀ (k j : Nat), j + d = L.length → d < k → fescueref03_lower.l0 k L i (j : Int) = some (there i (L.drop j)) := by
  induction d with
  | zero =>
    intro k j hj hk
    obtain ⟨k, rfl⟩ : ∃ q, k = q + 1 := ⟨k - 1, by omega⟩
    rw [fescueref03_lower.l0, if_neg (by omega), List.drop_eq_nil_of_le (by omega)]
    rfl
  | succ d ih =>
    intro k j hj hk
    obtain ⟨k, rfl⟩ : ∃ q, k = q + 1 := ⟨k - 1, by omega⟩
    have hw : wrap64 ((j : Int) + 1) = ((j + 1 : Nat) : Int) := wrap_nat (by omega)
    rw [fescueref03_lower.l0, if_pos (by omega), if_pos (by omega), hw, drop_at L j (by omega), ih k (j + 1) (by omega) (by omega)]
    unfold there
    rw [List.all_cons]
    generalize rd L (j : Int) = p
    by_cases a : p < 0
    · rw [if_pos a, decide_eq_false (show ¬ 0 ≤ p by omega)]; rfl
    · rw [if_neg a, decide_eq_true (show 0 ≤ p by omega)]
      by_cases b : p ≥ i
      · rw [if_pos b, decide_eq_false (show ¬ p < i by omega)]; rfl
      · rw [if_neg b, decide_eq_true (show p < i by omega)]; rfl
def mayB (t : List S31) (i : Int) : Bool :=
  if (rd_T31 t i).f0 = 1 then (rd_T31 t i).f1 == 0 && ((rd_T31 t i).f2 == 0 && (((rd_T31 t i).f3.length : Int) == 0))
  else if (rd_T31 t i).f0 = 2 then there t.length [(rd_T31 t i).f1] && ((rd_T31 t i).f2 == 0 && (((rd_T31 t i).f3.length : Int) == 0))
  else if (rd_T31 t i).f0 = 3 then (rd_T31 t i).f3.all (plR t) && (plR t (rd_T31 t i).f1 && (decide ((rd_T31 t i).f3.length ≤ 4) && (rd_T31 t i).f2 == 0))
  else if (rd_T31 t i).f0 = 4 then (rd_T31 t i).f1 == 0 && ((rd_T31 t i).f2 == 0 && (decide (1 ≤ (rd_T31 t i).f3.length) && (decide ((rd_T31 t i).f3.length ≤ 8) && there i (rd_T31 t i).f3)))
  else if (rd_T31 t i).f0 = 5 then there i [(rd_T31 t i).f1] && (decide (1 ≤ (rd_T31 t i).f2) && (decide ((rd_T31 t i).f2 ≤ 16) && (((rd_T31 t i).f3.length : Int) == 0)))
  else false
theorem there1 (m p : Int) : there m [p] = (decide (0 ≤ p) && decide (p < m)) := by unfold there; simp
theorem mayType_ref (t : List S31) (hF : Few t) (i : Int) (h0 : 0 ≤ i) (h1 : i < t.length) (k : Nat) (hk : 24 ≤ k) : fescueref03_mayType.f k t i = some (mayB t i) := by
  have hl : (rd_T31 t i).f3.length ≤ 20 := by obtain ⟨n, rfl⟩ := Int.eq_ofNat_of_zero_le h0; exact hF.2 n (by omega)
  unfold fescueref03_mayType.f mayB
  rw [if_pos h0, if_pos h1]
  generalize rd_T31 t i = x at *
  obtain ⟨f0, f1, f2, f3⟩ := x
  dsimp only at *
  by_cases e1 : f0 = 1
  · subst e1
    rw [if_pos rfl, if_pos rfl]
    by_cases a : f1 = 0 <;> by_cases b : f2 = 0 <;> simp [a, b]
  rw [if_neg e1, if_neg e1]
  by_cases e2 : f0 = 2
  · subst e2
    rw [if_pos rfl, if_pos rfl, there1]
    by_cases a : f1 ≥ 0 <;> by_cases b : f1 < t.length <;> by_cases c : f2 = 0 <;> simp [a, b, c]
  rw [if_neg e2, if_neg e2]
  by_cases e3 : f0 = 3
  · subst e3
    rw [if_pos rfl, if_pos rfl]
    have := mayFn_l0 t 3 f1 f2 f3 hl f3.length k 0 (by omega) (by omega)
    rw [List.drop_zero] at this
    unfold fescueref03_mayFn.f
    rw [show (0 : Int) = ((0 : Nat) : Int) from rfl, this]
    rfl
  rw [if_neg e3, if_neg e3]
  by_cases e4 : f0 = 4
  · subst e4
    rw [if_pos rfl, if_pos rfl]
    have := lower_l0 i f3 hl f3.length k 0 (by omega) (by omega)
    rw [List.drop_zero] at this
    unfold fescueref03_lower.f
    have this' : fescueref03_lower.l0 k f3 i 0 = some (there i f3) := this
    rw [this']
    by_cases a : f1 = 0
    · rw [if_pos a]
      by_cases b : f2 = 0
      · rw [if_pos b]
        by_cases c : 1 ≤ f3.length
        · rw [if_pos (by omega)]
          by_cases d : f3.length ≤ 8
          · rw [if_pos (by omega)]; simp [a, b, c, d]
          · rw [if_neg (by omega)]; simp [a, b, c, d]
        · rw [if_neg (by omega)]; simp [a, b, c]
      · rw [if_neg b]; simp [a, b]
    · rw [if_neg a]; simp [a]
  rw [if_neg e4, if_neg e4]
  by_cases e5 : f0 = 5
  · subst e5
    rw [if_pos rfl, if_pos rfl, there1]
    by_cases a : f1 ≥ 0 <;> by_cases b : f1 < i <;> by_cases c : f2 ≥ 1 <;> by_cases d : f2 ≤ 16 <;> simp [a, b, c, d]
  rw [if_neg e5, if_neg e5]
theorem all_not_any (f : Int → Bool) (L : List Int) : L.all f = !L.any fun n => !f n := by
  induction L with
  | nil => rfl
  | cons p L ih => simp only [List.all_cons, List.any_cons, Bool.not_or, Bool.not_not, ih]
/-- A type may be: its words may, and its cells are at most 32. -/
theorem okT_ref (t : List S31) (i : Int) : okT t i = (mayB t i && (if (rd_T31 t i).f0 = 4 ∨ (rd_T31 t i).f0 = 5 then decide ((Ct t i).length ≤ 32) else true)) := by
  unfold okT mayB plainB
  generalize Ct t i = C
  generalize rd_T31 t i = x at *
  obtain ⟨f0, f1, f2, f3⟩ := x
  dsimp only at *
  by_cases e1 : f0 = 1
  · subst e1; simp
  by_cases e2 : f0 = 2
  · subst e2
    simp
    cases there t.length [f1] <;> cases (f2 == 0) <;> simp
  by_cases e3 : f0 = 3
  · subst e3
    simp
    have hall : ∀ L : List Int, (there t.length L && L.all fun n => isScalar (rd_T31 t n)) = L.all (plR t) := by
      intro L
      unfold there plR
      induction L with
      | nil => rfl
      | cons p L ih =>
        rw [List.all_cons, List.all_cons, List.all_cons, ← ih]
        cases (decide (0 ≤ p) && decide (p < (t.length : Int))) <;> cases isScalar (rd_T31 t p) <;> cases (L.all fun n => decide (0 ≤ n) && decide (n < (t.length : Int))) <;> simp
    have h2 := hall (f1 :: f3)
    rw [List.all_cons, List.all_cons] at h2
    have h3 : (isScalar (rd_T31 t f1) && f3.all fun n => isScalar (rd_T31 t n)) = !(!isScalar (rd_T31 t f1) || f3.any fun n => !isScalar (rd_T31 t n)) := by
      rw [Bool.not_or, Bool.not_not, all_not_any]
    cases a : (f2 == 0) <;> cases b : decide (f3.length ≤ 4) <;> simp_all
    rw [Bool.and_comm]
  by_cases e4 : f0 = 4
  · subst e4
    simp
    cases (f1 == 0) <;> cases (f2 == 0) <;> cases there i f3 <;> simp
    rfl
  by_cases e5 : f0 = 5
  · subst e5
    simp
    cases there i [f1] <;> cases decide (1 ≤ f2) <;> cases decide (f2 ≤ 16) <;> simp
  · simp [e1, e2, e3, e4, e5]
end Go.Proofs.Ytfjmpfecnemoiaa.Q
