/-
  Cells are scalars of lower numbers; types.Scalar; in plain Lean.
-/
import Derived.Test.YtfjmpfecnemoiaaQTheory
namespace Go.Proofs.Ytfjmpfecnemoiaa.Q
open Go.RowKit Go.Proofs.YtfjmpfecnemoiaaW.PrintWords Go.Proofs.YtfjmpfecnemoiaaW.PrintLast Go.Proofs.YtfjmpfecnemoiaaW.PrintMore
set_option linter.unusedVariables false
set_option linter.unusedSimpArgs false

def scalV (t : List S31) (i : Int) : Bool × Int := if askV t i = 0 then (isScalar (rd_T31 t i), 0) else (false, askV t i)
theorem Scalar_some (t : List S31) (hF : Few t) (i : Int) (k : Nat) (hk : 24 ≤ k) : types_Scalar.f k t i = some (scalV t i) := by
  unfold types_Scalar.f scalV
  rw [asked_some t hF i k hk, Option.bind_some]
  by_cases h : askV t i = 0
  · obtain ⟨hc, h0, h1⟩ := askV_ok h
    rw [if_pos h, if_pos h, if_pos h0, if_pos h1, scalar_some]
    rfl
  · rw [if_neg h, if_neg h]

theorem okT_kind {t : List S31} {i : Int} (h : okT t i = true) : (isScalar (rd_T31 t i) = true ∧ ¬ ((rd_T31 t i).f0 = 4 ∨ (rd_T31 t i).f0 = 5)) ∨ (isScalar (rd_T31 t i) = false ∧ ((rd_T31 t i).f0 = 4 ∨ (rd_T31 t i).f0 = 5) ∧ partsOf (rd_T31 t i) ≠ []) := by
  unfold okT at h
  unfold isScalar
  by_cases h1 : (rd_T31 t i).f0 = 1
  · left; simp [h1]
  by_cases h2 : (rd_T31 t i).f0 = 2
  · left; simp [h2]
  by_cases h3 : (rd_T31 t i).f0 = 3
  · left; simp [h3]
  by_cases h4 : (rd_T31 t i).f0 = 4
  · right
    simp [h4] at h
    refine ⟨by simp [h4], Or.inl h4, fun e => ?_⟩
    rw [partsOf, if_pos h4] at e
    rw [e] at h
    simp at h
  by_cases h5 : (rd_T31 t i).f0 = 5
  · right
    simp [h5] at h
    refine ⟨by simp [h5], Or.inr h5, fun e => ?_⟩
    rw [partsOf, if_neg h4, if_pos h5] at e
    have := congrArg List.length e
    simp at this
    omega
  · simp [h1, h2, h3, h4, h5] at h

theorem Ct_mem {t : List S31} (h : chk t = 0) (n : Nat) : ∀ i : Int, 0 ≤ i → i < t.length → i < n → ∀ c ∈ Ct t i, 0 ≤ c ∧ c < t.length ∧ isScalar (rd_T31 t c) = true ∧ (isScalar (rd_T31 t i) = false → c < i) ∧ c ≤ i := by
  induction n with
  | zero => intro i h0 _ h1; omega
  | succ n ih =>
    intro i h0 h1 hn c hc
    have hO := (chk_ok h).2 i h0 h1
    rw [Ct_of h h0 h1] at hc
    rcases okT_kind hO with ⟨hs, hk⟩ | ⟨hs, hk, _⟩
    · rw [if_neg hk] at hc
      obtain rfl := List.mem_singleton.1 hc
      exact ⟨h0, h1, hs, fun h => by (rw [hs] at h; cases h), Int.le_refl _⟩
    · rw [if_pos hk] at hc
      obtain ⟨p, hp, hcp⟩ := List.mem_flatMap.1 hc
      have hl := (chk_ok h).2.lows i h0 h1 p hp
      obtain ⟨a1, a2, a3, _, a5⟩ := ih p hl.1 (by omega) (by omega) c hcp
      exact ⟨a1, a2, a3, fun _ => by omega, by omega⟩
theorem Ct_pos {t : List S31} (h : chk t = 0) (n : Nat) : ∀ i : Int, 0 ≤ i → i < t.length → i < n → 1 ≤ (Ct t i).length := by
  induction n with
  | zero => intro i h0 _ h1; omega
  | succ n ih =>
    intro i h0 h1 hn
    have hO := (chk_ok h).2 i h0 h1
    rw [Ct_of h h0 h1]
    rcases okT_kind hO with ⟨hs, hk⟩ | ⟨hs, hk, hne⟩
    · rw [if_neg hk]; simp
    · rw [if_pos hk]
      obtain ⟨p, ps, hp⟩ := List.exists_cons_of_ne_nil hne
      have hl := (chk_ok h).2.lows i h0 h1 p (by rw [hp]; exact List.mem_cons_self ..)
      have := ih p hl.1 (by omega) (by omega)
      rw [hp, List.flatMap_cons, List.length_append]
      omega
end Go.Proofs.Ytfjmpfecnemoiaa.Q
