/-
  Tables of types, in plain Lean: what types.Check, its slow reference, Twin, Same and Great answer.
-/
import Derived.Test.YtfjmpfecnemoiaaDoorQTh
import Derived.Test.YtfjmpfecnemoiaaDoorQy4
import Derived.Test.YtfjmpfecnemoiaaDoorQy6
import Derived.Test.YtfjmpfecnemoiaaDoorQx7
import Derived.Test.YtfjmpfecnemoiaaDoorQx8
import Derived.Test.YtfjmpfecnemoiaaDoorQx15
namespace Go.Proofs.YtfjmpfecnemoiaaDoor.Q
open Go.RowKit Go.Proofs.YtfjmpfecnemoiaaDoorW.PrintWords Go.Proofs.YtfjmpfecnemoiaaDoorW.PrintLast Go.Proofs.YtfjmpfecnemoiaaDoorW.PrintMore
set_option linter.unusedVariables false
set_option linter.unusedSimpArgs false

def plR (t : List S78) (p : Int) : Bool := (decide (0 ≤ p) && decide (p < t.length)) && isScalar (rd_T78 t p)
theorem Plain_ref (t : List S78) (p : Int) : fescueref03_Plain.f t p = some (plR t p) := by
  unfold fescueref03_Plain.f plR isScalar
  by_cases h0 : 0 ≤ p
  · by_cases h1 : p < t.length
    · rw [if_pos h0, if_pos h1, if_pos h0]
      generalize (rd_T78 t p).f0 = f
      by_cases e1 : f = 1
      · subst e1; simp [h0, h1]
      by_cases e2 : f = 2
      · subst e2; simp [h0, h1]
      by_cases e3 : f = 3
      · subst e3; simp [h0, h1]
      rw [if_neg e1, if_neg e2]
      have a : (f == 3) = false := beq_eq_false_iff_ne.2 e3
      have b : (decide (1 ≤ f) && decide (f ≤ 3)) = false := by
        rw [Bool.and_eq_false_iff, decide_eq_false_iff_not, decide_eq_false_iff_not]; omega
      rw [a, b]
      simp
    · rw [if_pos h0, if_neg h1]; simp [h1]
  · rw [if_neg h0]; simp [h0]
theorem drop_at (L : List Int) (j : Nat) (h : j < L.length) : L.drop j = rd L j :: L.drop (j + 1) := by
  rw [rd_at h, ← List.drop_eq_getElem_cons h]
theorem mayFn_l0 (t : List S78) (f0 f1 f2 : Int) (L : List Int) (hL : L.length ≤ 20) (d : Nat) : ∀ (k j : Nat), j + d = L.length → d < k → fescueref03_mayFn.l0 k t (j : Int) f0 f1 f2 L = some ((L.drop j).all (plR t) && (plR t f1 && (decide (L.length ≤ 4) && f2 == 0))) := by
  induction d with
  | zero =>
    intro k j hj hk
    obtain ⟨k, rfl⟩ : ∃ q, k = q + 1 := ⟨k - 1, by omega⟩
    rw [fescueref03_mayFn.l0, if_neg (by omega), Plain_ref, Option.bind_some, List.drop_eq_nil_of_le (by omega)]
    by_cases h4 : L.length ≤ 4
    · rw [if_pos (show (L.length : Int) ≤ 4 by omega)]
      cases plR t f1 <;> simp [h4]
    · rw [if_neg (show ¬ (L.length : Int) ≤ 4 by omega)]
      cases plR t f1 <;> simp [h4]
  | succ d ih =>
    intro k j hj hk
    obtain ⟨k, rfl⟩ : ∃ q, k = q + 1 := ⟨k - 1, by omega⟩
    have hw : wrap64 ((j : Int) + 1) = ((j + 1 : Nat) : Int) := wrap_nat (by omega)
    rw [fescueref03_mayFn.l0, if_pos (by omega), if_pos (by omega), Plain_ref, Option.bind_some, hw, drop_at L j (by omega), List.all_cons]
    cases hp : plR t (rd L j)
    · rfl
    · rw [if_pos rfl, ih k (j + 1) (by omega) (by omega), Bool.true_and]
theorem lower_l0 (i : Int) (L : List Int) (hL : L.length ≤ 20) (d : Nat) : ∀ (k j : Nat), j + d = L.length → d < k → fescueref03_lower.l0 k L i (j : Int) = some (there i (L.drop j)) := by
  induction d with
  | zero =>
    intro k j hj hk
    obtain ⟨k, rfl⟩ : ∃ q, k = q + 1 := ⟨k - 1, by omega⟩
    rw [fescueref03_lower.l0, if_neg (by omega), List.drop_eq_nil_of_le (by omega)]
    rfl
  | succ d ih =>
    intro k j hj hk
    obtain ⟨k, rfl⟩ : ∃ q, k = q + 1 := ⟨k - 1, by omega⟩
    have hw : wrap64 ((j : Int) + 1) = ((j + 1 : Nat) : Int) := wrap_nat (by omega)
    rw [fescueref03_lower.l0, if_pos (by omega), if_pos (by omega), hw, drop_at L j (by omega), ih k (j + 1) (by omega) (by omega)]
    unfold there
    rw [List.all_cons]
    generalize rd L (j : Int) = p
    by_cases a : p < 0
    · rw [if_pos a, decide_eq_false (show ¬ 0 ≤ p by omega)]; rfl
    · rw [if_neg a, decide_eq_true (show 0 ≤ p by omega)]
      by_cases b : p ≥ i
      · rw [if_pos b, decide_eq_false (show ¬ p < i by omega)]; rfl
      · rw [if_neg b, decide_eq_true (show p < i by omega)]; rfl
def mayB (t : List S78) (i : Int) : Bool :=
  if (rd_T78 t i).f0 = 1 then (rd_T78 t i).f1 == 0 && ((rd_T78 t i).f2 == 0 && (((rd_T78 t i).f3.length : Int) == 0))
  else if (rd_T78 t i).f0 = 2 then there t.length [(rd_T78 t i).f1] && ((rd_T78 t i).f2 == 0 && (((rd_T78 t i).f3.length : Int) == 0))
  else if (rd_T78 t i).f0 = 3 then (rd_T78 t i).f3.all (plR t) && (plR t (rd_T78 t i).f1 && (decide ((rd_T78 t i).f3.length ≤ 4) && (rd_T78 t i).f2 == 0))
  else if (rd_T78 t i).f0 = 4 then (rd_T78 t i).f1 == 0 && ((rd_T78 t i).f2 == 0 && (decide (1 ≤ (rd_T78 t i).f3.length) && (decide ((rd_T78 t i).f3.length ≤ 8) && there i (rd_T78 t i).f3)))
  else if (rd_T78 t i).f0 = 5 then there i [(rd_T78 t i).f1] && (decide (1 ≤ (rd_T78 t i).f2) && (decide ((rd_T78 t i).f2 ≤ 16) && (((rd_T78 t i).f3.length : Int) == 0)))
  else false
theorem there1 (m p : Int) : there m [p] = (decide (0 ≤ p) && decide (p < m)) := by unfold there; simp
theorem mayType_ref (t : List S78) (hF : Few t) (i : Int) (h0 : 0 ≤ i) (h1 : i < t.length) (k : Nat) (hk : 24 ≤ k) : fescueref03_mayType.f k t i = some (mayB t i) := by
  have hl : (rd_T78 t i).f3.length ≤ 20 := by obtain ⟨n, rfl⟩ := Int.eq_ofNat_of_zero_le h0; exact hF.2 n (by omega)
  unfold fescueref03_mayType.f mayB
  rw [if_pos h0, if_pos h1]
  generalize rd_T78 t i = x at *
  obtain ⟨f0, f1, f2, f3⟩ := x
  dsimp only at *
  by_cases e1 : f0 = 1
  · subst e1
    rw [if_pos rfl, if_pos rfl]
    by_cases a : f1 = 0 <;> by_cases b : f2 = 0 <;> simp [a, b]
  rw [if_neg e1, if_neg e1]
  by_cases e2 : f0 = 2
  · subst e2
    rw [if_pos rfl, if_pos rfl, there1]
    by_cases a : f1 ≥ 0 <;> by_cases b : f1 < t.length <;> by_cases c : f2 = 0 <;> simp [a, b, c]
  rw [if_neg e2, if_neg e2]
  by_cases e3 : f0 = 3
  · subst e3
    rw [if_pos rfl, if_pos rfl]
    have := mayFn_l0 t 3 f1 f2 f3 hl f3.length k 0 (by omega) (by omega)
    rw [List.drop_zero] at this
    unfold fescueref03_mayFn.f
    rw [show (0 : Int) = ((0 : Nat) : Int) from rfl, this]
    rfl
  rw [if_neg e3, if_neg e3]
  by_cases e4 : f0 = 4
  · subst e4
    rw [if_pos rfl, if_pos rfl]
    have := lower_l0 i f3 hl f3.length k 0 (by omega) (by omega)
    rw [List.drop_zero] at this
    unfold fescueref03_lower.f
    have this' : fescueref03_lower.l0 k f3 i 0 = some (there i f3) := this
    rw [this']
    by_cases a : f1 = 0
    · rw [if_pos a]
      by_cases b : f2 = 0
      · rw [if_pos b]
        by_cases c : 1 ≤ f3.length
        · rw [if_pos (by omega)]
          by_cases d : f3.length ≤ 8
          · rw [if_pos (by omega)]; simp [a, b, c, d]
          · rw [if_neg (by omega)]; simp [a, b, c, d]
        · rw [if_neg (by omega)]; simp [a, b, c]
      · rw [if_neg b]; simp [a, b]
    · rw [if_neg a]; simp [a]
  rw [if_neg e4, if_neg e4]
  by_cases e5 : f0 = 5
  · subst e5
    rw [if_pos rfl, if_pos rfl, there1]
    by_cases a : f1 ≥ 0 <;> by_cases b : f1 < i <;> by_cases c : f2 ≥ 1 <;> by_cases d : f2 ≤ 16 <;> simp [a, b, c, d]
  rw [if_neg e5, if_neg e5]
theorem all_not_anyI (f : Int → Bool) (L : List Int) : L.all f = !L.any fun n => !f n := by
  induction L with
  | nil => rfl
  | cons p L ih => simp only [List.all_cons, List.any_cons, Bool.not_or, Bool.not_not, ih]
/-- A type may be: its words may, and its cells are at most 32. -/
theorem okT_ref (t : List S78) (i : Int) : okT t i = (mayB t i && (if (rd_T78 t i).f0 = 4 ∨ (rd_T78 t i).f0 = 5 then decide ((Ct t i).length ≤ 32) else true)) := by
  unfold okT mayB plainB
  generalize Ct t i = C
  generalize rd_T78 t i = x at *
  obtain ⟨f0, f1, f2, f3⟩ := x
  dsimp only at *
  by_cases e1 : f0 = 1
  · subst e1; simp
  by_cases e2 : f0 = 2
  · subst e2
    simp
    cases there t.length [f1] <;> cases (f2 == 0) <;> simp
  by_cases e3 : f0 = 3
  · subst e3
    simp
    have hall : ∀ L : List Int, (there t.length L && L.all fun n => isScalar (rd_T78 t n)) = L.all (plR t) := by
      intro L
      unfold there plR
      induction L with
      | nil => rfl
      | cons p L ih =>
        rw [List.all_cons, List.all_cons, List.all_cons, ← ih]
        cases (decide (0 ≤ p) && decide (p < (t.length : Int))) <;> cases isScalar (rd_T78 t p) <;> cases (L.all fun n => decide (0 ≤ n) && decide (n < (t.length : Int))) <;> simp
    have h2 := hall (f1 :: f3)
    rw [List.all_cons, List.all_cons] at h2
    have h3 : (isScalar (rd_T78 t f1) && f3.all fun n => isScalar (rd_T78 t n)) = !(!isScalar (rd_T78 t f1) || f3.any fun n => !isScalar (rd_T78 t n)) := by
      rw [Bool.not_or, Bool.not_not, all_not_anyI]
    cases a : (f2 == 0) <;> cases b : decide (f3.length ≤ 4) <;> simp_all
    rw [Bool.and_comm]
  by_cases e4 : f0 = 4
  · subst e4
    simp
    cases (f1 == 0) <;> cases (f2 == 0) <;> cases there i f3 <;> simp
    rfl
  by_cases e5 : f0 = 5
  · subst e5
    simp
    cases there i [f1] <;> cases decide (1 ≤ f2) <;> cases decide (f2 ≤ 16) <;> simp
  · simp [e1, e2, e3, e4, e5]
theorem of_l0 (t : List S78) (f0 f1 f2 : Int) (L : List Int) (hL : L.length ≤ 20) (m : Nat) (hp : ∀ p ∈ L, (Ct t p).length ≤ 32 ∧ ∀ k, m ≤ k → fescueref03_Of.f k t p = some (Ct t p)) (d : Nat) : ∀ (k j : Nat) (acc : List Int), j + d = L.length → m + d < k → acc.length ≤ 32 * j →
    fescueref03_Of.l0 k t acc (j : Int) f0 f1 f2 L = some (acc ++ (L.drop j).flatMap (Ct t)) := by
  induction d with
  | zero =>
    intro k j acc hj hk ha
    obtain ⟨k, rfl⟩ : ∃ q, k = q + 1 := ⟨k - 1, by omega⟩
    rw [fescueref03_Of.l0, if_neg (by omega), List.drop_eq_nil_of_le (by omega)]
    simp
  | succ d ih =>
    intro k j acc hj hk ha
    obtain ⟨k, rfl⟩ : ∃ q, k = q + 1 := ⟨k - 1, by omega⟩
    have hw : wrap64 ((j : Int) + 1) = ((j + 1 : Nat) : Int) := wrap_nat (by omega)
    obtain ⟨h32, ho⟩ := hp (rd L j) (by rw [rd_at (by omega)]; exact List.getElem_mem _)
    rw [fescueref03_Of.l0, if_pos (by omega), if_pos (by omega), ho k (by omega), Option.bind_some, if_pos (by omega), hw, ih k (j + 1) _ (by omega) (by omega) (by rw [List.length_append]; omega), drop_at L j (by omega), List.flatMap_cons, List.append_assoc]
theorem of_l1 (t : List S78) (f0 f1 : Int) (f2 : Nat) (L : List Int) (h2 : f2 ≤ 16) (m : Nat) (h32 : (Ct t f1).length ≤ 32) (ho : ∀ k, m ≤ k → fescueref03_Of.f k t f1 = some (Ct t f1)) (d : Nat) : ∀ (k j : Nat) (acc : List Int), j + d = f2 → m + d < k → acc.length ≤ 32 * j →
    fescueref03_Of.l1 k t acc (j : Int) f0 f1 (f2 : Int) L = some (acc ++ (List.replicate d f1).flatMap (Ct t)) := by
  induction d with
  | zero =>
    intro k j acc hj hk ha
    obtain ⟨k, rfl⟩ : ∃ q, k = q + 1 := ⟨k - 1, by omega⟩
    rw [fescueref03_Of.l1, if_neg (by omega)]
    simp
  | succ d ih =>
    intro k j acc hj hk ha
    obtain ⟨k, rfl⟩ : ∃ q, k = q + 1 := ⟨k - 1, by omega⟩
    have hw : wrap64 ((j : Int) + 1) = ((j + 1 : Nat) : Int) := wrap_nat (by omega)
    rw [fescueref03_Of.l1, if_pos (by omega), ho k (by omega), Option.bind_some, if_pos (by omega), hw, ih k (j + 1) _ (by omega) (by omega) (by rw [List.length_append]; omega), List.replicate_succ, List.flatMap_cons, List.append_assoc]
theorem rd_few {t : List S78} (hF : Few t) {i : Int} (h0 : 0 ≤ i) (h1 : i < t.length) : (rd_T78 t i).f3.length ≤ 20 := by
  obtain ⟨n, rfl⟩ := Int.eq_ofNat_of_zero_le h0
  exact hF.2 n (by omega)
/-- One step: a type whose parts are below and answer. -/
theorem of_step (t : List S78) (hF : Few t) (i : Int) (h0 : 0 ≤ i) (h1 : i < t.length) (hC : Ct t i = if (rd_T78 t i).f0 = 4 ∨ (rd_T78 t i).f0 = 5 then (partsOf (rd_T78 t i)).flatMap (Ct t) else [i])
    (h5 : (rd_T78 t i).f0 = 5 → 1 ≤ (rd_T78 t i).f2 ∧ (rd_T78 t i).f2 ≤ 16) (m : Nat) (hp : ∀ p ∈ partsOf (rd_T78 t i), (Ct t p).length ≤ 32 ∧ ∀ k, m ≤ k → fescueref03_Of.f k t p = some (Ct t p)) (k : Nat) (hk : m + 24 ≤ k) : fescueref03_Of.f k t i = some (Ct t i) := by
  have hl := rd_few hF h0 h1
  obtain ⟨k, rfl⟩ : ∃ q, k = q + 1 := ⟨k - 1, by omega⟩
  rw [fescueref03_Of.f, if_pos h0, if_pos h1, hC]
  by_cases e4 : (rd_T78 t i).f0 = 4
  · have hL : partsOf (rd_T78 t i) = (rd_T78 t i).f3 := by rw [partsOf, if_pos e4]
    rw [hL] at hp
    rw [if_pos e4, if_pos (Or.inl e4), hL]
    have := of_l0 t (rd_T78 t i).f0 (rd_T78 t i).f1 (rd_T78 t i).f2 (rd_T78 t i).f3 hl m hp (rd_T78 t i).f3.length k 0 [] (by omega) (by omega) (by simp)
    rw [List.drop_zero, List.nil_append] at this
    exact this
  · rw [if_neg e4]
    by_cases e5 : (rd_T78 t i).f0 = 5
    · obtain ⟨b1, b2⟩ := h5 e5
      have hL : partsOf (rd_T78 t i) = List.replicate (rd_T78 t i).f2.toNat (rd_T78 t i).f1 := by rw [partsOf, if_neg e4, if_pos e5]
      rw [hL] at hp
      rw [if_pos e5, if_pos (Or.inr e5), hL]
      obtain ⟨q32, qo⟩ := hp (rd_T78 t i).f1 (List.mem_replicate.2 ⟨by omega, rfl⟩)
      obtain ⟨n, hn⟩ := Int.eq_ofNat_of_zero_le (show 0 ≤ (rd_T78 t i).f2 by omega)
      have := of_l1 t (rd_T78 t i).f0 (rd_T78 t i).f1 n (rd_T78 t i).f3 (by omega) m q32 qo n k 0 [] (by omega) (by omega) (by simp)
      rw [List.nil_append] at this
      rw [hn, Int.toNat_natCast]
      exact this
    · rw [if_neg e5, if_neg (by simp [e4, e5])]
theorem Of_to (t : List S78) (hF : Few t) (N : Int) (hN : N ≤ t.length) (hO : OkTo t N) (n : Nat) : ∀ i : Int, 0 ≤ i → i < N → i < n → ∀ k, 24 * n ≤ k → fescueref03_Of.f k t i = some (Ct t i) := by
  induction n with
  | zero => intro i h0 _ h1; omega
  | succ n ih =>
    intro i h0 h1 hi k hk
    refine of_step t hF i h0 (by omega) (Ct_parts t N hO.lows hN i h0 h1) (fun e => okT_many (hO i h0 h1) e) (24 * n) (fun p hp => ?_) k (by omega)
    have hl := hO.lows i h0 h1 p hp
    exact ⟨okT_size (hO p hl.1 (by omega)) hl.1 (by omega) (fun j a b => hO.lows j a (by omega)), fun k hk => ih p hl.1 (by omega) (by omega) k hk⟩

theorem mayB_low {t : List S78} {i : Int} (h : mayB t i = true) : Low t i ∧ ((rd_T78 t i).f0 = 5 → 1 ≤ (rd_T78 t i).f2 ∧ (rd_T78 t i).f2 ≤ 16) := by
  unfold mayB at h
  unfold Low partsOf
  by_cases h4 : (rd_T78 t i).f0 = 4
  · simp [h4] at h
    rw [if_pos h4]
    exact ⟨there_iff.1 h.2.2.2.2, fun e => absurd (h4.symm.trans e) (by decide)⟩
  · rw [if_neg h4]
    by_cases h5 : (rd_T78 t i).f0 = 5
    · simp [h5] at h
      rw [if_pos h5]
      refine ⟨fun p hp => ?_, fun _ => ⟨h.2.1, h.2.2.1⟩⟩
      obtain rfl := List.eq_of_mem_replicate hp
      exact there_iff.1 h.1 _ (by simp)
    · rw [if_neg h5]
      exact ⟨fun p hp => (by cases hp), fun e => absurd e h5⟩
theorem checkR_l0 (t : List S78) (hF : Few t) (d : Nat) : ∀ (k j : Nat), j + d = t.length → d + 600 < k → OkTo t j → fescueref03_Check.l0 k t (j : Int) = some (if allOk t j d then 0 else 30) := by
  induction d with
  | zero =>
    intro k j hj hk hO
    obtain ⟨k, rfl⟩ : ∃ m, k = m + 1 := ⟨k - 1, by omega⟩
    rw [fescueref03_Check.l0, if_neg (by omega)]
    rfl
  | succ d ih =>
    intro k j hj hk hO
    obtain ⟨k, rfl⟩ : ∃ m, k = m + 1 := ⟨k - 1, by omega⟩
    have hF1 := hF.1
    have hw : wrap64 ((j : Int) + 1) = ((j + 1 : Nat) : Int) := wrap_nat (by omega)
    have hj1 : (j : Int) < t.length := by omega
    have hall : allOk t j (d + 1) = (okT t j && allOk t (j + 1) d) := by unfold allOk; rw [List.range'_succ, List.all_cons]
    have hok := okT_ref t j
    rw [fescueref03_Check.l0, if_pos hj1, mayType_ref t hF j (Int.natCast_nonneg _) hj1 k (by omega), Option.bind_some, hall]
    cases hm : mayB t j
    · rw [hm, Bool.false_and] at hok
      rw [hok, if_neg (by simp)]
      simp
    · rw [hm, Bool.true_and] at hok
      obtain ⟨hlow, h5⟩ := mayB_low hm
      have hLows : Lows t ((j : Int) + 1) := fun i a b => by
        by_cases e : i = j
        · subst e; exact hlow
        · exact hO.lows i a (by omega)
      have hCt := Ct_parts t ((j : Int) + 1) hLows (by omega) j (Int.natCast_nonneg _) (by omega)
      have hof := of_step t hF j (Int.natCast_nonneg _) hj1 hCt h5 (24 * 20) (fun p hp => by
        have hl := hlow p hp
        refine ⟨okT_size (hO p hl.1 hl.2) hl.1 (by omega) (fun i a b => hO.lows i a (by omega)), fun k' hk' => Of_to t hF j (by omega) hO 20 p hl.1 hl.2 (by omega) k' (by omega)⟩) k (by omega)
      rw [if_pos rfl, hof, Option.bind_some]
      by_cases h32 : (Ct t j).length ≤ 32
      · have ho : okT t j = true := by rw [hok, decide_eq_true h32]; split <;> rfl
        rw [if_neg (by omega), hw, ih k (j + 1) (by omega) (by omega) (fun i h0 h1 => ?_), ho, Bool.true_and]
        by_cases e : i = j
        · subst e; exact ho
        · exact hO i h0 (by omega)
      · have hk4 : (rd_T78 t j).f0 = 4 ∨ (rd_T78 t j).f0 = 5 := by
          by_cases e : (rd_T78 t j).f0 = 4 ∨ (rd_T78 t j).f0 = 5
          · exact e
          · rw [if_neg e] at hCt
            rw [hCt] at h32
            simp at h32
        have ho : okT t j = false := by rw [hok, if_pos hk4, decide_eq_false h32]
        rw [if_pos (by omega), ho]
        simp
theorem CheckR_some (t : List S78) (hF : Few t) (k : Nat) (hk : 640 ≤ k) : fescueref03_Check.f k t = some (chk t) := by
  unfold fescueref03_Check.f chk
  by_cases h : 16 < t.length
  · rw [if_pos (by omega), if_pos h]
  · rw [if_neg (by omega), if_neg h]
    exact checkR_l0 t hF t.length k 0 (by omega) (by have := hF.1; omega) (fun i h0 h1 => by omega)

theorem rd31_at {t : List S78} {j : Nat} (h : j < t.length) : rd_T78 t (j : Int) = t[j] := by
  unfold rd_T78
  rw [Int.toNat_natCast, List.getD_eq_getElem?_getD, List.getElem?_eq_getElem h]
  rfl
theorem twin_l0 (t : List S78) (hF : Few t) (d : Nat) : ∀ (k j : Nat) (acc : List S78), j + d = t.length → d < k → acc.length = j → fescueref03_Twin.l0 k t acc (j : Int) = some (acc ++ t.drop j) := by
  have h20 := hF.1
  induction d with
  | zero =>
    intro k j acc hj hk ha
    obtain ⟨k, rfl⟩ : ∃ m, k = m + 1 := ⟨k - 1, by omega⟩
    rw [fescueref03_Twin.l0, if_neg (by omega), List.drop_eq_nil_of_le (by omega)]
    simp
  | succ d ih =>
    intro k j acc hj hk ha
    obtain ⟨k, rfl⟩ : ∃ m, k = m + 1 := ⟨k - 1, by omega⟩
    have hw : wrap64 ((j : Int) + 1) = ((j + 1 : Nat) : Int) := wrap_nat (by omega)
    have hl := hF.2 j (by omega)
    rw [fescueref03_Twin.l0, if_pos (by omega), if_pos (by omega), Option.bind_some, List.length_nil, if_pos (by omega), if_pos (by omega), hw, List.nil_append, ih k (j + 1) _ (by omega) (by omega) (by simp [ha]), List.drop_eq_getElem_cons (show j < t.length by omega), rd31_at (show j < t.length by omega), List.append_assoc]
    rfl
theorem Twin_some (t : List S78) (hF : Few t) (k : Nat) (hk : 24 ≤ k) : fescueref03_Twin.f k t = some t := by
  unfold fescueref03_Twin.f
  have := twin_l0 t hF t.length k 0 [] (by omega) (by have := hF.1; omega) rfl
  rw [List.drop_zero, List.nil_append] at this
  exact this
theorem sameR_l1 (t : List S78) (i : Nat) (hi : i < t.length) (hl : (rd_T78 t i).f3.length ≤ 20) (m : Nat) (ho : ∀ k, m ≤ k → fescueref03_Same.l0 k t t (wrap64 ((i : Int) + 1)) = some true) (d : Nat) : ∀ (k j : Nat), j + d = (rd_T78 t i).f3.length → m + d < k → fescueref03_Same.l1 k t t (i : Int) (j : Int) = some true := by
  induction d with
  | zero =>
    intro k j hj hk
    obtain ⟨k, rfl⟩ : ∃ q, k = q + 1 := ⟨k - 1, by omega⟩
    rw [fescueref03_Same.l1, if_pos (by omega), if_pos (by omega), if_neg (by omega)]
    exact ho k (by omega)
  | succ d ih =>
    intro k j hj hk
    obtain ⟨k, rfl⟩ : ∃ q, k = q + 1 := ⟨k - 1, by omega⟩
    have hw : wrap64 ((j : Int) + 1) = ((j + 1 : Nat) : Int) := wrap_nat (by omega)
    rw [fescueref03_Same.l1, if_pos (by omega), if_pos (by omega), if_pos (by omega), if_pos (by omega), if_pos (by omega), if_pos (by omega), if_pos rfl, hw]
    exact ih k (j + 1) (by omega) (by omega)
theorem sameR_l0 (t : List S78) (hF : Few t) (d : Nat) : ∀ (k j : Nat), j + d = t.length → 24 * d < k → fescueref03_Same.l0 k t t (j : Int) = some true := by
  have h20 := hF.1
  induction d with
  | zero =>
    intro k j hj hk
    obtain ⟨k, rfl⟩ : ∃ q, k = q + 1 := ⟨k - 1, by omega⟩
    rw [fescueref03_Same.l0, if_neg (by omega)]
  | succ d ih =>
    intro k j hj hk
    obtain ⟨k, rfl⟩ : ∃ q, k = q + 2 := ⟨k - 2, by omega⟩
    have hw : wrap64 ((j : Int) + 1) = ((j + 1 : Nat) : Int) := wrap_nat (by omega)
    have hl := hF.2 j (by omega)
    rw [fescueref03_Same.l0, if_pos (by omega), if_pos (by omega), if_pos (by omega), if_pos rfl, if_pos rfl, if_pos rfl, fescueref03_Same.j1, if_neg (by simp)]
    exact sameR_l1 t j (by omega) hl (24 * d + 1) (fun k hk => by rw [hw]; exact ih k (j + 1) (by omega) (by omega)) (rd_T78 t j).f3.length k 0 (by omega) (by omega)
theorem SameR_self (t : List S78) (hF : Few t) (k : Nat) (hk : 640 ≤ k) : fescueref03_Same.f k t t = some true := by
  unfold fescueref03_Same.f
  rw [if_pos rfl]
  exact sameR_l0 t hF t.length k 0 (by omega) (by have := hF.1; omega)
end Go.Proofs.YtfjmpfecnemoiaaDoor.Q
