/-
  Programs as data, in plain Lean: the slow reference tells of instructions, ends and functions what the program tells.
-/
import Derived.Test.YtfjmpfecnemoiaaDoorQSa
import Derived.Test.YtfjmpfecnemoiaaDoorQThR
import Derived.Test.YtfjmpfecnemoiaaDoorQx9
import Derived.Test.YtfjmpfecnemoiaaDoorQx10
namespace Go.Proofs.YtfjmpfecnemoiaaDoor.Q
open Go.RowKit Go.Proofs.YtfjmpfecnemoiaaDoorW.PrintWords Go.Proofs.YtfjmpfecnemoiaaDoorW.PrintLast Go.Proofs.YtfjmpfecnemoiaaDoorW.PrintMore
set_option linter.unusedVariables false
set_option linter.unusedSimpArgs false
set_option linter.unusedSectionVars false

theorem belowR_l0 (m : Int) (L : List Int) (hL : L.length ≤ 60) (d : Nat) : ∀ (k j : Nat), j + d = L.length → d < k → fescueref06_below.l0 k L m (j : Int) = some (there m (L.drop j)) := by
  induction d with
  | zero =>
    intro k j hj hk
    obtain ⟨k, rfl⟩ : ∃ q, k = q + 1 := ⟨k - 1, by omega⟩
    rw [fescueref06_below.l0, if_neg (by omega), List.drop_eq_nil_of_le (by omega)]
    rfl
  | succ d ih =>
    intro k j hj hk
    obtain ⟨k, rfl⟩ : ∃ q, k = q + 1 := ⟨k - 1, by omega⟩
    have hlt : j < L.length := by omega
    have hd : there m (L.drop j) = ((decide (0 ≤ L[j]) && decide (L[j] < m)) && there m (L.drop (j + 1))) := by
      rw [List.drop_eq_getElem_cons hlt]
      rfl
    rw [fescueref06_below.l0, if_pos (by omega), if_pos (by omega), rd_at hlt, hd]
    by_cases h0 : L[j] < 0
    · rw [if_pos h0, decide_eq_false (show ¬ 0 ≤ L[j] by omega)]
      rfl
    · by_cases h1 : L[j] ≥ m
      · rw [if_neg h0, if_pos h1, decide_eq_false (show ¬ L[j] < m by omega), Bool.and_false]
        rfl
      · rw [if_neg h0, if_neg h1, wrapS (by omega), ih k (j + 1) (by omega) (by omega), decide_eq_true (show 0 ≤ L[j] by omega), decide_eq_true (show L[j] < m by omega)]
        rfl
theorem belowR_some (m : Int) (L : List Int) (hL : L.length ≤ 60) (k : Nat) (hk : 61 ≤ k) : fescueref06_below.f k L m = some (there m L) := by
  unfold fescueref06_below.f
  exact belowR_l0 m L hL L.length k 0 (by omega) (by omega)
theorem there_append (m : Int) (L M : List Int) : there m (L ++ M) = (there m L && there m M) := by unfold there; rw [List.all_append]
theorem there_one (m p : Int) : there m [p] = belB p m := by unfold there belB; simp
theorem there_two (m p q : Int) : there m [p, q] = (belB p m && belB q m) := by unfold there belB; simp
theorem there_cons (m p : Int) (L : List Int) : there m (p :: L) = (belB p m && there m L) := by unfold there belB; simp
theorem there_nil (m : Int) : there m [] = true := rfl

/-- What an operation has, by the reference. -/
def twoB (op : Int) : Bool := (decide (4 ≤ op) && decide (op ≤ 10)) || (op == 15 || op == 17)
def hasA (op : Int) : Bool := twoB op || (op == 13 || (op == 14 || (op == 16 || (op == 19 || op == 21))))
def hasArgs (op : Int) : Bool := op == 18 || (op == 19 || op == 22)
def ansB (op : Int) : Bool := (decide (1 ≤ op) && decide (op ≤ 22)) && (op != 13 && (op != 17 && op != 21))
theorem two_some (op : Int) : fescueref06_two.f op = some (twoB op) := by
  unfold fescueref06_two.f twoB
  by_cases h4 : op ≥ 4
  · by_cases h10 : op ≤ 10
    · rw [if_pos h4, if_pos h10, decide_eq_true (show 4 ≤ op by omega), decide_eq_true h10]; rfl
    · rw [if_pos h4, if_neg h10, decide_eq_true (show 4 ≤ op by omega), decide_eq_false h10]
      by_cases h15 : op = 15
      · rw [if_pos h15, h15]; rfl
      · rw [if_neg h15, beq_eq_false_iff_ne.mpr h15]; rfl
  · rw [if_neg h4, decide_eq_false (show ¬ 4 ≤ op by omega)]
    by_cases h15 : op = 15
    · rw [if_pos h15, h15]; rfl
    · rw [if_neg h15, beq_eq_false_iff_ne.mpr h15]; rfl
theorem hasA_some (op : Int) : fescueref06_HasA.f op = some (hasA op) := by
  unfold fescueref06_HasA.f hasA
  rw [two_some, Option.bind_some]
  cases twoB op
  · rw [if_neg (by simp)]
    by_cases h1 : op = 13
    · rw [if_pos h1, h1]; rfl
    · rw [if_neg h1, beq_eq_false_iff_ne.mpr h1]
      by_cases h2 : op = 14
      · rw [if_pos h2, h2]; rfl
      · rw [if_neg h2, beq_eq_false_iff_ne.mpr h2]
        by_cases h3 : op = 16
        · rw [if_pos h3, h3]; rfl
        · rw [if_neg h3, beq_eq_false_iff_ne.mpr h3]
          by_cases h4 : op = 19
          · rw [if_pos h4, h4]; rfl
          · rw [if_neg h4, beq_eq_false_iff_ne.mpr h4]; rfl
  · rw [if_pos rfl]; rfl
theorem hasArgs_some (op : Int) : fescueref06_HasArgs.f op = some (hasArgs op) := by
  unfold fescueref06_HasArgs.f hasArgs
  by_cases h1 : op = 18
  · rw [if_pos h1, h1]; rfl
  · rw [if_neg h1, beq_eq_false_iff_ne.mpr h1]
    by_cases h2 : op = 19
    · rw [if_pos h2, h2]; rfl
    · rw [if_neg h2, beq_eq_false_iff_ne.mpr h2]; rfl
theorem ans_some (op : Int) : fescueref06_Answers.f op = some (ansB op) := by
  unfold fescueref06_Answers.f ansB
  by_cases h1 : op ≥ 1
  · by_cases h22 : op ≤ 22
    · rw [if_pos h1, if_pos h22, decide_eq_true (show 1 ≤ op by omega), decide_eq_true h22]
      by_cases h13 : op = 13
      · rw [if_pos h13, h13]; rfl
      · rw [if_neg h13, bne_iff_ne.mpr h13]
        by_cases h17 : op = 17
        · rw [if_pos h17, h17]; rfl
        · rw [if_neg h17, bne_iff_ne.mpr h17]; rfl
    · rw [if_pos h1, if_neg h22, decide_eq_true (show 1 ≤ op by omega), decide_eq_false h22]; rfl
  · rw [if_neg h1, decide_eq_false (show ¬ 1 ≤ op by omega)]; rfl
def usesL (x : S24) : List Int := (if hasA x.f0 then [x.f2] else []) ++ (if twoB x.f0 then [x.f3] else []) ++ (if hasArgs x.f0 then x.f5 else [])
theorem uses_some (x : S24) (h5 : x.f5.length ≤ 20) (k : Nat) (hk : 1 ≤ k) : fescueref06_Uses.f k x.f0 x.f1 x.f2 x.f3 x.f4 x.f5 x.f6 = some (usesL x) := by
  obtain ⟨k, rfl⟩ : ∃ q, k = q + 1 := ⟨k - 1, by omega⟩
  unfold fescueref06_Uses.f usesL
  rw [hasA_some, Option.bind_some]
  cases hasA x.f0
  · rw [if_neg (by simp), fescueref06_Uses.j0, two_some, Option.bind_some, hasArgs_some, Option.bind_some]
    cases twoB x.f0 <;> cases hasArgs x.f0 <;> simp <;> omega
  · rw [if_pos rfl, if_pos (by simp), fescueref06_Uses.j0, two_some, Option.bind_some, hasArgs_some, Option.bind_some]
    cases twoB x.f0 <;> cases hasArgs x.f0 <;> simp <;> omega
def numR (op n funcs : Int) : Bool := if op = 1 then true else if op = 3 ∨ op = 18 then belB n funcs else if op = 14 then belB n 8 else n == 0
theorem mayN_some (t : List S78) (fs : List S55) (x : S24) (k : Nat) (hk : 1 ≤ k) : fescueref06_mayN.f k t fs x.f0 x.f1 x.f2 x.f3 x.f4 x.f5 x.f6 = some (numR x.f0 x.f4 fs.length) := by
  obtain ⟨k, rfl⟩ : ∃ q, k = q + 1 := ⟨k - 1, by omega⟩
  unfold fescueref06_mayN.f numR belB
  by_cases h1 : x.f0 = 1
  · rw [if_pos h1, if_pos h1]
  · rw [if_neg h1, if_neg h1]
    have hb : ∀ m : Int, (if x.f4 ≥ 0 then some (decide (x.f4 < m)) else some false) = some (decide (0 ≤ x.f4) && decide (x.f4 < m)) := fun m => by
      by_cases h : x.f4 ≥ 0
      · rw [if_pos h, decide_eq_true (show 0 ≤ x.f4 from h), Bool.true_and]
      · rw [if_neg h, decide_eq_false (show ¬ 0 ≤ x.f4 from h), Bool.false_and]
    by_cases h3 : x.f0 = 3
    · rw [if_pos h3, fescueref06_mayN.j0, if_pos (beq_iff_eq.mpr h3), hb, if_pos (Or.inl h3)]
    · rw [if_neg h3, fescueref06_mayN.j0]
      by_cases h18 : x.f0 = 18
      · rw [if_pos (beq_iff_eq.mpr h18), hb, if_pos (Or.inr h18)]
      · rw [if_neg (fun e => h18 (beq_iff_eq.mp e)), if_neg (show ¬ (x.f0 = 3 ∨ x.f0 = 18) by omega)]
        by_cases h14 : x.f0 = 14
        · rw [if_pos h14, hb, if_pos h14]
        · rw [if_neg h14, if_neg h14]
def tailR (x : S24) (blocks : Int) : Bool := if x.f0 = 22 then ((x.f6.length : Int) == (x.f5.length : Int)) && (decide ((x.f6.length : Int) ≥ 1) && (decide ((x.f6.length : Int) ≤ 16) && there blocks x.f6)) else ((x.f6.length : Int) == 0) && decide ((x.f5.length : Int) ≤ 4)
def kindR (x : S24) (types : Int) : Bool := if ansB x.f0 = true then belB x.f1 types else x.f1 == 0
def noneR (x : S24) : Bool := !hasA x.f0 && x.f2 != 0 || (!twoB x.f0 && x.f3 != 0 || !hasArgs x.f0 && decide ((x.f5.length : Int) > 0))
theorem insR_j2 (blocks : Int) (q : Bool) (x : S24) (h6 : x.f6.length ≤ 20) (k : Nat) (hk : 62 ≤ k) : fescueref06_mayIns.j2 k blocks q x.f0 x.f1 x.f2 x.f3 x.f4 x.f5 x.f6 = some (!q && tailR x blocks) := by
  obtain ⟨k, rfl⟩ : ∃ m, k = m + 1 := ⟨k - 1, by omega⟩
  rw [fescueref06_mayIns.j2]
  cases q
  · rw [if_neg (by simp)]
    unfold tailR
    by_cases h22 : x.f0 = 22
    · rw [if_pos h22, if_pos h22, belowR_some blocks x.f6 (by omega) k (by omega), Option.bind_some]
      by_cases a : (x.f6.length : Int) = (x.f5.length : Int)
      · rw [if_pos a, beq_iff_eq.mpr a]
        by_cases b : (x.f6.length : Int) ≥ 1
        · rw [if_pos b, decide_eq_true b]
          by_cases c : (x.f6.length : Int) ≤ 16
          · rw [if_pos c, decide_eq_true c]; rfl
          · rw [if_neg c, decide_eq_false c]; rfl
        · rw [if_neg b, decide_eq_false b]; rfl
      · rw [if_neg a, beq_eq_false_iff_ne.mpr a]; rfl
    · rw [if_neg h22, if_neg h22]
      by_cases a : (x.f6.length : Int) = 0
      · rw [if_pos a, beq_iff_eq.mpr a]; rfl
      · rw [if_neg a, beq_eq_false_iff_ne.mpr a]; rfl
  · rw [if_pos rfl]; rfl
theorem insR_j1 (t : List S78) (fs : List S55) (blocks : Int) (q : Bool) (x : S24) (h6 : x.f6.length ≤ 20) (k : Nat) (hk : 63 ≤ k) : fescueref06_mayIns.j1 k blocks q t fs x.f0 x.f1 x.f2 x.f3 x.f4 x.f5 x.f6 = some (!q && (kindR x t.length && tailR x blocks)) := by
  obtain ⟨k, rfl⟩ : ∃ m, k = m + 1 := ⟨k - 1, by omega⟩
  have hj := fun q => insR_j2 blocks q x h6 k (by omega)
  rw [fescueref06_mayIns.j1]
  cases q
  · rw [if_neg (by simp)]
    simp only [ans_some, Option.bind_some]
    unfold kindR belB
    cases ansB x.f0
    · rw [if_neg (by simp), if_neg (by simp), if_neg (by simp), hj]
      cases h : (x.f1 != 0)
      · have : x.f1 = 0 := by simpa using h
        rw [this]; rfl
      · have : x.f1 ≠ 0 := by simpa using h
        rw [beq_eq_false_iff_ne.mpr this]; rfl
    · rw [if_pos rfl, if_pos rfl, if_pos rfl]
      by_cases a : x.f1 < 0
      · rw [if_pos a, hj, decide_eq_false (show ¬ 0 ≤ x.f1 by omega)]; rfl
      · by_cases b : x.f1 ≥ (t.length : Int)
        · rw [if_neg a, if_pos b, hj, decide_eq_false (show ¬ x.f1 < (t.length : Int) by omega), Bool.and_false]; rfl
        · rw [if_neg a, if_neg b, hj, decide_eq_true (show 0 ≤ x.f1 by omega), decide_eq_true (show x.f1 < (t.length : Int) by omega)]; rfl
  · rw [if_pos rfl]; rfl
theorem insR_j0 (t : List S78) (fs : List S55) (blocks : Int) (q : Bool) (x : S24) (h6 : x.f6.length ≤ 20) (k : Nat) (hk : 64 ≤ k) : fescueref06_mayIns.j0 k blocks q t fs x.f0 x.f1 x.f2 x.f3 x.f4 x.f5 x.f6 = some (!q && (!noneR x && (kindR x t.length && tailR x blocks))) := by
  obtain ⟨k, rfl⟩ : ∃ m, k = m + 1 := ⟨k - 1, by omega⟩
  have hj := fun q => insR_j1 t fs blocks q x h6 k (by omega)
  rw [fescueref06_mayIns.j0]
  cases q
  · rw [if_neg (by simp)]
    simp only [hasA_some, two_some, hasArgs_some, Option.bind_some, hj]
    unfold noneR
    generalize (kindR x t.length && tailR x blocks) = r
    by_cases a : x.f2 = 0
    · by_cases b : x.f3 = 0
      · cases hasA x.f0 <;> cases twoB x.f0 <;> cases hasArgs x.f0 <;> simp [a, b]
      · cases hasA x.f0 <;> cases twoB x.f0 <;> cases hasArgs x.f0 <;> simp [a, b]
    · by_cases b : x.f3 = 0
      · cases hasA x.f0 <;> cases twoB x.f0 <;> cases hasArgs x.f0 <;> simp [a, b]
      · cases hasA x.f0 <;> cases twoB x.f0 <;> cases hasArgs x.f0 <;> simp [a, b]
  · rw [if_pos rfl]; rfl
def insR (t fs regs blocks : Int) (x : S24) : Bool := (decide (1 ≤ x.f0) && decide (x.f0 ≤ 22)) && (there regs (usesL x) && (numR x.f0 x.f4 fs && (!noneR x && (kindR x t && tailR x blocks))))
theorem usesL_len (x : S24) (h5 : x.f5.length ≤ 20) : (usesL x).length ≤ 60 := by
  unfold usesL
  cases hasA x.f0 <;> cases twoB x.f0 <;> cases hasArgs x.f0 <;> simp <;> omega
theorem insR_some (t : List S78) (fs : List S55) (regs blocks : Int) (x : S24) (hx : small24 x) (k : Nat) (hk : 64 ≤ k) : fescueref06_mayIns.f k t fs x.f0 x.f1 x.f2 x.f3 x.f4 x.f5 x.f6 regs blocks = some (insR t.length fs.length regs blocks x) := by
  have hj := fun q => insR_j0 t fs blocks q x hx.2 k hk
  unfold fescueref06_mayIns.f insR
  by_cases h1 : x.f0 < 1
  · rw [if_pos h1, hj, decide_eq_false (show ¬ 1 ≤ x.f0 by omega)]; rfl
  · by_cases h22 : x.f0 > 22
    · rw [if_neg h1, if_pos h22, hj, decide_eq_false (show ¬ x.f0 ≤ 22 by omega), Bool.and_false]; rfl
    · rw [if_neg h1, if_neg h22, uses_some x hx.1 k (by omega), Option.bind_some, belowR_some regs _ (usesL_len x hx.1) k (by omega), Option.bind_some, mayN_some t fs x k (by omega), Option.bind_some, hj, hj, decide_eq_true (show 1 ≤ x.f0 by omega), decide_eq_true (show x.f0 ≤ 22 by omega)]
      cases there regs (usesL x)
      · rw [if_neg (by simp)]; rfl
      · rw [if_pos rfl, Bool.not_not]; rfl
theorem len0 (L : List Int) : ((L.length : Int) == 0) = !decide (0 < (L.length : Int)) := by
  cases L with
  | nil => rfl
  | cons a L =>
    rw [decide_eq_true (by rw [List.length_cons]; omega), beq_eq_false_iff_ne.mpr (by rw [List.length_cons]; omega)]
    rfl
theorem has_ne (h : Has) : (h != (false, false, false, false, false, false)) = (h.1 || (h.2.1 || (h.2.2.1 || (h.2.2.2.1 || (h.2.2.2.2.1 || h.2.2.2.2.2))))) := by
  obtain ⟨a, b, c, d, e, f⟩ := h
  cases a <;> cases b <;> cases c <;> cases d <;> cases e <;> cases f <;> rfl
theorem insR_eq (s0 s1 s2 s3 : Int) (x : S24) (h0 : 0 ≤ x.f0) : insR s0 s1 s2 s3 x = insB s0 s1 s2 s3 x := by
  obtain ⟨op, a1, a2, a3, a4, l5, l6⟩ := x
  dsimp only at h0
  have hz : decide (0 < l5.length) = false → there s2 l5 = true := fun h => by
    cases l5 with
    | nil => rfl
    | cons a L => rw [decide_eq_false_iff_not, List.length_cons] at h; omega
  by_cases h22 : op ≤ 22
  · have hop : op = 0 ∨ op = 1 ∨ op = 2 ∨ op = 3 ∨ op = 4 ∨ op = 5 ∨ op = 6 ∨ op = 7 ∨ op = 8 ∨ op = 9 ∨ op = 10 ∨ op = 11 ∨ op = 12 ∨ op = 13 ∨ op = 14 ∨ op = 15 ∨ op = 16 ∨ op = 17 ∨ op = 18 ∨ op = 19 ∨ op = 20 ∨ op = 21 ∨ op = 22 := by omega
    rcases hop with rfl | rfl | rfl | rfl | rfl | rfl | rfl | rfl | rfl | rfl | rfl | rfl | rfl | rfl | rfl | rfl | rfl | rfl | rfl | rfl | rfl | rfl | rfl
    all_goals
      simp only [insR, insB, has_ne, badV, noneV, kindV, tailV, numB, numR, noneR, kindR, tailR, usesL, hasA, hasArgs, twoB, ansB, rowOf, tabL]
      simp [there_append, there_one, there_nil, there_cons, len0, bne]
    all_goals
      revert hz
      generalize belB a2 s2 = p1
      generalize belB a3 s2 = p2
      generalize there s2 l5 = p3
      generalize there s3 l6 = p4
      generalize belB a1 s0 = p5
      generalize decide (0 < l5.length) = d5
      generalize decide (0 < l6.length) = d6
      generalize (a1 == 0) = b1
      generalize (a2 == 0) = b2
      generalize (a3 == 0) = b3
      generalize (a4 == 0) = b4
      generalize decide ((l5.length : Int) ≤ 4) = d4
      intro hz
      cases d5
      · rw [hz rfl]
        simp [Bool.and_comm, Bool.and_left_comm, Bool.and_assoc]
      · simp [Bool.and_comm, Bool.and_left_comm, Bool.and_assoc]
  · unfold insR insB
    rw [rowOf_none (show 23 ≤ op by omega), decide_eq_false (show ¬ op ≤ 22 from h22), Bool.and_false]
    rfl

/-! ### ends, functions, programs -/
theorem endR_some (s0 s1 regs blocks : Int) (x : S26) (k : Nat) (hk : 61 ≤ k) : fescueref06_mayEnd.f k x.f0 x.f1 x.f2 x.f3 regs blocks = some (endB s0 s1 regs blocks x) := by
  have h := end_some s0 s1 regs blocks x
  unfold shape_end.f at h
  simp only [below_some, Option.bind_some] at h
  unfold fescueref06_mayEnd.f
  simp only [belowR_some _ [_] (show [_].length ≤ 60 by simp) k hk, belowR_some _ [_, _] (show [_, _].length ≤ 60 by simp) k hk, there_one, there_two, Option.bind_some]
  rw [← h]
  unfold belB
  by_cases h1 : x.f0 = 1
  · rw [if_pos h1, if_pos h1]
    by_cases a : x.f1 = 0
    · by_cases b : x.f3 = 0
      · rw [if_pos a, if_pos b, if_pos (by rw [a, b]; rfl)]
      · rw [if_pos a, if_neg b, if_neg (by rw [beq_eq_false_iff_ne.mpr b, Bool.and_false]; simp)]
    · rw [if_neg a, if_neg (by rw [beq_eq_false_iff_ne.mpr a]; simp)]
  · rw [if_neg h1, if_neg h1]
    by_cases h2 : x.f0 = 2
    · rw [if_pos h2, if_pos h2]
      cases (decide (0 ≤ x.f1) && decide (x.f1 < regs))
      · rfl
      · rw [if_pos rfl, if_pos rfl]
        cases (decide (0 ≤ x.f2) && decide (x.f2 < blocks)) <;> rfl
    · rw [if_neg h2, if_neg h2]
      by_cases h3 : x.f0 = 3
      · rw [if_pos h3, if_pos h3]
        by_cases a : x.f2 = 0
        · by_cases b : x.f3 = 0
          · rw [if_pos a, if_pos b, if_pos (by rw [a, b]; rfl)]
          · rw [if_pos a, if_neg b, if_neg (by rw [beq_eq_false_iff_ne.mpr b, Bool.and_false]; simp)]
        · rw [if_neg a, if_neg (by rw [beq_eq_false_iff_ne.mpr a]; simp)]
      · rw [if_neg h3, if_neg h3]
theorem manyR_l0 (L : List S58) (h : ∀ b ∈ L, small58 b) (hl : L.length ≤ 20) (d : Nat) : ∀ (k j a : Nat), j + d = L.length → d < k → a ≤ 300 * j → fescueref06_Many.l0 k L (a : Int) (j : Int) = some ((a + cnt (L.drop j) : Nat) : Int) := by
  induction d with
  | zero =>
    intro k j a hj hk ha
    obtain ⟨k, rfl⟩ : ∃ q, k = q + 1 := ⟨k - 1, by omega⟩
    rw [fescueref06_Many.l0, if_neg (by omega), List.drop_eq_nil_of_le (by omega)]
    rfl
  | succ d ih =>
    intro k j a hj hk ha
    obtain ⟨k, rfl⟩ : ∃ q, k = q + 1 := ⟨k - 1, by omega⟩
    have hlt : j < L.length := by omega
    have hb := (h _ (List.getElem_mem hlt)).1
    rw [fescueref06_Many.l0, if_pos (by omega), if_pos (by omega), rdT58_at hlt, ← Int.natCast_add, wrapNat (by omega), wrapS (by omega), ih k (j + 1) _ (by omega) (by omega) (by omega), List.drop_eq_getElem_cons hlt, cnt_cons, Nat.add_assoc]
theorem manyR_some (L : List S58) (h : ∀ b ∈ L, small58 b) (hl : L.length ≤ 20) (k : Nat) (hk : 24 ≤ k) : fescueref06_Many.f k L = some (cnt L : Int) := by
  unfold fescueref06_Many.f
  have := manyR_l0 L h hl L.length k 0 0 (by omega) (by omega) (by omega)
  rw [Nat.zero_add, List.drop_zero] at this
  exact this
/-- A block's instructions and its end, by the reference. -/
def blockB (s0 s1 regs blocks : Int) (b : S58) : Bool := b.f0.all (insB s0 s1 regs blocks) && endB s0 s1 regs blocks b.f1
theorem funcB_alt (t : List S78) (lf : Nat) (f : S55) : funcB t lf f = (fnHead t f && f.f1.all (blockB t.length lf (regsW t f) f.f1.length)) := by
  unfold funcB
  congr 1
  generalize f.f1.length = n
  generalize f.f1 = L
  induction L with
  | nil => rfl
  | cons b L ih =>
    rw [List.any_cons, Bool.not_or, ih, List.all_cons]
    congr 1
    unfold blockB
    rw [Bool.not_or, Bool.not_not, all_not_any]
end Go.Proofs.YtfjmpfecnemoiaaDoor.Q
