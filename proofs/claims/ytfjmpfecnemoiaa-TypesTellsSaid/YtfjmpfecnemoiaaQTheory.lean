/-
  What the functions of types answer, in plain Lean, at any table whose types have at most 20 parts.
-/
import Derived.Test.YtfjmpfecnemoiaaQPlain
namespace Go.Proofs.Ytfjmpfecnemoiaa.Q
open Go.RowKit Go.Proofs.YtfjmpfecnemoiaaW.PrintWords Go.Proofs.YtfjmpfecnemoiaaW.PrintLast Go.Proofs.YtfjmpfecnemoiaaW.PrintMore
set_option linter.unusedVariables false
set_option linter.unusedSimpArgs false

/-- No type has more than 20 parts. -/
def Few (t : List S31) : Prop := t.length ≤ 20 ∧ ∀ i : Nat, i < t.length → (rd_T31 t i).f3.length ≤ 20

theorem wrap_nat {n : Nat} (h : n < 4611686018427387904) : wrap64 ((n : Int) + 1) = ((n + 1 : Nat) : Int) := by unfold wrap64; omega

theorem great_l0 (t : List S31) (d : Nat) : ∀ (k i : Nat), i + d = 30 → 2 * d + 2 ≤ k → ∃ b, fescueref03_Great.l0 k t i = some b ∧ (b = false → t.length ≤ 20 ∧ ∀ j : Nat, i ≤ j → j < t.length → (rd_T31 t j).f3.length ≤ 20) := by
  induction d with
  | zero =>
    intro k i hi hk
    obtain ⟨k, rfl⟩ : ∃ m, k = m + 2 := ⟨k - 2, by omega⟩
    refine ⟨decide ((t.length : Int) > 20), ?_, fun h => ?_⟩
    · rw [fescueref03_Great.l0]
      by_cases hlt : (i : Int) < (t.length : Int)
      · rw [if_pos hlt, fescueref03_Great.j1, if_neg (by simp; omega)]
      · rw [if_neg hlt, fescueref03_Great.j1, if_neg (by simp)]
    · simp at h
      exact ⟨by omega, fun j h1 h2 => by omega⟩
  | succ d ih =>
    intro k i hi hk
    obtain ⟨k, rfl⟩ : ∃ m, k = m + 2 := ⟨k - 2, by omega⟩
    by_cases hlt : (i : Int) < (t.length : Int)
    · by_cases hp : ((rd_T31 t i).f3.length : Int) > 20
      · exact ⟨true, by rw [fescueref03_Great.l0, if_pos hlt, fescueref03_Great.j1, if_pos (by simp; omega), if_pos (by omega), if_pos hlt, if_pos hp], fun h => by cases h⟩
      · obtain ⟨b, hb, hf⟩ := ih k (i + 1) (by omega) (by omega)
        refine ⟨b, ?_, fun h => ⟨(hf h).1, fun j h1 h2 => ?_⟩⟩
        · rw [fescueref03_Great.l0, if_pos hlt, fescueref03_Great.j1, if_pos (by simp; omega), if_pos (by omega), if_pos hlt, if_neg hp, wrap_nat (by omega)]
          exact hb
        · by_cases e : j = i
          · subst e; omega
          · exact (hf h).2 j (by omega) h2
    · refine ⟨decide ((t.length : Int) > 20), by rw [fescueref03_Great.l0, if_neg hlt, fescueref03_Great.j1, if_neg (by simp)], fun h => ?_⟩
      simp at h
      exact ⟨by omega, fun j h1 h2 => by omega⟩
theorem great_some (t : List S31) (k : Nat) (hk : 62 ≤ k) : ∃ b, fescueref03_Great.f k t = some b ∧ (b = false → Few t) := by
  obtain ⟨b, hb, hf⟩ := great_l0 t 30 k 0 rfl (by omega)
  exact ⟨b, hb, fun h => ⟨(hf h).1, fun i hi => (hf h).2 i (Nat.zero_le _) hi⟩⟩

/-! ### Check -/
def allOk (t : List S31) (j d : Nat) : Bool := (List.range' j d).all fun i => okT t (i : Int)
def chk (t : List S31) : Int := if 16 < t.length then 4 else if allOk t 0 t.length then 0 else 30
theorem check_l0 (t : List S31) (hF : Few t) (d : Nat) : ∀ (k j : Nat), j + d = t.length → d < k → OkTo t j → types_Check.l0 k t (sizesTo t j) (t.length : Int) (j : Int) = some (if allOk t j d then 0 else 30) := by
  induction d with
  | zero =>
    intro k j hj hk hO
    obtain ⟨k, rfl⟩ : ∃ m, k = m + 1 := ⟨k - 1, by omega⟩
    rw [types_Check.l0, if_neg (by omega)]
    rfl
  | succ d ih =>
    intro k j hj hk hO
    obtain ⟨k, rfl⟩ : ∃ m, k = m + 1 := ⟨k - 1, by omega⟩
    obtain ⟨s, hs, hs2⟩ := may_ok t j (by omega) hO (by have := hF.2 j (by omega); omega)
    rw [types_Check.l0, if_pos (by omega), hs, Option.bind_some]
    have hall : allOk t j (d + 1) = (okT t j && allOk t (j + 1) d) := by unfold allOk; rw [List.range'_succ, List.all_cons]
    cases ho : okT t j
    · rw [if_neg (by simp), hall, ho]
      simp
    · rw [if_pos rfl, if_pos (by rw [sizesTo_len]; have := hF.1; omega), wrap_nat (by have := hF.1; omega)]
      have hsz : sizesTo t j ++ [s] = sizesTo t (j + 1) := by rw [hs2 ho]; unfold sizesTo; rw [List.range_succ, List.map_append]; rfl
      show types_Check.l0 k t (sizesTo t j ++ [s]) (t.length : Int) ((j + 1 : Nat) : Int) = _
      rw [hsz, ih k (j + 1) (by omega) (by omega) (fun i h0 h1 => ?_), hall, ho, Bool.true_and]
      by_cases e : i = j
      · subst e; exact ho
      · exact hO i h0 (by omega)
theorem Check_some (t : List S31) (hF : Few t) (k : Nat) (hk : 24 ≤ k) : types_Check.f k t = some (chk t) := by
  unfold types_Check.f chk
  by_cases h : 16 < t.length
  · rw [if_pos (by omega), if_pos h]
  · rw [if_neg (by omega), if_neg h]
    exact check_l0 t hF t.length k 0 (by omega) (by omega) (fun i h0 h1 => by omega)
theorem chk_ok {t : List S31} (h : chk t = 0) : t.length ≤ 16 ∧ OkTo t t.length := by
  unfold chk at h
  by_cases h1 : 16 < t.length
  · rw [if_pos h1] at h; cases h
  · rw [if_neg h1] at h
    refine ⟨by omega, fun i h0 hi => ?_⟩
    cases ha : allOk t 0 t.length
    · rw [ha] at h; cases h
    · obtain ⟨n, rfl⟩ := Int.eq_ofNat_of_zero_le h0
      unfold allOk at ha
      rw [List.all_eq_true] at ha
      exact ha n (by rw [List.mem_range'_1]; omega)

/-! ### asked, Cells -/
def askV (t : List S31) (i : Int) : Int := if chk t = 0 then (if 0 ≤ i ∧ i < t.length then 0 else 2) else chk t
theorem asked_some (t : List S31) (hF : Few t) (i : Int) (k : Nat) (hk : 24 ≤ k) : types_asked.f k t i = some (askV t i) := by
  unfold types_asked.f askV
  rw [Check_some t hF k hk, Option.bind_some]
  by_cases h : chk t = 0
  · rw [if_pos h, if_pos h]
    unfold types_there.f
    rw [Option.bind_some]
    by_cases h1 : 0 ≤ i ∧ i < t.length
    · rw [if_pos (there_iff.2 (by simpa using h1)), if_pos h1]
    · rw [if_neg (fun h => h1 (by simpa using there_iff.1 h)), if_neg h1]
  · rw [if_neg h, if_neg h]
theorem askV_ok {t : List S31} {i : Int} (h : askV t i = 0) : chk t = 0 ∧ 0 ≤ i ∧ i < t.length := by
  unfold askV at h
  by_cases h1 : chk t = 0
  · rw [if_pos h1] at h
    by_cases h2 : 0 ≤ i ∧ i < t.length
    · exact ⟨h1, h2⟩
    · rw [if_neg h2] at h; cases h
  · rw [if_neg h1] at h
    exact absurd h h1
theorem askV_mk {t : List S31} {i : Int} (h : chk t = 0) (h0 : 0 ≤ i) (h1 : i < t.length) : askV t i = 0 := by
  unfold askV
  rw [if_pos h, if_pos ⟨h0, h1⟩]

theorem cells_some (t : List S31) (h : chk t = 0) (i : Int) (h0 : 0 ≤ i) (h1 : i < t.length) (k : Nat) (hk : 24 ≤ k) : types_cells.f k t i = some (Ct t i) := by
  obtain ⟨hl, hO⟩ := chk_ok h
  have hct := ct_is t t.length hO.lows (Int.le_refl _) k i h0 h1 (by omega)
  have hsz := okT_size (hO i h0 h1) h0 h1 (fun j a b => hO.lows j a (by omega))
  unfold types_cells.f
  rw [cellsF_some t t.length hO.lows (Int.le_refl _) (fun j a b h5 => by have := (okT_many (hO j a b) h5).2; omega) k i [] h0 h1 (by omega) (by rw [hct]; simp; omega), hct]
  rfl
theorem Cells_some (t : List S31) (hF : Few t) (i : Int) (k : Nat) (hk : 24 ≤ k) : types_Cells.f k t i = some (if askV t i = 0 then (Ct t i, 0) else ([], askV t i)) := by
  unfold types_Cells.f
  rw [asked_some t hF i k hk, Option.bind_some]
  by_cases h : askV t i = 0
  · obtain ⟨hc, h0, h1⟩ := askV_ok h
    rw [if_pos h, if_pos h, cells_some t hc i h0 h1 k hk]
    rfl
  · rw [if_neg h, if_neg h]

/-! ### Part, Offset -/
theorem okT_parts {t : List S31} {i : Int} (h : okT t i = true) : okParts (rd_T31 t i) = true := by
  unfold okParts
  by_cases h5 : (rd_T31 t i).f0 = 5
  · have := okT_many h h5
    simp [h5, this]
  · simp [h5]
def partV (t : List S31) (i n : Int) : Int × Int :=
  if askV t i = 0 then (if 0 ≤ n ∧ n < (partsOf (rd_T31 t i)).length then (rd (partsOf (rd_T31 t i)) n, 0) else (0, 2)) else (0, askV t i)
theorem Part_some (t : List S31) (hF : Few t) (i n : Int) (k : Nat) (hk : 24 ≤ k) : types_Part.f k t i n = some (partV t i n) := by
  unfold types_Part.f partV
  rw [asked_some t hF i k hk, Option.bind_some]
  by_cases h : askV t i = 0
  · obtain ⟨hc, h0, h1⟩ := askV_ok h
    have hO := (chk_ok hc).2
    rw [if_pos h, if_pos h]
    unfold partAns
    rw [if_pos h0, if_pos h1, if_pos (okT_parts (hO i h0 h1))]
    by_cases h2 : 0 ≤ n ∧ n < (partsOf (rd_T31 t i)).length
    · rw [if_pos (there_iff.2 (by simpa using h2)), if_pos h2]
    · rw [if_neg (fun h => h2 (by simpa using there_iff.1 h)), if_neg h2]
  · rw [if_neg h, if_neg h]
/-- How many cells stand ahead of a part. -/
def aheadV (t : List S31) (i n : Int) : Int := ((((partsOf (rd_T31 t i)).take n.toNat).flatMap (Ct t)).length : Int)
theorem offs_some (t : List S31) (h : chk t = 0) (k : Nat) (hk : 24 ≤ k) : ∀ (L : List Int) (s : Nat), (∀ p ∈ L, 0 ≤ p ∧ p < t.length) → s + (L.flatMap (Ct t)).length < 4611686018427387904 → offs k t L (s : Int) = some ((s : Int) + ((L.flatMap (Ct t)).length : Int)) := by
  intro L
  induction L with
  | nil => intro s _ _; simp [offs]
  | cons p L ih =>
    intro s hp hl
    have h1 := hp p (List.mem_cons_self ..)
    rw [List.flatMap_cons, List.length_append] at hl
    have ih' := ih (s + (Ct t p).length) (fun q hq => hp q (List.mem_cons_of_mem _ hq)) (by omega)
    unfold offs at ih' ⊢
    rw [List.foldlM_cons, cells_some t h p h1.1 h1.2 k hk, Option.bind_some]
    show (List.foldlM _ (wrap64 ((s : Int) + ((Ct t p).length : Int))) L) = _
    rw [show wrap64 ((s : Int) + ((Ct t p).length : Int)) = ((s + (Ct t p).length : Nat) : Int) from by unfold wrap64; omega, ih', List.flatMap_cons, List.length_append]
    refine congrArg some ?_
    omega
theorem parts_in {t : List S31} (h : chk t = 0) {i : Int} (h0 : 0 ≤ i) (h1 : i < t.length) : ∀ p ∈ partsOf (rd_T31 t i), 0 ≤ p ∧ p < t.length := by
  intro p hp
  have := (chk_ok h).2.lows i h0 h1 p hp
  omega
theorem Ct_of {t : List S31} (h : chk t = 0) {i : Int} (h0 : 0 ≤ i) (h1 : i < t.length) : Ct t i = if (rd_T31 t i).f0 = 4 ∨ (rd_T31 t i).f0 = 5 then (partsOf (rd_T31 t i)).flatMap (Ct t) else [i] :=
  Ct_parts t t.length (chk_ok h).2.lows (Int.le_refl _) i h0 h1
theorem Ct_len {t : List S31} (h : chk t = 0) {i : Int} (h0 : 0 ≤ i) (h1 : i < t.length) : (Ct t i).length ≤ 32 :=
  okT_size ((chk_ok h).2 i h0 h1) h0 h1 (fun j a b => (chk_ok h).2.lows j a (by omega))
theorem parts_kind {x : S31} (h : partsOf x ≠ []) : x.f0 = 4 ∨ x.f0 = 5 := by
  unfold partsOf at h
  by_cases h4 : x.f0 = 4
  · exact Or.inl h4
  · rw [if_neg h4] at h
    by_cases h5 : x.f0 = 5
    · exact Or.inr h5
    · rw [if_neg h5] at h
      exact absurd rfl h
theorem flatMap_take_le (L : List Int) (f : Int → List Int) (n : Nat) : ((L.take n).flatMap f).length ≤ (L.flatMap f).length := by
  have h : L.flatMap f = (L.take n).flatMap f ++ (L.drop n).flatMap f := by rw [← List.flatMap_append, List.take_append_drop]
  rw [h, List.length_append]
  omega
theorem parts_flat_le {t : List S31} (h : chk t = 0) {i : Int} (h0 : 0 ≤ i) (h1 : i < t.length) : ((partsOf (rd_T31 t i)).flatMap (Ct t)).length ≤ 32 := by
  by_cases hp : partsOf (rd_T31 t i) = []
  · rw [hp]; simp
  · have := Ct_len h h0 h1
    rwa [Ct_of h h0 h1, if_pos (parts_kind hp)] at this
def offV (t : List S31) (i n : Int) : Int × Int := if (partV t i n).2 = 0 then (aheadV t i n, 0) else (0, (partV t i n).2)
theorem partV_ok {t : List S31} {i n : Int} (h : (partV t i n).2 = 0) : askV t i = 0 ∧ 0 ≤ n ∧ n < (partsOf (rd_T31 t i)).length ∧ (partV t i n).1 = rd (partsOf (rd_T31 t i)) n := by
  unfold partV at h ⊢
  by_cases h1 : askV t i = 0
  · rw [if_pos h1] at h ⊢
    by_cases h2 : 0 ≤ n ∧ n < (partsOf (rd_T31 t i)).length
    · rw [if_pos h2]
      exact ⟨h1, h2.1, h2.2, rfl⟩
    · rw [if_neg h2] at h; cases h
  · rw [if_neg h1] at h
    exact absurd h h1
theorem Offset_some (t : List S31) (hF : Few t) (i n : Int) (k : Nat) (hk : 24 ≤ k) : types_Offset.f k t i n = some (offV t i n) := by
  unfold types_Offset.f offV
  rw [Part_some t hF i n k hk, Option.bind_some]
  by_cases h : (partV t i n).2 = 0
  · rw [if_pos h, if_pos h]
    obtain ⟨ha, hn0, hn1, _⟩ := partV_ok h
    obtain ⟨hc, h0, h1⟩ := askV_ok ha
    have hO := (chk_ok hc).2
    unfold offAns
    rw [if_pos h0, if_pos h1, if_pos (okT_parts (hO i h0 h1)), if_pos hn0, if_pos (by omega)]
    have hle := flatMap_take_le (partsOf (rd_T31 t i)) (Ct t) n.toNat
    have h32 := parts_flat_le hc h0 h1
    have ho := offs_some t hc k hk ((partsOf (rd_T31 t i)).take n.toNat) 0 (fun p hp => parts_in hc h0 h1 p (List.mem_of_mem_take hp)) (by omega)
    rw [show ((0 : Nat) : Int) = 0 from rfl] at ho
    rw [ho, Option.bind_some]
    unfold aheadV
    simp
  · rw [if_neg h, if_neg h]

/-! ### SameInts -/
theorem same_l0 (L M : List Int) (hl : L.length = M.length) (hb : L.length < 4611686018427387904) (d : Nat) : ∀ (k i : Nat), i + d = L.length → d < k → fescueref02_SameInts.l0 k L M (i : Int) = some (L.drop i == M.drop i) := by
  induction d with
  | zero =>
    intro k i hi hk
    obtain ⟨k, rfl⟩ : ∃ m, k = m + 1 := ⟨k - 1, by omega⟩
    rw [fescueref02_SameInts.l0, if_neg (by omega), List.drop_eq_nil_of_le (by omega), List.drop_eq_nil_of_le (by omega)]
    rfl
  | succ d ih =>
    intro k i hi hk
    obtain ⟨k, rfl⟩ : ∃ m, k = m + 1 := ⟨k - 1, by omega⟩
    have eL : L.drop i = L[i] :: L.drop (i + 1) := List.drop_eq_getElem_cons (by omega)
    have eM : M.drop i = M[i] :: M.drop (i + 1) := List.drop_eq_getElem_cons (by omega)
    rw [fescueref02_SameInts.l0, if_pos (by omega), if_pos (by omega), if_pos (by omega), rd_at (show i < L.length by omega), rd_at (show i < M.length by omega), wrap_nat (by omega), ih k (i + 1) (by omega) (by omega), eL, eM]
    by_cases h : L[i] = M[i]
    · rw [if_pos h, h]
      refine congrArg some ?_
      rw [Bool.eq_iff_iff]
      simp only [beq_iff_eq, List.cons.injEq, true_and]
    · rw [if_neg h]
      refine congrArg some (Eq.symm (beq_eq_false_iff_ne.mpr fun e => h (List.cons.inj e).1))
theorem same_some (L M : List Int) (hb : L.length < 4611686018427387904) (k : Nat) (hk : L.length < k) : fescueref02_SameInts.f k L M = some (L == M) := by
  unfold fescueref02_SameInts.f
  by_cases h : L.length = M.length
  · rw [if_pos (by omega)]
    exact same_l0 L M h hb L.length k 0 (by omega) hk
  · rw [if_neg (by omega)]
    have : ¬ L = M := fun e => h (by rw [e])
    simp [this]
attribute [irreducible] chk askV partV offV aheadV
end Go.Proofs.Ytfjmpfecnemoiaa.Q
