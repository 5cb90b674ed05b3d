/-
  What the slow reference of types answers: Of, Check, asked, Scalar, Cells, PartOf, Part, Ahead, Offset, Twin, Same, in plain Lean.
-/
import Derived.Test.YtfjmpfecnemoiaaQRefA
import Derived.Test.YtfjmpfecnemoiaaQx6
namespace Go.Proofs.Ytfjmpfecnemoiaa.Q
open Go.RowKit Go.Proofs.YtfjmpfecnemoiaaW.PrintWords Go.Proofs.YtfjmpfecnemoiaaW.PrintLast Go.Proofs.YtfjmpfecnemoiaaW.PrintMore
set_option linter.unusedVariables false
set_option linter.unusedSimpArgs false

/-! ### Of -/
theorem of_l0 (t : List S31) (f0 f1 f2 : Int) (L : List Int) (hL : L.length ≤ 20) (m : Nat) (hp : ∀ p ∈ L, (Ct t p).length ≤ 32 ∧ ∀ k, m ≤ k → fescueref03_Of.f k t p = some (Ct t p)) (d : Nat) : ∀ (k j : Nat) (acc : List Int), j + d = L.length → m + d < k → acc.length ≤ 32 * j →
    fescueref03_Of.l0 k t acc (j : Int) f0 f1 f2 L = some (acc ++ (L.drop j).flatMap (Ct t)) := by
  induction d with
  | zero =>
    intro k j acc hj hk ha
    obtain ⟨k, rfl⟩ : ∃ q, k = q + 1 := ⟨k - 1, by omega⟩
    rw [fescueref03_Of.l0, if_neg (by omega), List.drop_eq_nil_of_le (by omega)]
    simp
  | succ d ih =>
    intro k j acc hj hk ha
    obtain ⟨k, rfl⟩ : ∃ q, k = q + 1 := ⟨k - 1, by omega⟩
    have hw : wrap64 ((j : Int) + 1) = ((j + 1 : Nat) : Int) := wrap_nat (by omega)
    obtain ⟨h32, ho⟩ := hp (rd L j) (by rw [rd_at (by omega)]; exact List.getElem_mem _)
    rw [fescueref03_Of.l0, if_pos (by omega), if_pos (by omega), ho k (by omega), Option.bind_some, if_pos (by omega), hw, ih k (j + 1) _ (by omega) (by omega) (by rw [List.length_append]; omega), drop_at L j (by omega), List.flatMap_cons, List.append_assoc]
theorem of_l1 (t : List S31) (f0 f1 : Int) (f2 : Nat) (L : List Int) (h2 : f2 ≤ 16) (m : Nat) (h32 : (Ct t f1).length ≤ 32) (ho : ∀ k, m ≤ k → fescueref03_Of.f k t f1 = some (Ct t f1)) (d : Nat) : ∀ (k j : Nat) (acc : List Int), j + d = f2 → m + d < k → acc.length ≤ 32 * j →
    fescueref03_Of.l1 k t acc (j : Int) f0 f1 (f2 : Int) L = some (acc ++ (List.replicate d f1).flatMap (Ct t)) := by
  induction d with
  | zero =>
    intro k j acc hj hk ha
    obtain ⟨k, rfl⟩ : ∃ q, k = q + 1 := ⟨k - 1, by omega⟩
    rw [fescueref03_Of.l1, if_neg (by omega)]
    simp
  | succ d ih =>
    intro k j acc hj hk ha
    obtain ⟨k, rfl⟩ : ∃ q, k = q + 1 := ⟨k - 1, by omega⟩
    have hw : wrap64 ((j : Int) + 1) = ((j + 1 : Nat) : Int) := wrap_nat (by omega)
    rw [fescueref03_Of.l1, if_pos (by omega), ho k (by omega), Option.bind_some, if_pos (by omega), hw, ih k (j + 1) _ (by omega) (by omega) (by rw [List.length_append]; omega), List.replicate_succ, List.flatMap_cons, List.append_assoc]
theorem rd_few {t : List S31} (hF : Few t) {i : Int} (h0 : 0 ≤ i) (h1 : i < t.length) : (rd_T31 t i).f3.length ≤ 20 := by
  obtain ⟨n, rfl⟩ := Int.eq_ofNat_of_zero_le h0
  exact hF.2 n (by omega)
/-- One step: a type whose parts are below and answer. -/
theorem of_step (t : List S31) (hF : Few t) (i : Int) (h0 : 0 ≤ i) (h1 : i < t.length) (hC : Ct t i = if (rd_T31 t i).f0 = 4 ∨ (rd_T31 t i).f0 = 5 then (partsOf (rd_T31 t i)).flatMap (Ct t) else [i])
    (h5 : (rd_T31 t i).f0 = 5 → 1 ≤ (rd_T31 t i).f2 ∧ (rd_T31 t i).f2 ≤ 16) (m : Nat) (hp : ∀ p ∈ partsOf (rd_T31 t i), (Ct t p).length ≤ 32 ∧ ∀ k, m ≤ k → fescueref03_Of.f k t p = some (Ct t p)) (k : Nat) (hk : m + 24 ≤ k) : fescueref03_Of.f k t i = some (Ct t i) := by
  have hl := rd_few hF h0 h1
  obtain ⟨k, rfl⟩ : ∃ q, k = q + 1 := ⟨k - 1, by omega⟩
  rw [fescueref03_Of.f, if_pos h0, if_pos h1, hC]
  by_cases e4 : (rd_T31 t i).f0 = 4
  · have hL : partsOf (rd_T31 t i) = (rd_T31 t i).f3 := by rw [partsOf, if_pos e4]
    rw [hL] at hp
    rw [if_pos e4, if_pos (Or.inl e4), hL]
    have := of_l0 t (rd_T31 t i).f0 (rd_T31 t i).f1 (rd_T31 t i).f2 (rd_T31 t i).f3 hl m hp (rd_T31 t i).f3.length k 0 [] (by omega) (by omega) (by simp)
    rw [List.drop_zero, List.nil_append] at this
    exact this
  · rw [if_neg e4]
    by_cases e5 : (rd_T31 t i).f0 = 5
    · obtain ⟨b1, b2⟩ := h5 e5
      have hL : partsOf (rd_T31 t i) = List.replicate (rd_T31 t i).f2.toNat (rd_T31 t i).f1 := by rw [partsOf, if_neg e4, if_pos e5]
      rw [hL] at hp
      rw [if_pos e5, if_pos (Or.inr e5), hL]
      obtain ⟨q32, qo⟩ := hp (rd_T31 t i).f1 (List.mem_replicate.2 ⟨by omega, rfl⟩)
      obtain ⟨n, hn⟩ := Int.eq_ofNat_of_zero_le (show 0 ≤ (rd_T31 t i).f2 by omega)
      have := of_l1 t (rd_T31 t i).f0 (rd_T31 t i).f1 n (rd_T31 t i).f3 (by omega) m q32 qo n k 0 [] (by omega) (by omega) (by simp)
      rw [List.nil_append] at this
      rw [hn, Int.toNat_natCast]
      exact this
    · rw [if_neg e5, if_neg (by simp [e4, e5])]
theorem Of_to (t : List S31) (hF : Few t) (N : Int) (hN : N ≤ t.length) (hO : OkTo t N) (n : Nat) : ∀ i : Int, 0 ≤ i → i < N → i < n → ∀ k, 24 * n ≤ k → fescueref03_Of.f k t i = some (Ct t i) := by
  induction n with
  | zero => intro i h0 _ h1; omega
  | succ n ih =>
    intro i h0 h1 hi k hk
    refine of_step t hF i h0 (by omega) (Ct_parts t N hO.lows hN i h0 h1) (fun e => okT_many (hO i h0 h1) e) (24 * n) (fun p hp => ?_) k (by omega)
    have hl := hO.lows i h0 h1 p hp
    exact ⟨okT_size (hO p hl.1 (by omega)) hl.1 (by omega) (fun j a b => hO.lows j a (by omega)), fun k hk => ih p hl.1 (by omega) (by omega) k hk⟩

/-! ### Check -/
theorem mayB_low {t : List S31} {i : Int} (h : mayB t i = true) : Low t i ∧ ((rd_T31 t i).f0 = 5 → 1 ≤ (rd_T31 t i).f2 ∧ (rd_T31 t i).f2 ≤ 16) := by
  unfold mayB at h
  unfold Low partsOf
  by_cases h4 : (rd_T31 t i).f0 = 4
  · simp [h4] at h
    rw [if_pos h4]
    exact ⟨there_iff.1 h.2.2.2.2, fun e => absurd (h4.symm.trans e) (by decide)⟩
  · rw [if_neg h4]
    by_cases h5 : (rd_T31 t i).f0 = 5
    · simp [h5] at h
      rw [if_pos h5]
      refine ⟨fun p hp => ?_, fun _ => ⟨h.2.1, h.2.2.1⟩⟩
      obtain rfl := List.eq_of_mem_replicate hp
      exact there_iff.1 h.1 _ (by simp)
    · rw [if_neg h5]
      exact ⟨fun p hp => (by cases hp), fun e => absurd e h5⟩
theorem checkR_l0 (t : List S31) (hF : Few t) (d : Nat) : ∀ (k j : Nat), j + d = t.length → d + 600 < k → OkTo t j → fescueref03_Check.l0 k t (j : Int) = some (if allOk t j d then 0 else 30) := by
  induction d with
  | zero =>
    intro k j hj hk hO
    obtain ⟨k, rfl⟩ : ∃ m, k = m + 1 := ⟨k - 1, by omega⟩
    rw [fescueref03_Check.l0, if_neg (by omega)]
    rfl
  | succ d ih =>
    intro k j hj hk hO
    obtain ⟨k, rfl⟩ : ∃ m, k = m + 1 := ⟨k - 1, by omega⟩
    have hF1 := hF.1
    have hw : wrap64 ((j : Int) + 1) = ((j + 1 : Nat) : Int) := wrap_nat (by omega)
    have hj1 : (j : Int) < t.length := by omega
    have hall : allOk t j (d + 1) = (okT t j && allOk t (j + 1) d) := by unfold allOk; rw [List.range'_succ, List.all_cons]
    have hok := okT_ref t j
    rw [fescueref03_Check.l0, if_pos hj1, mayType_ref t hF j (Int.natCast_nonneg _) hj1 k (by omega), Option.bind_some, hall]
    cases hm : mayB t j
    · rw [hm, Bool.false_and] at hok
      rw [hok, if_neg (by simp)]
      simp
    · rw [hm, Bool.true_and] at hok
      obtain ⟨hlow, h5⟩ := mayB_low hm
      have hLows : Lows t ((j : Int) + 1) := fun i a b => by
        by_cases e : i = j
        · subst e; exact hlow
        · exact hO.lows i a (by omega)
      have hCt := Ct_parts t ((j : Int) + 1) hLows (by omega) j (Int.natCast_nonneg _) (by omega)
      have hof := of_step t hF j (Int.natCast_nonneg _) hj1 hCt h5 (24 * 20) (fun p hp => by
        have hl := hlow p hp
        refine ⟨okT_size (hO p hl.1 hl.2) hl.1 (by omega) (fun i a b => hO.lows i a (by omega)), fun k' hk' => Of_to t hF j (by omega) hO 20 p hl.1 hl.2 (by omega) k' (by omega)⟩) k (by omega)
      rw [if_pos rfl, hof, Option.bind_some]
      by_cases h32 : (Ct t j).length ≤ 32
      · have ho : okT t j = true := by rw [hok, decide_eq_true h32]; split <;> rfl
        rw [if_neg (by omega), hw, ih k (j + 1) (by omega) (by omega) (fun i h0 h1 => ?_), ho, Bool.true_and]
        by_cases e : i = j
        · subst e; exact ho
        · exact hO i h0 (by omega)
      · have hk4 : (rd_T31 t j).f0 = 4 ∨ (rd_T31 t j).f0 = 5 := by
          by_cases e : (rd_T31 t j).f0 = 4 ∨ (rd_T31 t j).f0 = 5
          · exact e
          · rw [if_neg e] at hCt
            rw [hCt] at h32
            simp at h32
        have ho : okT t j = false := by rw [hok, if_pos hk4, decide_eq_false h32]
        rw [if_pos (by omega), ho]
        simp
theorem CheckR_some (t : List S31) (hF : Few t) (k : Nat) (hk : 640 ≤ k) : fescueref03_Check.f k t = some (chk t) := by
  unfold fescueref03_Check.f chk
  by_cases h : 16 < t.length
  · rw [if_pos (by omega), if_pos h]
  · rw [if_neg (by omega), if_neg h]
    exact checkR_l0 t hF t.length k 0 (by omega) (by have := hF.1; omega) (fun i h0 h1 => by omega)

/-! ### asked, Scalar, Cells -/
theorem askedR_some (t : List S31) (hF : Few t) (i : Int) (k : Nat) (hk : 640 ≤ k) : fescueref03_asked.f k t i = some (askV t i) := by
  unfold fescueref03_asked.f askV
  rw [CheckR_some t hF k hk, Option.bind_some]
  by_cases h : chk t = 0
  · rw [if_pos h, if_pos h]
    by_cases a : i < 0
    · rw [if_pos a, if_neg (by omega)]
    · rw [if_neg a]
      by_cases b : i ≥ t.length
      · rw [if_pos b, if_neg (by omega)]
      · rw [if_neg b, if_pos (by omega), h]
  · rw [if_neg h, if_neg h]
theorem ScalarR_some (t : List S31) (hF : Few t) (i : Int) (k : Nat) (hk : 640 ≤ k) : fescueref03_Scalar.f k t i = some (scalV t i) := by
  unfold fescueref03_Scalar.f scalV
  rw [askedR_some t hF i k hk, Option.bind_some]
  by_cases h : askV t i = 0
  · obtain ⟨hc, h0, h1⟩ := askV_ok h
    rw [if_pos h, if_pos h, Plain_ref, Option.bind_some]
    unfold plR
    rw [decide_eq_true h0, decide_eq_true h1]
    rfl
  · rw [if_neg h, if_neg h]
theorem OfR_some (t : List S31) (hF : Few t) (h : chk t = 0) (i : Int) (h0 : 0 ≤ i) (h1 : i < t.length) (k : Nat) (hk : 480 ≤ k) : fescueref03_Of.f k t i = some (Ct t i) :=
  Of_to t hF t.length (Int.le_refl _) (chk_ok h).2 20 i h0 h1 (by have := hF.1; omega) k (by omega)
theorem CellsR_some (t : List S31) (hF : Few t) (i : Int) (k : Nat) (hk : 640 ≤ k) : fescueref03_Cells.f k t i = some (if askV t i = 0 then (Ct t i, 0) else ([], askV t i)) := by
  unfold fescueref03_Cells.f
  rw [askedR_some t hF i k hk, Option.bind_some]
  by_cases h : askV t i = 0
  · obtain ⟨hc, h0, h1⟩ := askV_ok h
    rw [if_pos h, if_pos h, OfR_some t hF hc i h0 h1 k (by omega), Option.bind_some]
  · rw [if_neg h, if_neg h]

/-! ### parts -/
theorem PartOfR_some (x : S31) (n : Int) (k : Nat) (hk : 1 ≤ k) (h5 : x.f0 = 5 → 0 ≤ x.f2) : fescueref03_PartOf.f k x.f0 x.f1 x.f2 x.f3 n = some (if 0 ≤ n ∧ n < (partsOf x).length then rd (partsOf x) n else -1) := by
  obtain ⟨k, rfl⟩ : ∃ m, k = m + 1 := ⟨k - 1, by omega⟩
  unfold fescueref03_PartOf.f partsOf
  by_cases e4 : x.f0 = 4
  · rw [if_pos e4, if_pos e4]
    by_cases h0 : 0 ≤ n
    · rw [if_pos (show n ≥ 0 from h0), fescueref03_PartOf.j0]
      by_cases h1 : n < x.f3.length
      · rw [if_pos (decide_eq_true h1), if_pos h0, if_pos h1, if_pos ⟨h0, h1⟩]
      · rw [if_neg (by simp; omega), if_neg (by rw [e4]; decide), if_neg (by omega)]
    · rw [if_neg (show ¬ n ≥ 0 from h0), fescueref03_PartOf.j0, if_neg (by simp), if_neg (by rw [e4]; decide), if_neg (by omega)]
  · rw [if_neg e4, if_neg e4, fescueref03_PartOf.j0, if_neg (by simp)]
    by_cases e5 : x.f0 = 5
    · have h5 := h5 e5
      rw [if_pos e5, if_pos e5, List.length_replicate]
      by_cases h0 : 0 ≤ n
      · rw [if_pos (show n ≥ 0 from h0)]
        by_cases h1 : n < x.f2
        · rw [if_pos h1, if_pos (by omega)]
          obtain ⟨m, rfl⟩ := Int.eq_ofNat_of_zero_le h0
          rw [rd_at (by rw [List.length_replicate]; omega), List.getElem_replicate]
        · rw [if_neg h1, if_neg (by omega)]
      · rw [if_neg (show ¬ n ≥ 0 from h0), if_neg (by omega)]
    · rw [if_neg e5, if_neg e5]
      rw [if_neg (by simp)]
theorem PartR_some (t : List S31) (hF : Few t) (i n : Int) (k : Nat) (hk : 640 ≤ k) : fescueref03_Part.f k t i n = some (partV t i n) := by
  unfold fescueref03_Part.f partV
  rw [askedR_some t hF i k hk, Option.bind_some]
  by_cases h : askV t i = 0
  · obtain ⟨hc, h0, h1⟩ := askV_ok h
    rw [if_pos h, if_pos h, if_pos h0, if_pos h1, PartOfR_some _ n k (by omega) (fun e => by have := okT_many ((chk_ok hc).2 i h0 h1) e; omega), Option.bind_some]
    by_cases hn : 0 ≤ n ∧ n < (partsOf (rd_T31 t i)).length
    · obtain ⟨m, rfl⟩ := Int.eq_ofNat_of_zero_le hn.1
      have hp := parts_in hc h0 h1 (rd (partsOf (rd_T31 t i)) m) (by rw [rd_at (by omega)]; exact List.getElem_mem _)
      rw [if_pos hn, if_pos hn, if_neg (Int.not_lt.2 hp.1)]
    · rw [if_neg hn, if_neg hn, if_pos (by decide)]
  · rw [if_neg h, if_neg h]
theorem aheadR_l0 (t : List S31) (hF : Few t) (hc : chk t = 0) (i : Int) (h0 : 0 ≤ i) (h1 : i < t.length) (n : Nat) (hn : n ≤ (partsOf (rd_T31 t i)).length) (hn20 : n ≤ 20) (d : Nat) : ∀ (k j : Nat) (s : Nat), j + d = n → d + 500 < k → s ≤ 32 * j →
    fescueref03_Ahead.l0 k t i (n : Int) (s : Int) (j : Int) = some ((s : Int) + (((((partsOf (rd_T31 t i)).take n).drop j).flatMap (Ct t)).length : Int)) := by
  induction d with
  | zero =>
    intro k j s hj hk hs
    obtain ⟨k, rfl⟩ : ∃ m, k = m + 1 := ⟨k - 1, by omega⟩
    rw [fescueref03_Ahead.l0, if_neg (by omega), List.drop_eq_nil_of_le (by rw [List.length_take]; omega)]
    simp
  | succ d ih =>
    intro k j s hj hk hs
    obtain ⟨k, rfl⟩ : ∃ m, k = m + 1 := ⟨k - 1, by omega⟩
    have hw : wrap64 ((j : Int) + 1) = ((j + 1 : Nat) : Int) := wrap_nat (by omega)
    have hjl : j < (partsOf (rd_T31 t i)).length := by omega
    have hp := parts_in hc h0 h1 (rd (partsOf (rd_T31 t i)) j) (by rw [rd_at hjl]; exact List.getElem_mem _)
    have h32 := Ct_len hc hp.1 hp.2
    have hof := OfR_some t hF hc _ hp.1 hp.2 k (by clear hp; omega)
    have hdr : ((partsOf (rd_T31 t i)).take n).drop j = rd (partsOf (rd_T31 t i)) j :: ((partsOf (rd_T31 t i)).take n).drop (j + 1) := by
      rw [List.drop_eq_getElem_cons (by rw [List.length_take]; clear hp; omega), List.getElem_take, rd_at hjl]
    have hlt : (j : Int) < (n : Int) := by clear hp; omega
    have hr : (0 : Int) ≤ (j : Int) ∧ (j : Int) < ((partsOf (rd_T31 t i)).length : Int) := ⟨Int.natCast_nonneg _, Int.ofNat_lt.2 hjl⟩
    have hk1 : 1 ≤ k := by clear hp; omega
    have hw2 : wrap64 ((s : Int) + ((Ct t (rd (partsOf (rd_T31 t i)) j)).length : Int)) = ((s + (Ct t (rd (partsOf (rd_T31 t i)) j)).length : Nat) : Int) := by
      generalize (Ct t (rd (partsOf (rd_T31 t i)) j)).length = L at *
      clear hp hof hdr
      unfold wrap64; omega
    rw [fescueref03_Ahead.l0, if_pos hlt, if_pos h0, if_pos h1, PartOfR_some _ _ k hk1 (fun e => by have := okT_many ((chk_ok hc).2 i h0 h1) e; clear hp; omega), Option.bind_some, if_pos hr, hof, Option.bind_some, hw, hw2, hdr, List.flatMap_cons, List.length_append]
    generalize (Ct t (rd (partsOf (rd_T31 t i)) j)).length = L at *
    clear hp hof hdr hw2
    rw [ih k (j + 1) (s + L) (by omega) (by omega) (by omega)]
    congr 1
    push_cast
    omega
theorem OffsetR_some (t : List S31) (hF : Few t) (i n : Int) (k : Nat) (hk : 640 ≤ k) : fescueref03_Offset.f k t i n = some (offV t i n) := by
  unfold fescueref03_Offset.f offV
  rw [PartR_some t hF i n k hk, Option.bind_some]
  by_cases hp : (partV t i n).2 = 0
  · obtain ⟨ha, hn0, hn1, hpe⟩ := partV_ok hp
    obtain ⟨hc, h0, h1⟩ := askV_ok ha
    obtain ⟨m, rfl⟩ := Int.eq_ofNat_of_zero_le hn0
    have hm20 : (partsOf (rd_T31 t i)).length ≤ 20 := by
      have := rd_few hF h0 h1
      unfold partsOf
      split
      · exact this
      · split
        · next h5 => have := okT_many ((chk_ok hc).2 i h0 h1) h5; rw [List.length_replicate]; omega
        · simp
    have hm : m < (partsOf (rd_T31 t i)).length := Int.ofNat_lt.1 hn1
    rw [if_pos hp, if_pos hp]
    unfold fescueref03_Ahead.f
    have := aheadR_l0 t hF hc i h0 h1 m (Nat.le_of_lt hm) (by clear hpe hp; omega) m k 0 0 (by clear hpe hp; omega) (by clear hpe hp; omega) (by clear hpe hp; omega)
    rw [List.drop_zero] at this
    have this' : fescueref03_Ahead.l0 k t i (m : Int) 0 0 = some ((0 : Int) + ((((partsOf (rd_T31 t i)).take m).flatMap (Ct t)).length : Int)) := this
    rw [this', Option.bind_some, Int.zero_add]
    unfold aheadV
    rw [Int.toNat_natCast]
  · rw [if_neg hp, if_neg hp]

/-! ### Twin, Same -/
theorem rd31_at {t : List S31} {j : Nat} (h : j < t.length) : rd_T31 t (j : Int) = t[j] := by
  unfold rd_T31
  rw [Int.toNat_natCast, List.getD_eq_getElem?_getD, List.getElem?_eq_getElem h]
  rfl
theorem twin_l0 (t : List S31) (hF : Few t) (d : Nat) : ∀ (k j : Nat) (acc : List S31), j + d = t.length → d < k → acc.length = j → fescueref03_Twin.l0 k t acc (j : Int) = some (acc ++ t.drop j) := by
  have h20 := hF.1
  induction d with
  | zero =>
    intro k j acc hj hk ha
    obtain ⟨k, rfl⟩ : ∃ m, k = m + 1 := ⟨k - 1, by omega⟩
    rw [fescueref03_Twin.l0, if_neg (by omega), List.drop_eq_nil_of_le (by omega)]
    simp
  | succ d ih =>
    intro k j acc hj hk ha
    obtain ⟨k, rfl⟩ : ∃ m, k = m + 1 := ⟨k - 1, by omega⟩
    have hw : wrap64 ((j : Int) + 1) = ((j + 1 : Nat) : Int) := wrap_nat (by omega)
    have hl := hF.2 j (by omega)
    rw [fescueref03_Twin.l0, if_pos (by omega), if_pos (by omega), Option.bind_some, List.length_nil, if_pos (by omega), if_pos (by omega), hw, List.nil_append, ih k (j + 1) _ (by omega) (by omega) (by simp [ha]), List.drop_eq_getElem_cons (show j < t.length by omega), rd31_at (show j < t.length by omega), List.append_assoc]
    rfl
theorem Twin_some (t : List S31) (hF : Few t) (k : Nat) (hk : 24 ≤ k) : fescueref03_Twin.f k t = some t := by
  unfold fescueref03_Twin.f
  have := twin_l0 t hF t.length k 0 [] (by omega) (by have := hF.1; omega) rfl
  rw [List.drop_zero, List.nil_append] at this
  exact this
theorem sameR_l1 (t : List S31) (i : Nat) (hi : i < t.length) (hl : (rd_T31 t i).f3.length ≤ 20) (m : Nat) (ho : ∀ k, m ≤ k → fescueref03_Same.l0 k t t (wrap64 ((i : Int) + 1)) = some true) (d : Nat) : ∀ (k j : Nat), j + d = (rd_T31 t i).f3.length → m + d < k → fescueref03_Same.l1 k t t (i : Int) (j : Int) = some true := by
  induction d with
  | zero =>
    intro k j hj hk
    obtain ⟨k, rfl⟩ : ∃ q, k = q + 1 := ⟨k - 1, by omega⟩
    rw [fescueref03_Same.l1, if_pos (by omega), if_pos (by omega), if_neg (by omega)]
    exact ho k (by omega)
  | succ d ih =>
    intro k j hj hk
    obtain ⟨k, rfl⟩ : ∃ q, k = q + 1 := ⟨k - 1, by omega⟩
    have hw : wrap64 ((j : Int) + 1) = ((j + 1 : Nat) : Int) := wrap_nat (by omega)
    rw [fescueref03_Same.l1, if_pos (by omega), if_pos (by omega), if_pos (by omega), if_pos (by omega), if_pos (by omega), if_pos (by omega), if_pos rfl, hw]
    exact ih k (j + 1) (by omega) (by omega)
theorem sameR_l0 (t : List S31) (hF : Few t) (d : Nat) : ∀ (k j : Nat), j + d = t.length → 24 * d < k → fescueref03_Same.l0 k t t (j : Int) = some true := by
  have h20 := hF.1
  induction d with
  | zero =>
    intro k j hj hk
    obtain ⟨k, rfl⟩ : ∃ q, k = q + 1 := ⟨k - 1, by omega⟩
    rw [fescueref03_Same.l0, if_neg (by omega)]
  | succ d ih =>
    intro k j hj hk
    obtain ⟨k, rfl⟩ : ∃ q, k = q + 2 := ⟨k - 2, by omega⟩
    have hw : wrap64 ((j : Int) + 1) = ((j + 1 : Nat) : Int) := wrap_nat (by omega)
    have hl := hF.2 j (by omega)
    rw [fescueref03_Same.l0, if_pos (by omega), if_pos (by omega), if_pos (by omega), if_pos rfl, if_pos rfl, if_pos rfl, fescueref03_Same.j1, if_neg (by simp)]
    exact sameR_l1 t j (by omega) hl (24 * d + 1) (fun k hk => by rw [hw]; exact ih k (j + 1) (by omega) (by omega)) (rd_T31 t j).f3.length k 0 (by omega) (by omega)
theorem SameR_self (t : List S31) (hF : Few t) (k : Nat) (hk : 640 ≤ k) : fescueref03_Same.f k t t = some true := by
  unfold fescueref03_Same.f
  rw [if_pos rfl]
  exact sameR_l0 t hF t.length k 0 (by omega) (by have := hF.1; omega)
end Go.Proofs.Ytfjmpfecnemoiaa.Q
