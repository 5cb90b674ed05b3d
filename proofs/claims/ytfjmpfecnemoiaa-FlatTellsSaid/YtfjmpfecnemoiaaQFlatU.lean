/-
  Flat fields of a table that may be: what flat's functions answer, and what follows.
-/
import Derived.Test.YtfjmpfecnemoiaaQFlatT
namespace Go.Proofs.Ytfjmpfecnemoiaa.Q
open Go.RowKit Go.Proofs.YtfjmpfecnemoiaaW.PrintWords Go.Proofs.YtfjmpfecnemoiaaW.PrintLast Go.Proofs.YtfjmpfecnemoiaaW.PrintMore
set_option linter.unusedVariables false
set_option linter.unusedSimpArgs false

theorem manys_of {t : List S31} (h : chk t = 0) : Manys t t.length := fun i h0 h1 h5 => by
  have := okT_many ((chk_ok h).2 i h0 h1) h5
  omega
def Ff (t : List S31) (i : Int) : List Int := ff (t.length + 1) t i
def Fi (t : List S31) (i : Int) : List Int := fi (t.length + 1) t i
section
variable {t : List S31} (h : chk t = 0)
include h
theorem ff_is (n : Nat) (i : Int) (h0 : 0 ≤ i) (hi : i < t.length) (h1 : i < n) : ff n t i = Ff t i := ff_fuel t t.length (chk_ok h).2.lows (manys_of h) n (t.length + 1) i h0 hi h1 (by omega)
theorem fi_is (n : Nat) (i : Int) (h0 : 0 ≤ i) (hi : i < t.length) (h1 : i < n) : fi n t i = Fi t i := fi_fuel t t.length (chk_ok h).2.lows (manys_of h) n (t.length + 1) i h0 hi h1 (by omega)
theorem Ff_of {i : Int} (h0 : 0 ≤ i) (hi : i < t.length) : Ff t i = if (rd_T31 t i).f0 = 4 then (rd_T31 t i).f3.flatMap (Ff t) else if (rd_T31 t i).f0 = 5 then Ff t (rd_T31 t i).f1 else [i] := by
  have hl := (chk_ok h).2.lows i h0 hi
  rw [Ff, ff]
  by_cases h4 : (rd_T31 t i).f0 = 4
  · rw [if_pos h4, if_pos h4]
    refine flatMap_congr fun p hp => ?_
    have := part_low4 hl h4 p hp
    exact ff_is h _ p this.1 (by omega) (by omega)
  · rw [if_neg h4, if_neg h4]
    by_cases h5 : (rd_T31 t i).f0 = 5
    · rw [if_pos h5, if_pos h5]
      have := part_low hl h5 (manys_of h i h0 hi h5).1
      exact ff_is h _ _ this.1 (by omega) (by omega)
    · rw [if_neg h5, if_neg h5]
theorem Fi_of {i : Int} (h0 : 0 ≤ i) (hi : i < t.length) : Fi t i = if (rd_T31 t i).f0 = 4 then cat (Fi t) (fun p => (Ff t p).length) (rd_T31 t i).f3 0 else if (rd_T31 t i).f0 = 5 then (List.replicate (rd_T31 t i).f2.toNat (rd_T31 t i).f1).flatMap (Fi t) else [0] := by
  have hl := (chk_ok h).2.lows i h0 hi
  rw [Fi, fi]
  by_cases h4 : (rd_T31 t i).f0 = 4
  · rw [if_pos h4, if_pos h4]
    refine cat_congr _ _ fun p hp => ?_
    have := part_low4 hl h4 p hp
    exact ⟨fi_is h _ p this.1 (by omega) (by omega), by rw [ff_is h _ p this.1 (by omega) (by omega)]⟩
  · rw [if_neg h4, if_neg h4]
    by_cases h5 : (rd_T31 t i).f0 = 5
    · rw [if_pos h5, if_pos h5]
      have := part_low hl h5 (manys_of h i h0 hi h5).1
      refine flatMap_congr fun p hp => ?_
      obtain rfl := List.eq_of_mem_replicate hp
      exact fi_is h _ _ this.1 (by omega) (by omega)
    · rw [if_neg h5, if_neg h5]
theorem Ct_of4 {i : Int} (h0 : 0 ≤ i) (hi : i < t.length) (h4 : (rd_T31 t i).f0 = 4) : Ct t i = (rd_T31 t i).f3.flatMap (Ct t) := by
  rw [Ct_of h h0 hi, if_pos (Or.inl h4), partsOf, if_pos h4]
theorem Ct_of5 {i : Int} (h0 : 0 ≤ i) (hi : i < t.length) (h5 : (rd_T31 t i).f0 = 5) : Ct t i = (List.replicate (rd_T31 t i).f2.toNat (rd_T31 t i).f1).flatMap (Ct t) := by
  rw [Ct_of h h0 hi, if_pos (Or.inr h5), partsOf, if_neg (by rw [h5]; decide), if_pos h5]
theorem Ct_of0 {i : Int} (h0 : 0 ≤ i) (hi : i < t.length) (h4 : (rd_T31 t i).f0 ≠ 4) (h5 : (rd_T31 t i).f0 ≠ 5) : Ct t i = [i] := by
  rw [Ct_of h h0 hi, if_neg (by simp [h4, h5])]
theorem Fi_len {i : Int} (h0 : 0 ≤ i) (hi : i < t.length) : (Fi t i).length = (Ct t i).length := by
  rw [← fi_is h (t.length + 1) i h0 hi (by omega), fi_len, ct_is t t.length (chk_ok h).2.lows (Int.le_refl _) _ i h0 hi (by omega)]
theorem Ff_le {i : Int} (h0 : 0 ≤ i) (hi : i < t.length) : (Ff t i).length ≤ (Ct t i).length := by
  rw [← ff_is h (t.length + 1) i h0 hi (by omega), ← ct_is t t.length (chk_ok h).2.lows (Int.le_refl _) (t.length + 1) i h0 hi (by omega)]
  exact ff_le t t.length (chk_ok h).2.lows (manys_of h) _ i h0 hi
end

/-! ### the functions -/
theorem Fields_some (t : List S31) (hF : Few t) (i : Int) (k : Nat) (hk : 24 ≤ k) : flat_Fields.f k t i = some (if askV t i = 0 then (Ff t i, 0) else ([], askV t i)) := by
  unfold flat_Fields.f
  rw [Cells_some t hF i k hk, Option.bind_some]
  by_cases ha : askV t i = 0
  · obtain ⟨hc, h0, h1⟩ := askV_ok ha
    have hl := (chk_ok hc).1
    have hct := ct_is t t.length (chk_ok hc).2.lows (Int.le_refl _) k i h0 h1 (by omega)
    have h32 := Ct_len hc h0 h1
    rw [if_pos ha, if_pos ha, if_pos rfl, walkT t t.length (chk_ok hc).2.lows (Int.le_refl _) (manys_of hc) k i 0 [] h0 h1 (by omega) (by omega) (by rw [hct]; omega) (by rw [hct]; simp; omega), Option.bind_some, ff_is hc k i h0 h1 (by omega)]
    rfl
  · rw [if_neg ha, if_neg ha, if_neg ha]
def flatV (t : List S31) (i c : Int) : Int × Int := if askV t i = 0 then (if 0 ≤ c ∧ c < (Ct t i).length then (rd (Fi t i) c, 0) else (0, 2)) else (0, askV t i)
theorem Flat_some (t : List S31) (hF : Few t) (i c : Int) (k : Nat) (hk : 24 ≤ k) : flat_Flat.f k t i c = some (flatV t i c) := by
  unfold flat_Flat.f flatV
  rw [Cells_some t hF i k hk, Option.bind_some]
  by_cases ha : askV t i = 0
  · obtain ⟨hc, h0, h1⟩ := askV_ok ha
    have hl := (chk_ok hc).1
    have hct := ct_is t t.length (chk_ok hc).2.lows (Int.le_refl _) k i h0 h1 (by omega)
    have h32 := Ct_len hc h0 h1
    have hfl := Fi_len hc h0 h1
    rw [if_pos ha, if_pos ha, if_pos rfl, walkFl t t.length (chk_ok hc).2.lows (Int.le_refl _) (manys_of hc) k i 0 [] h0 h1 (by omega) (by omega) (by rw [hct]; omega) (by rw [hct]; simp; omega), Option.bind_some, fi_is hc k i h0 h1 (by omega)]
    have hm : ([] ++ (Fi t i).map (· + (0 : Int))) = Fi t i := by simp
    rw [hm]
    dsimp only
    rw [hfl]
    by_cases hc0 : 0 ≤ c
    · rw [if_pos hc0]
      by_cases hc1 : c < (Ct t i).length
      · rw [if_pos hc1, if_pos ⟨hc0, hc1⟩]
      · rw [if_neg hc1, if_neg (fun h => hc1 h.2)]
    · rw [if_neg hc0, if_neg (fun h => hc0 h.1)]
  · rw [if_neg ha, if_neg ha, if_neg ha]
theorem steps_some (t : List S31) (hF : Few t) (h : chk t = 0) (k : Nat) (hk : 24 ≤ k) : ∀ (L : List Int) (s : Nat), (∀ p ∈ L, 0 ≤ p ∧ p < t.length) → s + (L.flatMap (Ff t)).length < 4611686018427387904 → steps k t L (s : Int) = some ((s : Int) + ((L.flatMap (Ff t)).length : Int)) := by
  intro L
  induction L with
  | nil => intro s _ _; simp [steps]
  | cons p L ih =>
    intro s hp hl
    have h1 := hp p (List.mem_cons_self ..)
    rw [List.flatMap_cons, List.length_append] at hl
    have ih' := ih (s + (Ff t p).length) (fun q hq => hp q (List.mem_cons_of_mem _ hq)) (by omega)
    unfold steps at ih' ⊢
    rw [List.foldlM_cons, Fields_some t hF p k hk, if_pos (askV_mk h h1.1 h1.2), Option.bind_some]
    show (List.foldlM _ (wrap64 ((s : Int) + ((Ff t p).length : Int))) L) = _
    rw [show wrap64 ((s : Int) + ((Ff t p).length : Int)) = ((s + (Ff t p).length : Nat) : Int) from by unfold wrap64; omega, ih', List.flatMap_cons, List.length_append]
    refine congrArg some ?_
    omega
/-- How many flat fields stand ahead of a part. -/
def stepA (t : List S31) (i n : Int) : Int := if (rd_T31 t i).f0 = 5 then 0 else ((((rd_T31 t i).f3.take n.toNat).flatMap (Ff t)).length : Int)
def stepV (t : List S31) (i n : Int) : Int × Int := if (partV t i n).2 = 0 then (stepA t i n, 0) else (0, (partV t i n).2)
theorem Step_some (t : List S31) (hF : Few t) (i n : Int) (k : Nat) (hk : 24 ≤ k) : flat_Step.f k t i n = some (stepV t i n) := by
  unfold flat_Step.f stepV
  rw [Part_some t hF i n k hk, Option.bind_some]
  by_cases hp : (partV t i n).2 = 0
  · rw [if_pos hp, if_pos hp]
    obtain ⟨ha, hn0, hn1, _⟩ := partV_ok hp
    obtain ⟨hc, h0, h1⟩ := askV_ok ha
    unfold stepAns stepA
    rw [if_pos h0, if_pos h1]
    by_cases h5 : (rd_T31 t i).f0 = 5
    · rw [if_pos h5, if_pos h5]
    · rw [if_neg h5, if_neg h5]
      have hne : partsOf (rd_T31 t i) ≠ [] := by intro e; rw [e] at hn1; simp at hn1; omega
      have h4 : (rd_T31 t i).f0 = 4 := (parts_kind hne).resolve_right h5
      have hL : partsOf (rd_T31 t i) = (rd_T31 t i).f3 := by rw [partsOf, if_pos h4]
      rw [hL] at hn1
      rw [if_pos hn0, if_pos (by omega)]
      have hin := parts_in hc h0 h1
      rw [hL] at hin
      have hle := flatMap_take_le (rd_T31 t i).f3 (Ff t) n.toNat
      have h32 := Ct_len hc h0 h1
      have hle2 : ((rd_T31 t i).f3.flatMap (Ff t)).length ≤ ((rd_T31 t i).f3.flatMap (Ct t)).length := len_flatMap_le _ fun p hp => Ff_le hc (hin p hp).1 (hin p hp).2
      rw [Ct_of4 hc h0 h1 h4] at h32
      have ho := steps_some t hF hc k hk ((rd_T31 t i).f3.take n.toNat) 0 (fun p hp => hin p (List.mem_of_mem_take hp)) (by omega)
      rw [show ((0 : Nat) : Int) = 0 from rfl] at ho
      rw [ho, Option.bind_some]
      simp
  · rw [if_neg hp, if_neg hp]

/-! ### what follows -/
theorem rd_app (P F R : List Int) (f : Int) (h0 : 0 ≤ f) (h1 : f < F.length) : rd (P ++ (F ++ R)) (f + P.length) = rd F f := by
  obtain ⟨n, rfl⟩ := Int.eq_ofNat_of_zero_le h0
  unfold rd
  rw [show ((n : Int) + (P.length : Int)).toNat = P.length + n from by omega, Int.toNat_natCast, List.getD_eq_getElem?_getD, List.getD_eq_getElem?_getD, List.getElem?_append_right (by omega), show P.length + n - P.length = n from by omega, List.getElem?_append_left (by omega)]
theorem cat_facts {c g f : Int → List Int} : ∀ (L : List Int) (P : List Int), (∀ p ∈ L, c p = (g p).map (rd (f p)) ∧ ∀ x ∈ g p, 0 ≤ x ∧ x < (f p).length) →
    L.flatMap c = (cat g (fun p => (f p).length) L P.length).map (rd (P ++ L.flatMap f)) ∧ ∀ x ∈ cat g (fun p => (f p).length) L P.length, (P.length : Int) ≤ x ∧ x < (P.length : Int) + (L.flatMap f).length := by
  intro L
  induction L with
  | nil => intro P _; exact ⟨rfl, fun x hx => by cases hx⟩
  | cons p L ih =>
    intro P h
    obtain ⟨hp, hb⟩ := h p (List.mem_cons_self ..)
    obtain ⟨i1, i2⟩ := ih (P ++ f p) (fun q hq => h q (List.mem_cons_of_mem _ hq))
    rw [List.length_append, List.append_assoc] at i1
    rw [List.length_append] at i2
    push_cast at i1 i2
    constructor
    · rw [List.flatMap_cons, List.flatMap_cons, cat, List.map_append, List.map_map, i1, hp]
      congr 1
      exact List.map_congr_left fun x hx => (rd_app P (f p) (L.flatMap f) x (hb x hx).1 (hb x hx).2).symm
    · intro x hx
      rw [cat] at hx
      rw [List.flatMap_cons, List.length_append]
      rcases List.mem_append.1 hx with hx | hx
      · obtain ⟨y, hy, rfl⟩ := List.mem_map.1 hx
        have := hb y hy
        omega
      · have := i2 x hx
        omega
theorem cat_all {g : Int → List Int} {s : Int → Nat} : ∀ (L : List Int) (b : Int), (∀ p ∈ L, ∀ n : Nat, n < s p → (n : Int) ∈ g p) → ∀ x : Int, b ≤ x → x < b + ((L.map s).sum : Nat) → x ∈ cat g s L b := by
  intro L
  induction L with
  | nil => intro b _ x h1 h2; simp at h2; omega
  | cons p L ih =>
    intro b h x h1 h2
    rw [cat]
    rw [List.map_cons, List.sum_cons] at h2
    by_cases hx : x < b + s p
    · refine List.mem_append_left _ (List.mem_map.2 ⟨x - b, ?_, by omega⟩)
      have := h p (List.mem_cons_self ..) (x - b).toNat (by omega)
      rwa [show (((x - b).toNat : Nat) : Int) = x - b from by omega] at this
    · exact List.mem_append_right _ (ih _ (fun q hq => h q (List.mem_cons_of_mem _ hq)) x (by omega) (by omega))
theorem sum_len (f : Int → List Int) (L : List Int) : (L.map fun p => (f p).length).sum = (L.flatMap f).length := by
  induction L with
  | nil => rfl
  | cons p L ih => rw [List.map_cons, List.sum_cons, ih, List.flatMap_cons, List.length_append]

theorem flat_facts {t : List S31} (h : chk t = 0) (n : Nat) : ∀ i : Int, 0 ≤ i → i < t.length → i < n →
    Ct t i = (Fi t i).map (rd (Ff t i)) ∧ (∀ x ∈ Fi t i, 0 ≤ x ∧ x < (Ff t i).length) ∧ ∀ m : Nat, m < (Ff t i).length → (m : Int) ∈ Fi t i := by
  induction n with
  | zero => intro i h0 _ h1; omega
  | succ n ih =>
    intro i h0 h1 hn
    have hl := (chk_ok h).2.lows i h0 h1
    rw [Ff_of h h0 h1, Fi_of h h0 h1]
    by_cases h4 : (rd_T31 t i).f0 = 4
    · rw [if_pos h4, if_pos h4, Ct_of4 h h0 h1 h4]
      have hlow := part_low4 hl h4
      have ih' := fun p (hp : p ∈ (rd_T31 t i).f3) => ih p (hlow p hp).1 (by have := (hlow p hp).2; omega) (by have := (hlow p hp).2; omega)
      obtain ⟨a, b⟩ := cat_facts (c := Ct t) (g := Fi t) (f := Ff t) (rd_T31 t i).f3 [] (fun p hp => ⟨(ih' p hp).1, (ih' p hp).2.1⟩)
      refine ⟨a, fun x hx => by have := b x hx; simpa using this, fun m hm => ?_⟩
      refine cat_all _ 0 (fun p hp => (ih' p hp).2.2) m (by omega) ?_
      rw [sum_len]
      omega
    · rw [if_neg h4, if_neg h4]
      by_cases h5 : (rd_T31 t i).f0 = 5
      · have hm := manys_of h i h0 h1 h5
        have hlow := part_low hl h5 hm.1
        rw [if_pos h5, if_pos h5, Ct_of5 h h0 h1 h5]
        obtain ⟨i1, i2, i3⟩ := ih (rd_T31 t i).f1 hlow.1 (by omega) (by omega)
        refine ⟨?_, fun x hx => ?_, fun m hm' => ?_⟩
        · rw [List.map_flatMap]
          refine flatMap_congr fun p hp => ?_
          obtain rfl := List.eq_of_mem_replicate hp
          exact i1
        · obtain ⟨p, hp, hx⟩ := List.mem_flatMap.1 hx
          obtain rfl := List.eq_of_mem_replicate hp
          exact i2 x hx
        · exact List.mem_flatMap.2 ⟨_, List.mem_replicate.2 ⟨by omega, rfl⟩, i3 m hm'⟩
      · rw [if_neg h5, if_neg h5, Ct_of0 h h0 h1 h4 h5]
        refine ⟨rfl, fun x hx => ?_, fun m hm => ?_⟩
        · obtain rfl := List.mem_singleton.1 hx
          simp
        · simp at hm
          subst hm
          simp
theorem no_arrays {t : List S31} (h : chk t = 0) (hn : ∀ j : Nat, j < t.length → (rd_T31 t j).f0 ≠ 5) (n : Nat) : ∀ i : Int, 0 ≤ i → i < t.length → i < n → Ff t i = Ct t i := by
  induction n with
  | zero => intro i h0 _ h1; omega
  | succ n ih =>
    intro i h0 h1 hi
    have hl := (chk_ok h).2.lows i h0 h1
    obtain ⟨j, rfl⟩ := Int.eq_ofNat_of_zero_le h0
    have h5 := hn j (by omega)
    rw [Ff_of h h0 h1]
    by_cases h4 : (rd_T31 t j).f0 = 4
    · rw [if_pos h4, Ct_of4 h h0 h1 h4]
      refine flatMap_congr fun p hp => ?_
      have := part_low4 hl h4 p hp
      exact ih p this.1 (by omega) (by omega)
    · rw [if_neg h4, if_neg h5, Ct_of0 h h0 h1 h4 h5]
theorem cat_append (g : Int → List Int) (s : Int → Nat) : ∀ (A B : List Int) (b : Int), cat g s (A ++ B) b = cat g s A b ++ cat g s B (b + ((A.map s).sum : Nat)) := by
  intro A
  induction A with
  | nil => intro B b; simp [cat]
  | cons p A ih =>
    intro B b
    rw [List.cons_append, cat, cat, ih, List.append_assoc, List.map_cons, List.sum_cons]
    congr 3
    omega
/-- The flat field of a part's cell: the step to the part, and the cell's own one in it. -/
theorem flat_part {t : List S31} (h : chk t = 0) {i : Int} (h0 : 0 ≤ i) (h1 : i < t.length) (n : Nat) (hn : n < (partsOf (rd_T31 t i)).length) (c : Nat) (hc : c < (Ct t (rd (partsOf (rd_T31 t i)) n)).length) :
    rd (Fi t i) (aheadV t i n + c) = stepA t i n + rd (Fi t (rd (partsOf (rd_T31 t i)) n)) c := by
  have hne : partsOf (rd_T31 t i) ≠ [] := by intro e; rw [e] at hn; simp at hn
  have hin := parts_in h h0 h1
  have hp := hin (rd (partsOf (rd_T31 t i)) n) (by rw [rd_at hn]; exact List.getElem_mem _)
  have hFl := Fi_len h hp.1 hp.2
  have hah : aheadV t i n = (((partsOf (rd_T31 t i)).take n).flatMap (Ct t)).length := by unfold aheadV; rw [Int.toNat_natCast]
  have hcl : ∀ p ∈ (partsOf (rd_T31 t i)).take n, (Fi t p).length = (Ct t p).length := fun p hp' => Fi_len h (hin p (List.mem_of_mem_take hp')).1 (hin p (List.mem_of_mem_take hp')).2
  have hal := flat_len_congr _ hcl
  have e : partsOf (rd_T31 t i) = (partsOf (rd_T31 t i)).take n ++ rd (partsOf (rd_T31 t i)) n :: (partsOf (rd_T31 t i)).drop (n + 1) := by
    rw [rd_at hn, ← List.drop_eq_getElem_cons hn, List.take_append_drop]
  rw [hah, ← hal, Fi_of h h0 h1]
  unfold stepA
  rw [Int.toNat_natCast]
  by_cases h4 : (rd_T31 t i).f0 = 4
  · have hL : partsOf (rd_T31 t i) = (rd_T31 t i).f3 := by rw [partsOf, if_pos h4]
    rw [if_pos h4, if_neg (by rw [h4]; decide)]
    rw [hL] at e hFl hc hal ⊢
    generalize (rd_T31 t i).f3 = L at *
    generalize hp' : rd L n = p at *
    have hcat : cat (Fi t) (fun p => (Ff t p).length) L 0 = cat (Fi t) (fun p => (Ff t p).length) (L.take n) 0 ++ ((Fi t p).map (· + (((L.take n).flatMap (Ff t)).length : Int)) ++ cat (Fi t) (fun p => (Ff t p).length) (L.drop (n + 1)) (0 + (((L.take n).map fun p => (Ff t p).length).sum : Nat) + (Ff t p).length)) := by
      calc cat (Fi t) (fun p => (Ff t p).length) L 0 = cat (Fi t) (fun p => (Ff t p).length) (L.take n ++ p :: L.drop (n + 1)) 0 := congrArg (fun l => cat (Fi t) (fun p => (Ff t p).length) l 0) e
        _ = _ := by
          rw [cat_append, cat]
          congr 2
          refine List.map_congr_left fun x _ => ?_
          rw [sum_len]
          omega
    rw [hcat]
    have hl1 : (cat (Fi t) (fun p => (Ff t p).length) (L.take n) 0).length = ((L.take n).flatMap (Fi t)).length := cat_len _ _
    rw [← hl1, Int.add_comm ((cat (Fi t) (fun p => (Ff t p).length) (L.take n) 0).length : Int) (c : Int), rd_app _ _ _ (c : Int) (by omega) (by rw [List.length_map]; omega)]
    unfold rd
    rw [Int.toNat_natCast, List.getD_eq_getElem?_getD, List.getD_eq_getElem?_getD, List.getElem?_map, List.getElem?_eq_getElem (by omega)]
    simp
    omega
  · have h5 : (rd_T31 t i).f0 = 5 := (parts_kind hne).resolve_left h4
    have hL : partsOf (rd_T31 t i) = List.replicate (rd_T31 t i).f2.toNat (rd_T31 t i).f1 := by rw [partsOf, if_neg h4, if_pos h5]
    rw [if_neg h4, if_pos h5, if_pos h5, ← hL]
    generalize partsOf (rd_T31 t i) = L at *
    have hfl : L.flatMap (Fi t) = (L.take n).flatMap (Fi t) ++ (Fi t (rd L n) ++ (L.drop (n + 1)).flatMap (Fi t)) := by
      calc L.flatMap (Fi t) = (L.take n ++ rd L n :: L.drop (n + 1)).flatMap (Fi t) := by rw [← e]
        _ = _ := by rw [List.flatMap_append, List.flatMap_cons]
    rw [hfl, Int.add_comm (((L.take n).flatMap (Fi t)).length : Int) (c : Int), rd_app _ _ _ (c : Int) (by omega) (by omega), Int.zero_add]
attribute [irreducible] Ff Fi flatV stepA stepV
end Go.Proofs.Ytfjmpfecnemoiaa.Q
