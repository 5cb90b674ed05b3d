/-
  What the slow reference of flat answers: Of, At, To, Fields, Flat, Step, in plain Lean.
-/
import Derived.Test.YtfjmpfecnemoiaaQRefB
import Derived.Test.YtfjmpfecnemoiaaQFlatU
import Derived.Test.YtfjmpfecnemoiaaQx7
namespace Go.Proofs.Ytfjmpfecnemoiaa.Q
open Go.RowKit Go.Proofs.YtfjmpfecnemoiaaW.PrintWords Go.Proofs.YtfjmpfecnemoiaaW.PrintLast Go.Proofs.YtfjmpfecnemoiaaW.PrintMore
set_option linter.unusedVariables false
set_option linter.unusedSimpArgs false

/-! ### Of -/
theorem of4_l0 (t : List S31) (f0 f1 f2 : Int) (L : List Int) (hL : L.length ≤ 20) (m : Nat) (hp : ∀ p ∈ L, (Ff t p).length ≤ 32 ∧ ∀ k, m ≤ k → fescueref04_Of.f k t p = some (Ff t p)) (d : Nat) : ∀ (k j : Nat) (acc : List Int), j + d = L.length → m + d < k → acc.length ≤ 32 * j →
    fescueref04_Of.l0 k t acc (j : Int) f0 f1 f2 L = some (acc ++ (L.drop j).flatMap (Ff t)) := by
  induction d with
  | zero =>
    intro k j acc hj hk ha
    obtain ⟨k, rfl⟩ : ∃ q, k = q + 1 := ⟨k - 1, by omega⟩
    rw [fescueref04_Of.l0, if_neg (by omega), List.drop_eq_nil_of_le (by omega)]
    simp
  | succ d ih =>
    intro k j acc hj hk ha
    obtain ⟨k, rfl⟩ : ∃ q, k = q + 1 := ⟨k - 1, by omega⟩
    have hw : wrap64 ((j : Int) + 1) = ((j + 1 : Nat) : Int) := wrap_nat (by omega)
    obtain ⟨h32, ho⟩ := hp (rd L j) (by rw [rd_at (by omega)]; exact List.getElem_mem _)
    rw [fescueref04_Of.l0, if_pos (by omega), if_pos (by omega), ho k (by omega), Option.bind_some, if_pos (by omega), hw, ih k (j + 1) _ (by omega) (by omega) (by rw [List.length_append]; omega), drop_at L j (by omega), List.flatMap_cons, List.append_assoc]
theorem Ff_len32 {t : List S31} (h : chk t = 0) {i : Int} (h0 : 0 ≤ i) (h1 : i < t.length) : (Ff t i).length ≤ 32 := Nat.le_trans (Ff_le h h0 h1) (Ct_len h h0 h1)
theorem Of4_to (t : List S31) (hF : Few t) (h : chk t = 0) (n : Nat) : ∀ i : Int, 0 ≤ i → i < t.length → i < n → ∀ k, 24 * n ≤ k → fescueref04_Of.f k t i = some (Ff t i) := by
  induction n with
  | zero => intro i h0 _ h1; omega
  | succ n ih =>
    intro i h0 h1 hi k hk
    have hl := rd_few hF h0 h1
    have hlow := (chk_ok h).2.lows i h0 h1
    obtain ⟨k, rfl⟩ : ∃ q, k = q + 1 := ⟨k - 1, by omega⟩
    rw [fescueref04_Of.f, if_pos h0, if_pos h1, Ff_of h h0 h1]
    by_cases e5 : (rd_T31 t i).f0 = 5
    · have hm := manys_of h i h0 h1 e5
      have hp := part_low hlow e5 hm.1
      rw [if_pos e5, if_neg (by rw [e5]; decide), if_pos e5, ih _ hp.1 (by omega) (by omega) k (by omega)]
      rfl
    · rw [if_neg e5]
      by_cases e4 : (rd_T31 t i).f0 = 4
      · have hp := part_low4 hlow e4
        rw [if_pos e4, if_pos e4]
        have := of4_l0 t (rd_T31 t i).f0 (rd_T31 t i).f1 (rd_T31 t i).f2 (rd_T31 t i).f3 hl (24 * n) (fun p hq => by
          have := hp p hq
          exact ⟨Ff_len32 h this.1 (by omega), fun k hk => ih p this.1 (by omega) (by omega) k hk⟩) (rd_T31 t i).f3.length k 0 [] (by omega) (by omega) (by simp)
        rw [List.drop_zero, List.nil_append] at this
        exact this
      · rw [if_neg e4, if_neg e4, if_neg e5]
theorem Of4R_some (t : List S31) (hF : Few t) (h : chk t = 0) (i : Int) (h0 : 0 ≤ i) (h1 : i < t.length) (k : Nat) (hk : 480 ≤ k) : fescueref04_Of.f k t i = some (Ff t i) :=
  Of4_to t hF h 20 i h0 h1 (by have := hF.1; omega) k (by omega)
theorem FieldsR_some (t : List S31) (hF : Few t) (i : Int) (k : Nat) (hk : 640 ≤ k) : fescueref04_Fields.f k t i = some (if askV t i = 0 then (Ff t i, 0) else ([], askV t i)) := by
  unfold fescueref04_Fields.f
  rw [CellsR_some t hF i k hk, Option.bind_some]
  by_cases h : askV t i = 0
  · obtain ⟨hc, h0, h1⟩ := askV_ok h
    rw [if_pos h, if_pos h, if_pos rfl, Of4R_some t hF hc i h0 h1 k (by omega), Option.bind_some]
  · rw [if_neg h, if_neg h, if_neg h]

/-! ### At -/
theorem rd_left (A B : List Int) (c : Nat) (h : c < A.length) : rd (A ++ B) c = rd A c := by
  unfold rd
  rw [Int.toNat_natCast, List.getD_eq_getElem?_getD, List.getD_eq_getElem?_getD, List.getElem?_append_left h]
theorem rd_right (A B : List Int) (c : Nat) (h : A.length ≤ c) : rd (A ++ B) c = rd B ((c - A.length : Nat) : Int) := by
  unfold rd
  rw [Int.toNat_natCast, Int.toNat_natCast, List.getD_eq_getElem?_getD, List.getD_eq_getElem?_getD, List.getElem?_append_right h]
theorem rd_map_add (A : List Int) (b : Int) (c : Nat) (h : c < A.length) : rd (A.map (· + b)) c = rd A c + b := by
  rw [rd_at (by rw [List.length_map]; exact h), rd_at h, List.getElem_map]
theorem rd_rep (p : Int) (f : Int → List Int) (hf : 0 < (f p).length) (n : Nat) : ∀ c : Nat, c < n * (f p).length → rd ((List.replicate n p).flatMap f) c = rd (f p) ((c % (f p).length : Nat) : Int) := by
  induction n with
  | zero => intro c h; simp at h
  | succ n ih =>
    intro c h
    rw [List.replicate_succ, List.flatMap_cons]
    by_cases hc : c < (f p).length
    · rw [rd_left _ _ c hc, Nat.mod_eq_of_lt hc]
    · have hc := Nat.le_of_not_lt hc
      rw [rd_right _ _ c hc, ih (c - (f p).length) (by rw [Nat.succ_mul] at h; omega), Nat.mod_eq_sub_mod hc]
theorem at_l0 (t : List S31) (f0 f1 f2 : Int) (L : List Int) (hL : L.length ≤ 20) (m : Nat) (hm : 480 ≤ m) (hO : ∀ p ∈ L, (Ct t p).length ≤ 32 ∧ (Ff t p).length ≤ 32 ∧ (Fi t p).length = (Ct t p).length ∧ (∀ x ∈ Fi t p, 0 ≤ x ∧ x < 32) ∧ (∀ k, m ≤ k → fescueref03_Of.f k t p = some (Ct t p)) ∧ (∀ k, m ≤ k → fescueref04_Of.f k t p = some (Ff t p)) ∧
      ∀ (c k : Nat), c < (Ct t p).length → m ≤ k → fescueref04_At.f k t p (c : Int) = some (rd (Fi t p) c)) (d : Nat) : ∀ (k j c b : Nat), j + d = L.length → m + d < k → b ≤ 32 * j → c < ((L.drop j).flatMap (Ct t)).length → c < 1000 →
    fescueref04_At.l0 k t (c : Int) (b : Int) (j : Int) f0 f1 f2 L = some (rd (cat (Fi t) (fun p => (Ff t p).length) (L.drop j) b) c) := by
  induction d with
  | zero =>
    intro k j c b hj hk hb hc _
    rw [List.drop_eq_nil_of_le (by omega)] at hc
    simp at hc
  | succ d ih =>
    intro k j c b hj hk hb hc hc1
    obtain ⟨k, rfl⟩ : ∃ q, k = q + 1 := ⟨k - 1, by omega⟩
    have hw : wrap64 ((j : Int) + 1) = ((j + 1 : Nat) : Int) := wrap_nat (by omega)
    have hjL : j < L.length := by omega
    obtain ⟨a1, a2, a3, a3b, a4, a5, a6⟩ := hO (rd L j) (by rw [rd_at hjL]; exact List.getElem_mem _)
    have e1 : (j : Int) < (L.length : Int) := Int.ofNat_lt.2 hjL
    have e2 : m ≤ k := by omega
    rw [drop_at L j hjL, List.flatMap_cons, List.length_append] at hc
    rw [fescueref04_At.l0, if_pos e1, if_pos (Int.natCast_nonneg _), a4 k e2, Option.bind_some, drop_at L j hjL, cat, hw]
    generalize rd L j = p at *
    by_cases hcp : c < (Ct t p).length
    · have hcf : c < (Fi t p).length := by omega
      rw [if_pos (Int.ofNat_lt.2 hcp), a6 c k hcp e2, Option.bind_some, rd_left _ _ c (by rw [List.length_map]; exact hcf), rd_map_add _ _ c hcf]
      have := a3b (rd (Fi t p) c) (by rw [rd_at hcf]; exact List.getElem_mem _)
      generalize rd (Fi t p) c = y at *
      have hw3 : wrap64 ((b : Int) + y) = y + (b : Int) := by unfold wrap64; omega
      rw [hw3]
    · have hcp' := Nat.le_of_not_lt hcp
      have w1 : wrap64 ((c : Int) - ((Ct t p).length : Int)) = ((c - (Ct t p).length : Nat) : Int) := by unfold wrap64; omega
      have w2 : wrap64 ((b : Int) + ((Ff t p).length : Int)) = ((b + (Ff t p).length : Nat) : Int) := by unfold wrap64; omega
      have hcd : c - (Ct t p).length < ((L.drop (j + 1)).flatMap (Ct t)).length := Nat.sub_lt_left_of_lt_add hcp' hc
      have hbd : b + (Ff t p).length ≤ 32 * (j + 1) := Nat.add_le_add hb a2
      have hcl : c - (Ct t p).length < 1000 := Nat.lt_of_le_of_lt (Nat.sub_le _ _) hc1
      have hjd : j + 1 + d = L.length := by clear hc hcd hbd hcl; omega
      have hkd : m + d < k := by clear hc hcd hbd hcl; omega
      rw [if_neg (fun e => hcp (Int.ofNat_lt.1 e)), a5 k e2, Option.bind_some, w1, w2, ih k (j + 1) _ _ hjd hkd hbd hcd hcl, rd_right _ _ c (by rw [List.length_map, a3]; exact hcp'), List.length_map, a3]
      push_cast
      rfl
theorem At_to (t : List S31) (hF : Few t) (h : chk t = 0) (n : Nat) : ∀ i : Int, 0 ≤ i → i < t.length → i < n → ∀ (c k : Nat), c < (Ct t i).length → 480 + 24 * n ≤ k → fescueref04_At.f k t i (c : Int) = some (rd (Fi t i) c) := by
  induction n with
  | zero => intro i h0 _ h1; omega
  | succ n ih =>
    intro i h0 h1 hi c k hc hk
    have hl := rd_few hF h0 h1
    have hlow := (chk_ok h).2.lows i h0 h1
    obtain ⟨k, rfl⟩ : ∃ q, k = q + 1 := ⟨k - 1, by omega⟩
    have h32 := Ct_len h h0 h1
    rw [fescueref04_At.f, if_pos h0, if_pos h1, Fi_of h h0 h1]
    by_cases e5 : (rd_T31 t i).f0 = 5
    · have hm := manys_of h i h0 h1 e5
      have hp := part_low hlow e5 hm.1
      have e4 : (rd_T31 t i).f0 ≠ 4 := by rw [e5]; decide
      have hpl : (rd_T31 t i).f1 < t.length := by omega
      rw [Ct_of5 h h0 h1 e5] at hc
      have hin : (rd_T31 t i).f1 < (n : Int) := by omega
      generalize (rd_T31 t i).f1 = p at *
      have hpos := Ct_pos h t.length p hp.1 hpl (by omega)
      have hlen := Fi_len h hp.1 hpl
      have hrep : ((List.replicate (rd_T31 t i).f2.toNat p).flatMap (Ct t)).length = (rd_T31 t i).f2.toNat * (Ct t p).length := by
        rw [List.length_flatMap]
        simp
      rw [hrep] at hc
      have hmod : Int.tmod (c : Int) ((Ct t p).length : Int) = ((c % (Ct t p).length : Nat) : Int) := rfl
      rw [if_pos e5, if_neg e4, if_pos e5, OfR_some t hF h p hp.1 hpl k (by omega), Option.bind_some, if_neg (by omega), hmod, ih p hp.1 hpl hin (c % (Ct t p).length) k (Nat.mod_lt _ hpos) (by omega), Option.bind_some, rd_rep p (Fi t) (by omega) _ c (by rw [hlen]; exact hc), hlen]
    · rw [if_neg e5]
      by_cases e4 : (rd_T31 t i).f0 = 4
      · have hp := part_low4 hlow e4
        rw [if_pos e4, if_pos e4]
        rw [Ct_of4 h h0 h1 e4] at hc h32
        exact at_l0 t (rd_T31 t i).f0 (rd_T31 t i).f1 (rd_T31 t i).f2 (rd_T31 t i).f3 hl (480 + 24 * n) (by omega) (fun p hq => by
          have hpp := hp p hq
          have hpl : p < t.length := by omega
          have hFf := Ff_len32 h hpp.1 hpl
          obtain ⟨_, hb, _⟩ := flat_facts h t.length p hpp.1 hpl (by omega)
          exact ⟨Ct_len h hpp.1 hpl, hFf, Fi_len h hpp.1 hpl, fun x hx => ⟨(hb x hx).1, by have := (hb x hx).2; omega⟩, fun k hk => OfR_some t hF h p hpp.1 hpl k (by omega), fun k hk => Of4R_some t hF h p hpp.1 hpl k (by omega), fun c k hc hk => ih p hpp.1 hpl (by omega) c k hc hk⟩)
          (rd_T31 t i).f3.length k 0 c 0 (by omega) (by omega) (by omega) (by rw [List.drop_zero]; exact hc) (by omega)
      · rw [if_neg e4, if_neg e4, if_neg e5]
        rw [Ct_of0 h h0 h1 e4 e5] at hc
        have : c = 0 := by simp at hc; exact hc
        subst this
        rfl
theorem FlatR_some (t : List S31) (hF : Few t) (i c : Int) (k : Nat) (hk : 960 ≤ k) : fescueref04_Flat.f k t i c = some (flatV t i c) := by
  unfold fescueref04_Flat.f
  rw [CellsR_some t hF i k (by omega), Option.bind_some]
  have hfv : flatV t i c = if askV t i = 0 then (if 0 ≤ c ∧ c < (Ct t i).length then (rd (Fi t i) c, 0) else (0, 2)) else (0, askV t i) := by unfold flatV; rfl
  rw [hfv]
  by_cases h : askV t i = 0
  · obtain ⟨hc, h0, h1⟩ := askV_ok h
    rw [if_pos h, if_pos h, if_pos rfl]
    dsimp only
    by_cases a : c < 0
    · rw [if_pos a, if_neg (by omega)]
    · rw [if_neg a]
      by_cases b : c ≥ ((Ct t i).length : Int)
      · rw [if_pos b, if_neg (by omega)]
      · have hb := Int.not_le.1 b
        obtain ⟨q, rfl⟩ := Int.eq_ofNat_of_zero_le (Int.not_lt.1 a)
        rw [if_neg b, if_pos ⟨Int.natCast_nonneg _, hb⟩, At_to t hF hc 20 i h0 h1 (by have := hF.1; omega) q k (Int.ofNat_lt.1 hb) (by omega), Option.bind_some]
  · rw [if_neg h, if_neg h, if_neg h]

/-! ### Step -/
theorem to_l0 (t : List S31) (hF : Few t) (hc : chk t = 0) (i : Int) (h0 : 0 ≤ i) (h1 : i < t.length) (h4 : (rd_T31 t i).f0 = 4) (n : Nat) (hn : n ≤ (rd_T31 t i).f3.length) (d : Nat) : ∀ (k j : Nat) (s : Nat), j + d = n → d + 500 < k → s ≤ 32 * j →
    fescueref04_To.l0 k t i (n : Int) (s : Int) (j : Int) = some ((s : Int) + (((((rd_T31 t i).f3.take n).drop j).flatMap (Ff t)).length : Int)) := by
  have h20 := rd_few hF h0 h1
  have hlow := part_low4 ((chk_ok hc).2.lows i h0 h1) h4
  clear h4
  induction d with
  | zero =>
    intro k j s hj hk hs
    obtain ⟨k, rfl⟩ : ∃ m, k = m + 1 := ⟨k - 1, by omega⟩
    rw [fescueref04_To.l0, if_neg (by omega), List.drop_eq_nil_of_le (by rw [List.length_take]; omega)]
    simp
  | succ d ih =>
    intro k j s hj hk hs
    obtain ⟨k, rfl⟩ : ∃ m, k = m + 1 := ⟨k - 1, by omega⟩
    have hw : wrap64 ((j : Int) + 1) = ((j + 1 : Nat) : Int) := wrap_nat (by omega)
    have hjl : j < (rd_T31 t i).f3.length := by omega
    have hp := hlow (rd (rd_T31 t i).f3 j) (by rw [rd_at hjl]; exact List.getElem_mem _)
    have hpl : rd (rd_T31 t i).f3 j < (t.length : Int) := Int.lt_trans hp.2 h1
    have h32 := Ff_len32 hc hp.1 hpl
    have hof := Of4R_some t hF hc _ hp.1 hpl k (by clear hp hpl; omega)
    have hdr : ((rd_T31 t i).f3.take n).drop j = rd (rd_T31 t i).f3 j :: ((rd_T31 t i).f3.take n).drop (j + 1) := by
      rw [List.drop_eq_getElem_cons (by rw [List.length_take]; clear hp hpl; omega), List.getElem_take, rd_at hjl]
    have hlt : (j : Int) < (n : Int) := by clear hp hpl; omega
    have hw2 : wrap64 ((s : Int) + ((Ff t (rd (rd_T31 t i).f3 j)).length : Int)) = ((s + (Ff t (rd (rd_T31 t i).f3 j)).length : Nat) : Int) := by
      generalize (Ff t (rd (rd_T31 t i).f3 j)).length = L at *
      clear hp hof hdr hpl
      unfold wrap64; omega
    rw [fescueref04_To.l0, if_pos hlt, if_pos h0, if_pos h1, if_pos (Int.natCast_nonneg _), if_pos (Int.ofNat_lt.2 hjl), hof, Option.bind_some, hw, hw2, hdr, List.flatMap_cons, List.length_append]
    generalize (Ff t (rd (rd_T31 t i).f3 j)).length = L at *
    clear hp hof hdr hw2 hpl
    rw [ih k (j + 1) (s + L) (by omega) (by omega) (by omega)]
    congr 1
    push_cast
    omega
theorem StepR_some (t : List S31) (hF : Few t) (i n : Int) (k : Nat) (hk : 960 ≤ k) : fescueref04_Step.f k t i n = some (stepV t i n) := by
  unfold fescueref04_Step.f
  rw [PartR_some t hF i n k (by omega), Option.bind_some]
  have hsv : stepV t i n = if (partV t i n).2 = 0 then (stepA t i n, 0) else (0, (partV t i n).2) := by unfold stepV; rfl
  rw [hsv]
  by_cases hp : (partV t i n).2 = 0
  · obtain ⟨ha, hn0, hn1, hpe⟩ := partV_ok hp
    obtain ⟨hc, h0, h1⟩ := askV_ok ha
    obtain ⟨m, rfl⟩ := Int.eq_ofNat_of_zero_le hn0
    have hm : m < (partsOf (rd_T31 t i)).length := Int.ofNat_lt.1 hn1
    have hst : stepA t i m = if (rd_T31 t i).f0 = 5 then 0 else ((((rd_T31 t i).f3.take m).flatMap (Ff t)).length : Int) := by unfold stepA; rw [Int.toNat_natCast]
    rw [if_pos hp, if_pos hp, hst]
    unfold fescueref04_To.f
    rw [if_pos h0, if_pos h1]
    by_cases e5 : (rd_T31 t i).f0 = 5
    · rw [if_pos e5, if_pos e5]; rfl
    · have hne : partsOf (rd_T31 t i) ≠ [] := by intro e; rw [e] at hm; simp at hm
      have h4 := (parts_kind hne).resolve_right e5
      have hL : partsOf (rd_T31 t i) = (rd_T31 t i).f3 := by rw [partsOf, if_pos h4]
      rw [hL] at hm
      have h20 := rd_few hF h0 h1
      have := to_l0 t hF hc i h0 h1 h4 m (Nat.le_of_lt hm) m k 0 0 (by clear hpe hp; omega) (by clear hpe hp; omega) (by clear hpe hp; omega)
      rw [List.drop_zero] at this
      have this' : fescueref04_To.l0 k t i (m : Int) 0 0 = some ((0 : Int) + ((((rd_T31 t i).f3.take m).flatMap (Ff t)).length : Int)) := this
      rw [if_neg e5, if_neg e5, this', Option.bind_some, Int.zero_add]
  · rw [if_neg hp, if_neg hp]
end Go.Proofs.Ytfjmpfecnemoiaa.Q
