/-
  Flat fields, in plain Lean: what the walker keeps, of fields and of cells.
-/
import Derived.Test.YtfjmpfecnemoiaaQScal
import Derived.Test.YtfjmpfecnemoiaaQStep
namespace Go.Proofs.Ytfjmpfecnemoiaa.Q
open Go.RowKit Go.Proofs.YtfjmpfecnemoiaaW.PrintWords Go.Proofs.YtfjmpfecnemoiaaW.PrintLast Go.Proofs.YtfjmpfecnemoiaaW.PrintMore
set_option linter.unusedVariables false
set_option linter.unusedSimpArgs false

/-- The flat fields of a type, with so many types within each other. -/
def ff : Nat → List S31 → Int → List Int
  | 0, _, _ => []
  | n + 1, t, i => if (rd_T31 t i).f0 = 4 then (rd_T31 t i).f3.flatMap (ff n t) else if (rd_T31 t i).f0 = 5 then ff n t (rd_T31 t i).f1 else [i]
/-- One behind the other, each by so much further on. -/
def cat (g : Int → List Int) (s : Int → Nat) : List Int → Int → List Int
  | [], _ => []
  | p :: ps, b => (g p).map (· + b) ++ cat g s ps (b + s p)
/-- The flat fields of a type's cells. -/
def fi : Nat → List S31 → Int → List Int
  | 0, _, _ => []
  | n + 1, t, i => if (rd_T31 t i).f0 = 4 then cat (fi n t) (fun p => (ff n t p).length) (rd_T31 t i).f3 0
    else if (rd_T31 t i).f0 = 5 then (List.replicate (rd_T31 t i).f2.toNat (rd_T31 t i).f1).flatMap (fi n t) else [0]
def Manys (t : List S31) (N : Int) : Prop := ∀ i, 0 ≤ i → i < N → (rd_T31 t i).f0 = 5 → 1 ≤ (rd_T31 t i).f2 ∧ (rd_T31 t i).f2 ≤ 1000

theorem cat_map (g : Int → List Int) (s : Int → Nat) (c : Int) : ∀ (L : List Int) (b : Int), (cat g s L b).map (· + c) = cat g s L (b + c) := by
  intro L
  induction L with
  | nil => intro b; rfl
  | cons p L ih =>
    intro b
    rw [cat, cat, List.map_append, ih, List.map_map, show b + (s p : Int) + c = b + c + s p from by omega]
    congr 1
    exact List.map_congr_left fun x _ => by simp only [Function.comp]; omega
theorem cat_congr {g g' : Int → List Int} {s s' : Int → Nat} : ∀ (L : List Int) (b : Int), (∀ p ∈ L, g p = g' p ∧ s p = s' p) → cat g s L b = cat g' s' L b := by
  intro L
  induction L with
  | nil => intro b _; rfl
  | cons p L ih =>
    intro b h
    have hp := h p (List.mem_cons_self ..)
    rw [cat, cat, hp.1, hp.2, ih _ (fun q hq => h q (List.mem_cons_of_mem _ hq))]

theorem part_low {t : List S31} {i : Int} (h : Low t i) (h5 : (rd_T31 t i).f0 = 5) (h2 : 1 ≤ (rd_T31 t i).f2) : 0 ≤ (rd_T31 t i).f1 ∧ (rd_T31 t i).f1 < i := by
  refine h _ ?_
  rw [partsOf, if_neg (by rw [h5]; decide), if_pos h5]
  exact List.mem_replicate.2 ⟨by omega, rfl⟩
theorem part_low4 {t : List S31} {i : Int} (h : Low t i) (h4 : (rd_T31 t i).f0 = 4) : ∀ p ∈ (rd_T31 t i).f3, 0 ≤ p ∧ p < i := by
  intro p hp
  exact h p (by rw [partsOf, if_pos h4]; exact hp)

theorem ff_fuel (t : List S31) (N : Int) (hN : Lows t N) (hM : Manys t N) : ∀ (n m : Nat) (i : Int), 0 ≤ i → i < N → i < n → i < m → ff n t i = ff m t i := by
  intro n
  induction n with
  | zero => intro m i h0 _ h1; omega
  | succ n ih =>
    intro m i h0 hi h1 h2
    obtain ⟨m, rfl⟩ : ∃ k, m = k + 1 := ⟨m - 1, by omega⟩
    rw [ff, ff]
    by_cases h4 : (rd_T31 t i).f0 = 4
    · rw [if_pos h4, if_pos h4]
      refine flatMap_congr fun p hp => ?_
      have := part_low4 (hN i h0 hi) h4 p hp
      exact ih m p this.1 (by omega) (by omega) (by omega)
    · rw [if_neg h4, if_neg h4]
      by_cases h5 : (rd_T31 t i).f0 = 5
      · rw [if_pos h5, if_pos h5]
        have := part_low (hN i h0 hi) h5 (hM i h0 hi h5).1
        exact ih m _ this.1 (by omega) (by omega) (by omega)
      · rw [if_neg h5, if_neg h5]
theorem fi_fuel (t : List S31) (N : Int) (hN : Lows t N) (hM : Manys t N) : ∀ (n m : Nat) (i : Int), 0 ≤ i → i < N → i < n → i < m → fi n t i = fi m t i := by
  intro n
  induction n with
  | zero => intro m i h0 _ h1; omega
  | succ n ih =>
    intro m i h0 hi h1 h2
    obtain ⟨m, rfl⟩ : ∃ k, m = k + 1 := ⟨m - 1, by omega⟩
    rw [fi, fi]
    by_cases h4 : (rd_T31 t i).f0 = 4
    · rw [if_pos h4, if_pos h4]
      refine cat_congr _ _ fun p hp => ?_
      have := part_low4 (hN i h0 hi) h4 p hp
      exact ⟨ih m p this.1 (by omega) (by omega) (by omega), by rw [ff_fuel t N hN hM n m p this.1 (by omega) (by omega) (by omega)]⟩
    · rw [if_neg h4, if_neg h4]
      by_cases h5 : (rd_T31 t i).f0 = 5
      · rw [if_pos h5, if_pos h5]
        have := part_low (hN i h0 hi) h5 (hM i h0 hi h5).1
        refine flatMap_congr fun p hp => ?_
        obtain rfl := List.eq_of_mem_replicate hp
        exact ih m _ this.1 (by omega) (by omega) (by omega)
      · rw [if_neg h5, if_neg h5]

theorem len_flatMap_le {f g : Int → List Int} : ∀ (L : List Int), (∀ p ∈ L, (f p).length ≤ (g p).length) → (L.flatMap f).length ≤ (L.flatMap g).length := by
  intro L
  induction L with
  | nil => intro _; simp
  | cons p L ih =>
    intro h
    rw [List.flatMap_cons, List.flatMap_cons, List.length_append, List.length_append]
    have := h p (List.mem_cons_self ..)
    have := ih (fun q hq => h q (List.mem_cons_of_mem _ hq))
    omega
theorem ff_le (t : List S31) (N : Int) (hN : Lows t N) (hM : Manys t N) : ∀ (n : Nat) (i : Int), 0 ≤ i → i < N → (ff n t i).length ≤ (ct n t i).length := by
  intro n
  induction n with
  | zero => intro i _ _; simp [ff]
  | succ n ih =>
    intro i h0 hi
    rw [ff, ct]
    by_cases h4 : (rd_T31 t i).f0 = 4
    · rw [if_pos h4, if_pos h4]
      refine len_flatMap_le _ fun p hp => ?_
      have := part_low4 (hN i h0 hi) h4 p hp
      exact ih p this.1 (by omega)
    · rw [if_neg h4, if_neg h4]
      by_cases h5 : (rd_T31 t i).f0 = 5
      · rw [if_pos h5, if_pos h5]
        have hm := (hM i h0 hi h5).1
        have := part_low (hN i h0 hi) h5 hm
        obtain ⟨m, hm'⟩ : ∃ m, (rd_T31 t i).f2.toNat = m + 1 := ⟨(rd_T31 t i).f2.toNat - 1, by omega⟩
        rw [hm', List.replicate_succ, List.flatMap_cons, List.length_append]
        have := ih (rd_T31 t i).f1 this.1 (by omega)
        omega
      · rw [if_neg h5, if_neg h5]
        simp

/-! ### the walker -/
theorem fold_walkT {k : Nat} {t : List S31} : ∀ (ps : List Int) (fl : Int) (out : List Int), (∀ p ∈ ps, ∀ (f : Int) (o : List Int), 0 ≤ f → f + (ct k t p).length < 1099511627776 → o.length + (ct k t p).length < 1099511627776 → walkF k true t p (f, o) = some (f + ((ff k t p).length : Int), o ++ ff k t p)) →
    (∀ p ∈ ps, (ff k t p).length ≤ (ct k t p).length) → 0 ≤ fl → fl + (ps.flatMap (ct k t)).length < 1099511627776 → out.length + (ps.flatMap (ct k t)).length < 1099511627776 →
    ps.foldlM (fun a p => walkF k true t p a) (fl, out) = some (fl + ((ps.flatMap (ff k t)).length : Int), out ++ ps.flatMap (ff k t)) := by
  intro ps
  induction ps with
  | nil => intro fl out _ _ _ _ _; simp
  | cons p ps ih =>
    intro fl out h hle h0 h1 h2
    rw [List.flatMap_cons, List.length_append] at h1 h2
    have hp := hle p (List.mem_cons_self ..)
    rw [List.foldlM_cons, h p (List.mem_cons_self ..) fl out h0 (by omega) (by omega)]
    show (List.foldlM _ (fl + ((ff k t p).length : Int), out ++ ff k t p) ps) = _
    rw [ih _ _ (fun q hq => h q (List.mem_cons_of_mem _ hq)) (fun q hq => hle q (List.mem_cons_of_mem _ hq)) (by omega) (by omega) (by rw [List.length_append]; omega), List.flatMap_cons, List.append_assoc, List.length_append]
    refine congrArg some (Prod.ext ?_ rfl)
    show fl + _ + _ = fl + _
    omega
theorem walkT (t : List S31) (N : Int) (hN : Lows t N) (hNt : N ≤ t.length) (hM : Manys t N) : ∀ (k : Nat) (i : Int) (fl : Int) (out : List Int), 0 ≤ i → i < N → i < k → 0 ≤ fl → fl + (ct k t i).length < 1099511627776 → out.length + (ct k t i).length < 1099511627776 →
    walkF k true t i (fl, out) = some (fl + ((ff k t i).length : Int), out ++ ff k t i) := by
  intro k
  induction k with
  | zero => intro i fl out h0 _ h1; omega
  | succ k ih =>
    intro i fl out h0 hi h1 hf hl ho
    have hle := ff_le t N hN hM k
    rw [walkF, if_pos h0, if_pos (by omega)]
    rw [ct] at hl ho
    rw [ff]
    by_cases h4 : (rd_T31 t i).f0 = 4
    · rw [if_pos h4, if_pos h4]
      rw [if_pos h4] at hl ho
      have hlow := part_low4 (hN i h0 hi) h4
      exact fold_walkT _ fl out (fun p hp f o hf' hl' ho' => ih p f o (hlow p hp).1 (by have := (hlow p hp).2; omega) (by have := (hlow p hp).2; omega) hf' hl' ho') (fun p hp => hle p (hlow p hp).1 (by have := (hlow p hp).2; omega)) hf hl ho
    · rw [if_neg h4, if_neg h4]
      rw [if_neg h4] at hl ho
      by_cases h5 : (rd_T31 t i).f0 = 5
      · have hm := hM i h0 hi h5
        have hlow := part_low (hN i h0 hi) h5 hm.1
        rw [if_pos h5, if_pos h5, if_pos hm.2, if_pos rfl]
        rw [if_pos h5] at hl ho
        obtain ⟨m, hm'⟩ : ∃ m, (rd_T31 t i).f2.toNat = m + 1 := ⟨(rd_T31 t i).f2.toNat - 1, by omega⟩
        rw [hm', List.replicate_succ, List.flatMap_cons, List.length_append] at hl ho
        rw [hm', show min 1 (m + 1) = 1 from by omega, List.replicate_one, List.foldlM_cons, ih _ fl out hlow.1 (by omega) (by omega) hf (by omega) (by omega)]
        rfl
      · rw [if_neg h5, if_neg h5]
        rw [if_neg h5] at hl ho
        simp at hl ho
        rw [if_pos (by show out.length < _; omega)]
        refine congrArg some (Prod.ext ?_ rfl)
        show wrap64 (fl + 1) = fl + (([i] : List Int).length : Int)
        unfold wrap64
        simp
        omega

theorem fold_walkF {k : Nat} {t : List S31} : ∀ (ps : List Int) (fl : Int) (out : List Int), (∀ p ∈ ps, ∀ (f : Int) (o : List Int), 0 ≤ f → f + (ct k t p).length < 1099511627776 → o.length + (ct k t p).length < 1099511627776 → walkF k false t p (f, o) = some (f + ((ff k t p).length : Int), o ++ (fi k t p).map (· + f))) →
    (∀ p ∈ ps, (ff k t p).length ≤ (ct k t p).length ∧ (fi k t p).length = (ct k t p).length) → 0 ≤ fl → fl + (ps.flatMap (ct k t)).length < 1099511627776 → out.length + (ps.flatMap (ct k t)).length < 1099511627776 →
    ps.foldlM (fun a p => walkF k false t p a) (fl, out) = some (fl + ((ps.flatMap (ff k t)).length : Int), out ++ cat (fi k t) (fun p => (ff k t p).length) ps fl) := by
  intro ps
  induction ps with
  | nil => intro fl out _ _ _ _ _; simp [cat]
  | cons p ps ih =>
    intro fl out h hle h0 h1 h2
    rw [List.flatMap_cons, List.length_append] at h1 h2
    have hp := hle p (List.mem_cons_self ..)
    rw [List.foldlM_cons, h p (List.mem_cons_self ..) fl out h0 (by omega) (by omega)]
    show (List.foldlM _ (fl + ((ff k t p).length : Int), out ++ (fi k t p).map (· + fl)) ps) = _
    rw [ih _ _ (fun q hq => h q (List.mem_cons_of_mem _ hq)) (fun q hq => hle q (List.mem_cons_of_mem _ hq)) (by omega) (by omega) (by rw [List.length_append, List.length_map]; omega), List.flatMap_cons, List.append_assoc, List.length_append, cat]
    refine congrArg some (Prod.ext ?_ rfl)
    show fl + _ + _ = fl + _
    omega
theorem fold_arr {k : Nat} {t : List S31} (p : Int) (fl : Int) (h0 : 0 ≤ fl) (h : ∀ (o : List Int), o.length + (ct k t p).length < 1099511627776 → walkF k false t p (fl, o) = some (fl + ((ff k t p).length : Int), o ++ (fi k t p).map (· + fl))) (hl : (fi k t p).length = (ct k t p).length) : ∀ (m : Nat) (f : Int) (out : List Int),
    out.length + ((List.replicate (m + 1) p).flatMap (ct k t)).length < 1099511627776 → (List.replicate (m + 1) p).foldlM (fun b q => walkF k false t q (fl, b.2)) (f, out) = some (fl + ((ff k t p).length : Int), out ++ ((List.replicate (m + 1) p).flatMap (fi k t)).map (· + fl)) := by
  intro m
  induction m with
  | zero =>
    intro f out hb
    rw [Nat.zero_add, List.replicate_one] at hb ⊢
    simp only [List.flatMap_cons, List.flatMap_nil, List.append_nil] at hb ⊢
    rw [List.foldlM_cons, h out hb]
    rfl
  | succ m ih =>
    intro f out hb
    rw [List.replicate_succ, List.flatMap_cons, List.length_append] at hb
    rw [List.replicate_succ, List.foldlM_cons, h out (by omega)]
    show (List.replicate (m + 1) p).foldlM (fun (b : Int × List Int) q => walkF k false t q (fl, b.2)) (fl + ((ff k t p).length : Int), out ++ (fi k t p).map (· + fl)) = _
    rw [ih _ _ (by rw [List.length_append, List.length_map]; omega), List.flatMap_cons, List.map_append, List.append_assoc]
theorem cat_len {g : Int → List Int} {s : Int → Nat} : ∀ (L : List Int) (b : Int), (cat g s L b).length = (L.flatMap g).length := by
  intro L
  induction L with
  | nil => intro b; rfl
  | cons p L ih => intro b; rw [cat, List.length_append, List.length_map, ih, List.flatMap_cons, List.length_append]
theorem flat_len_congr {f g : Int → List Int} : ∀ (L : List Int), (∀ p ∈ L, (f p).length = (g p).length) → (L.flatMap f).length = (L.flatMap g).length := by
  intro L
  induction L with
  | nil => intro _; rfl
  | cons p L ih =>
    intro h
    rw [List.flatMap_cons, List.flatMap_cons, List.length_append, List.length_append, h p (List.mem_cons_self ..), ih (fun q hq => h q (List.mem_cons_of_mem _ hq))]
theorem fi_len (t : List S31) : ∀ (n : Nat) (i : Int), (fi n t i).length = (ct n t i).length := by
  intro n
  induction n with
  | zero => intro i; rfl
  | succ n ih =>
    intro i
    rw [fi, ct]
    by_cases h4 : (rd_T31 t i).f0 = 4
    · rw [if_pos h4, if_pos h4, cat_len]
      exact flat_len_congr _ fun p _ => ih p
    · rw [if_neg h4, if_neg h4]
      by_cases h5 : (rd_T31 t i).f0 = 5
      · rw [if_pos h5, if_pos h5]
        exact flat_len_congr _ fun p _ => ih p
      · rw [if_neg h5, if_neg h5]
        rfl
theorem walkFl (t : List S31) (N : Int) (hN : Lows t N) (hNt : N ≤ t.length) (hM : Manys t N) : ∀ (k : Nat) (i : Int) (fl : Int) (out : List Int), 0 ≤ i → i < N → i < k → 0 ≤ fl → fl + (ct k t i).length < 1099511627776 → out.length + (ct k t i).length < 1099511627776 →
    walkF k false t i (fl, out) = some (fl + ((ff k t i).length : Int), out ++ (fi k t i).map (· + fl)) := by
  intro k
  induction k with
  | zero => intro i fl out h0 _ h1; omega
  | succ k ih =>
    intro i fl out h0 hi h1 hf hl ho
    have hle := ff_le t N hN hM k
    rw [walkF, if_pos h0, if_pos (by omega)]
    rw [ct] at hl ho
    rw [ff, fi]
    by_cases h4 : (rd_T31 t i).f0 = 4
    · rw [if_pos h4, if_pos h4, if_pos h4, cat_map, Int.zero_add]
      rw [if_pos h4] at hl ho
      have hlow := part_low4 (hN i h0 hi) h4
      exact fold_walkF _ fl out (fun p hp f o hf' hl' ho' => ih p f o (hlow p hp).1 (by have := (hlow p hp).2; omega) (by have := (hlow p hp).2; omega) hf' hl' ho') (fun p hp => ⟨hle p (hlow p hp).1 (by have := (hlow p hp).2; omega), fi_len t k p⟩) hf hl ho
    · rw [if_neg h4, if_neg h4, if_neg h4]
      rw [if_neg h4] at hl ho
      by_cases h5 : (rd_T31 t i).f0 = 5
      · have hm := hM i h0 hi h5
        have hlow := part_low (hN i h0 hi) h5 hm.1
        rw [if_pos h5, if_pos h5, if_pos h5, if_pos hm.2, if_neg (by simp)]
        rw [if_pos h5] at hl ho
        obtain ⟨m, hm'⟩ : ∃ m, (rd_T31 t i).f2.toNat = m + 1 := ⟨(rd_T31 t i).f2.toNat - 1, by omega⟩
        rw [hm'] at hl ho ⊢
        have hl1 : (ct k t (rd_T31 t i).f1).length ≤ ((List.replicate (m + 1) (rd_T31 t i).f1).flatMap (ct k t)).length := by
          rw [List.replicate_succ, List.flatMap_cons, List.length_append]; omega
        exact fold_arr _ fl hf (fun o ho' => ih _ fl o hlow.1 (by omega) (by omega) hf (by omega) ho') (fi_len t k _) m fl out ho
      · rw [if_neg h5, if_neg h5, if_neg h5]
        rw [if_neg h5] at hl ho
        simp at hl ho
        rw [if_pos (by show out.length < _; omega)]
        refine congrArg some (Prod.ext ?_ ?_)
        · show wrap64 (fl + 1) = fl + (([i] : List Int).length : Int)
          unfold wrap64
          simp
          omega
        · show out ++ [toldOf false i fl] = out ++ [0 + fl]
          simp [toldOf]
end Go.Proofs.Ytfjmpfecnemoiaa.Q
