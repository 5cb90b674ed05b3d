/-
  The law FlatTypes, over numbers and lists: every flat field is a type's cell's, met by one cell at least; without arrays they are the cells.
-/
import Derived.Test.YtfjmpfecnemoiaaQFlatU
import Derived.Test.YtfjmpfecnemoiaaQx11
namespace Go.Proofs.Ytfjmpfecnemoiaa.Pure
open Go.RowKit Go.Proofs.Ytfjmpfecnemoiaa.Q Go.Proofs.YtfjmpfecnemoiaaW.PrintWords Go.Proofs.YtfjmpfecnemoiaaW.PrintLast
set_option linter.unusedVariables false

theorem alive04 (k : Nat) (hk : 40 ≤ k) : fescuelaw04_alive.f k = some true := by
  have h40 : fescuelaw04_alive.f 40 = some true := by decide +kernel
  obtain ⟨d, rfl⟩ : ∃ d, k = 40 + d := ⟨k - 40, by omega⟩
  clear hk
  induction d with
  | zero => exact h40
  | succ d ih => exact fescuelaw04_alive.mono _ _ ih

theorem ft_l2 (t : List S31) (F C : List Int) (hF : F.length ≤ 32) (ht : t.length ≤ 20) (hno : (∀ j : Nat, j < t.length → (rd_T31 t j).f0 ≠ 5) → F = C) (d : Nat) : ∀ (k j : Nat) (b : Bool), j + d = t.length → d + 40 < k → (b = false → ∀ m : Nat, m < j → (rd_T31 t m).f0 ≠ 5) → fescuelaw04_FlatTypes.l2 k t true F C b (j : Int) = some true := by
  induction d with
  | zero =>
    intro k j b hj hk hb
    obtain ⟨k, rfl⟩ : ∃ q, k = q + 1 := ⟨k - 1, by omega⟩
    rw [fescuelaw04_FlatTypes.l2, if_neg (by omega), if_pos rfl]
    cases b
    · have := hno (fun m hm => hb rfl m (by omega))
      subst this
      rw [if_neg (by simp), same_some F F (by omega) k (by omega), Option.bind_some, beq_self_eq_true]
    · rw [if_pos rfl]
  | succ d ih =>
    intro k j b hj hk hb
    obtain ⟨k, rfl⟩ : ∃ q, k = q + 1 := ⟨k - 1, by omega⟩
    have hw : wrap64 ((j : Int) + 1) = ((j + 1 : Nat) : Int) := wrap_nat (by omega)
    rw [fescuelaw04_FlatTypes.l2, if_pos (by omega), hw]
    cases b
    · rw [if_neg (by simp), if_pos (by omega)]
      refine ih k (j + 1) _ (by omega) (by omega) fun h m hm => ?_
      rcases Nat.lt_succ_iff_lt_or_eq.1 hm with h' | h'
      · exact hb rfl m h'
      · subst h'
        simpa using h
    · rw [if_pos rfl]
      exact ih k (j + 1) true (by omega) (by omega) (fun h => by simp at h)
theorem ft_l1 (t : List S31) (F C : List Int) (M : List Bool) (hF : F.length ≤ 32) (ht : t.length ≤ 20) (hno : (∀ j : Nat, j < t.length → (rd_T31 t j).f0 ≠ 5) → F = C) (hML : M.length ≤ 32) (hM : ∀ m : Nat, m < M.length → rdOf false M (m : Int) = true) (d : Nat) : ∀ (k j : Nat), j + d = M.length → d + 70 < k → fescuelaw04_FlatTypes.l1 k t true F C M (j : Int) = some true := by
  induction d with
  | zero =>
    intro k j hj hk
    obtain ⟨k, rfl⟩ : ∃ q, k = q + 1 := ⟨k - 1, by omega⟩
    rw [fescuelaw04_FlatTypes.l1, if_neg (by omega)]
    exact ft_l2 t F C hF ht hno t.length k 0 false (by omega) (by omega) (fun _ m hm => absurd hm (Nat.not_lt_zero m))
  | succ d ih =>
    intro k j hj hk
    obtain ⟨k, rfl⟩ : ∃ q, k = q + 1 := ⟨k - 1, by omega⟩
    have hw : wrap64 ((j : Int) + 1) = ((j + 1 : Nat) : Int) := wrap_nat (by omega)
    rw [fescuelaw04_FlatTypes.l1, if_pos (by omega), hw, if_pos (by omega), if_pos (hM j (by omega))]
    exact ih k (j + 1) (by omega) (by omega)
theorem rdOf_set (M : List Bool) (n m : Nat) (hn : n < M.length) : rdOf false (M.set n true) (m : Int) = if m = n then true else rdOf false M (m : Int) := by
  unfold rdOf
  rw [Int.toNat_natCast, List.getD_eq_getElem?_getD, List.getD_eq_getElem?_getD, List.getElem?_set]
  by_cases h : m = n
  · subst h
    rw [if_pos rfl, if_pos hn, if_pos rfl]
    rfl
  · rw [if_neg (fun e => h e.symm), if_neg h]
theorem flatV_in {t : List S31} {i : Int} (ha : askV t i = 0) (c : Int) (h0 : 0 ≤ c) (h1 : c < (Ct t i).length) : flatV t i c = (rd (Fi t i) c, 0) := by
  unfold flatV
  rw [if_pos ha, if_pos ⟨h0, h1⟩]
theorem ft_step (K : Nat) (t : List S31) (i : Int) (F C : List Int) (M : List Bool) (x c : Nat) (hfl : flat_Flat.f K t i c = some ((x : Int), 0)) (hc : c < C.length) (hC : C.length ≤ 32) (hx : x < F.length) (hv : rd F x = rd C c) (hM : M.length = F.length) :
    fescuelaw04_FlatTypes.l0 (K + 1) t i true F C M (c : Int) = fescuelaw04_FlatTypes.l0 K t i true F C (M.set x true) ((c + 1 : Nat) : Int) := by
  have hw : wrap64 ((c : Int) + 1) = ((c + 1 : Nat) : Int) := wrap_nat (by clear hv; omega)
  have a1 : ¬ ((x : Int) < 0) := by clear hv; omega
  have a2 : ¬ ((x : Int) ≥ (F.length : Int)) := by clear hv; omega
  have a3 : (x : Int) < (F.length : Int) := by clear hv; omega
  have a4 : (c : Int) < (C.length : Int) := by clear hv; omega
  have a5 : (x : Int) < (M.length : Int) := by clear hv; omega
  rw [fescuelaw04_FlatTypes.l0, if_pos a4, hfl, Option.bind_some]
  dsimp only
  rw [hw, if_pos rfl, if_neg a1, if_neg a2, if_pos (Int.natCast_nonneg _), if_pos a3, if_pos (Int.natCast_nonneg _), if_pos hv, if_pos a5, Int.toNat_natCast]
theorem ft_l0 (t : List S31) (i : Int) (hFw : Few t) (h : chk t = 0) (h0 : 0 ≤ i) (h1 : i < t.length) (d : Nat) : ∀ (k c : Nat) (M : List Bool), c + d = (Ct t i).length → d + 120 < k → M.length = (Ff t i).length → (∀ c' : Nat, c' < c → rdOf false M (rd (Fi t i) c') = true) → fescuelaw04_FlatTypes.l0 k t i true (Ff t i) (Ct t i) M (c : Int) = some true := by
  have h32 := Ct_len h h0 h1
  have hle := Ff_le h h0 h1
  have hlen := Fi_len h h0 h1
  obtain ⟨hC, hb, hs⟩ := flat_facts h t.length i h0 h1 (by omega)
  have ht : t.length ≤ 20 := by have := (chk_ok h).1; omega
  have hno : (∀ j : Nat, j < t.length → (rd_T31 t j).f0 ≠ 5) → Ff t i = Ct t i := fun hn => no_arrays h hn t.length i h0 h1 (by omega)
  induction d with
  | zero =>
    intro k c M hc hk hM hmet
    obtain ⟨k, rfl⟩ : ∃ q, k = q + 1 := ⟨k - 1, by omega⟩
    rw [fescuelaw04_FlatTypes.l0, if_neg (by omega)]
    refine ft_l1 t _ _ M (by omega) ht hno (by omega) (fun m hm => ?_) M.length k 0 (by omega) (by omega)
    obtain ⟨q, hq, e⟩ := List.getElem_of_mem (hs m (by omega))
    have := hmet q (by omega)
    rwa [rd_at hq, e] at this
  | succ d ih =>
    intro k c M hc hk hM hmet
    obtain ⟨k, rfl⟩ : ∃ q, k = q + 1 := ⟨k - 1, by omega⟩
    have hcf : c < (Fi t i).length := by omega
    have hcC : c < (Ct t i).length := by omega
    have hk20 : 24 ≤ k := by omega
    have hmem : rd (Fi t i) c ∈ Fi t i := by rw [rd_at hcf]; exact List.getElem_mem _
    have e1 : c + 1 + d = (Ct t i).length := by omega
    have e2 : d + 120 < k := by omega
    have hCr : rd (Ff t i) (rd (Fi t i) c) = rd (Ct t i) c := by
      rw [rd_at hcC, rd_at hcf]
      have : (Ct t i)[c]'hcC = ((Fi t i).map (rd (Ff t i)))[c]'(by rw [List.length_map]; exact hcf) := by congr 1
      rw [this, List.getElem_map]
    obtain ⟨hin0, hin1⟩ := hb _ hmem
    have hfl := Flat_some t hFw i c k hk20
    rw [flatV_in (askV_mk h h0 h1) c (Int.natCast_nonneg _) (Int.ofNat_lt.2 hcC)] at hfl
    obtain ⟨x, hx⟩ := Int.eq_ofNat_of_zero_le hin0
    rw [hx] at hfl hCr hin1
    have hx1 : x < (Ff t i).length := Int.ofNat_lt.1 hin1
    rw [ft_step k t i (Ff t i) (Ct t i) M x c hfl hcC h32 hx1 hCr hM]
    refine ih k (c + 1) _ e1 e2 (by rw [List.length_set]; exact hM) fun c' hc' => ?_
    have hcf' : c' < (Fi t i).length := by clear hCr hx hin1; omega
    obtain ⟨hin0', _⟩ := hb (rd (Fi t i) c') (by rw [rd_at hcf']; exact List.getElem_mem _)
    obtain ⟨y, hy⟩ := Int.eq_ofNat_of_zero_le hin0'
    rw [hy, rdOf_set M x y (hM ▸ hx1)]
    by_cases hyx : y = x
    · rw [if_pos hyx]
    · rw [if_neg hyx, ← hy]
      refine hmet c' ?_
      rcases Nat.lt_succ_iff_lt_or_eq.1 hc' with h' | h'
      · exact h'
      · subst h'
        exact absurd (Int.ofNat.inj (hy.symm.trans hx)) hyx

theorem FlatTypes (t : List S31) (i : Int) : ∃ K, fescuelaw04_FlatTypes.f K t i = some true := by
  refine ⟨400, ?_⟩
  unfold fescuelaw04_FlatTypes.f
  rw [alive04 400 (by omega), Option.bind_some]
  obtain ⟨b, hb, hF⟩ := great_some t 400 (by omega)
  rw [hb, Option.bind_some]
  have hj0 : fescuelaw04_FlatTypes.j0 400 t i true true = some true := by rw [fescuelaw04_FlatTypes.j0, if_pos rfl]
  cases b
  · rw [if_neg (by simp)]
    have hF := hF rfl
    rw [fescuelaw04_FlatTypes.j0, if_neg (by simp), Fields_some t hF i 399 (by omega), Option.bind_some, Cells_some t hF i 399 (by omega), Option.bind_some]
    by_cases ha : askV t i = 0
    · obtain ⟨hc, h0, h1⟩ := askV_ok ha
      have h32 := Ct_len hc h0 h1
      have hle := Ff_le hc h0 h1
      rw [if_pos ha, if_pos ha]
      dsimp only
      rw [if_pos rfl, show ((0 : Int) != 0) = false from rfl, fescuelaw04_FlatTypes.j1, if_neg (by simp), if_neg (by omega), if_pos (by omega), if_pos (by omega), Int.toNat_natCast]
      exact ft_l0 t i hF hc h0 h1 (Ct t i).length 398 0 _ (by omega) (by omega) (by rw [List.length_replicate]) (fun c' hc' => absurd hc' (Nat.not_lt_zero c'))
    · rw [if_neg ha, if_neg ha]
      dsimp only
      rw [if_neg ha, fescuelaw04_FlatTypes.j1]
      simp
  · rw [if_pos rfl]
    exact hj0
end Go.Proofs.Ytfjmpfecnemoiaa.Pure
