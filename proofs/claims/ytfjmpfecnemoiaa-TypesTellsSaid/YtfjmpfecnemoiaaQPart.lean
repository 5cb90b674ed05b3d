/-
  types.parts, types.Part, types.Offset: the types of a type's parts, one of them, and where it begins.
-/
import Derived.Test.YtfjmpfecnemoiaaQRepeat
import Derived.Test.YtfjmpfecnemoiaaQMay
import Derived.Test.YtfjmpfecnemoiaaQx8
namespace Go.Proofs.Ytfjmpfecnemoiaa.Q
open Go.RowKit Go.Proofs.YtfjmpfecnemoiaaW.PrintWords Go.Proofs.YtfjmpfecnemoiaaW.PrintLast Go.Proofs.YtfjmpfecnemoiaaW.PrintMore
set_option linter.unusedVariables false
set_option linter.unusedSimpArgs false

/-- The types of a type's parts. -/
def partsOf (x : S31) : List Int := if x.f0 = 4 then x.f3 else if x.f0 = 5 then List.replicate x.f2.toNat x.f1 else []
/-- An array's number of elements is from 1 to 16. -/
def okParts (x : S31) : Bool := !(x.f0 == 5) || (decide (1 ≤ x.f2) && decide (x.f2 ≤ 16))

def PartsPost (L : List Int) (W : World) (e : Ending) (w' : World) : Prop := ∃ A c, e = .returned (.slice A L.length c) ∧ L.length ≤ c ∧ Kd.C (Kd.int .i64) w' A L.length L ∧ Below W.heap.size W w'

theorem C_filled {w : World} {g n : Nat} {v : Int} (h : w.heap[g]? = some (.cells (filled v n n).toArray 3 (0, 0))) (hn : n ≤ 9223372036854775807) : Kd.C (Kd.int .i64) w (some ⟨g, 0, none⟩) (List.replicate n v).length (List.replicate n v) := by
  refine Kd.C_of_reads (enc := Value.int .i64) (d := (0 : Int)) (h1 := fun _ => rfl) ⟨rfl, by simpa using hn, fun _ => ⟨_, rfl, fun j hj => ?_⟩⟩
  rw [List.length_replicate] at hj
  rw [add_plain, blk_cell h j]
  simp [filled, hj, List.getD_eq_getElem?_getD]

set_option maxHeartbeats 1000000 in
theorem parts_calls (x : S31) (A3 : Option Addr) (c3 : Nat) (W : World) (h3 : Kd.C (Kd.int .i64) W A3 x.f3.length x.f3) (hl : x.f3.length ≤ c3) (ho : okParts x = true) :
    Calls Try.prog 49 #[.agg #[.int .u8 x.f0, .int .i64 x.f1, .int .i64 x.f2, .slice A3 x.f3.length c3]] W (PartsPost (partsOf x) W) := by
  have hu31 := Try.underlying31
  have H3 := Aside0.mk h3
  have HL := Aside0.mk hl
  have HO := Aside0.mk ho
  clear h3 hl ho
  by_cases h4 : x.f0 = 4
  · have k4 : (x.f0 == 4) = true := beq_iff_eq.mpr h4
    have HP := Aside0.mk (show partsOf x = x.f3 from if_pos h4)
    clear h4
    go_enter Try.func49, Try.ntmps49
    go_wp2_with fail
    go_ret
    rw [HP.out]
    exact ⟨A3, c3, rfl, HL.out, Kd.C_alloc H3.out _, below_alloc (Below.refl _ _) _⟩
  · have k4 : (x.f0 == 4) = false := beq_eq_false_iff_ne.mpr h4
    by_cases h5 : x.f0 = 5
    · have k5 : (x.f0 == 5) = true := beq_iff_eq.mpr h5
      have HP := Aside0.mk (show partsOf x = List.replicate x.f2.toNat x.f1 from by unfold partsOf; rw [if_neg h4, if_pos h5])
      have hb : 1 ≤ x.f2 ∧ x.f2 ≤ 16 := by have := HO.out; simp [okParts, h5] at this; omega
      obtain ⟨n, hn⟩ : ∃ n : Nat, x.f2 = (n : Int) := ⟨x.f2.toNat, by omega⟩
      rw [hn] at hb
      have hrep := repeat_calls x.f1 n 1 (by omega) (by omega) ⟨W.heap.size + 1, 0, none⟩ ((W.alloc (.cells #[.int .u8 x.f0, .int .i64 x.f1, .int .i64 (n : Int), .slice A3 x.f3.length c3] 31)).alloc (.cells #[.int .i64 x.f1] 3)) (by simp)
      have HREP := Aside0.mk hrep
      have HN := Aside0.mk (show x.f2.toNat = n from by omega)
      have HB := Aside0.mk hb
      rw [hn]
      clear h4 h5 hrep hn hb
      go_enter Try.func49, Try.ntmps49
      go_wp2_with fail
      refine HREP.out.mono ?_
      rintro e w' ⟨g, rfl, hg, hb⟩
      have HG := Aside0.mk hg
      have HBB := Aside0.mk hb
      clear HREP hg hb
      go_wp2_with fail
      go_ret
      rw [HP.out, HN.out]
      exact ⟨_, n, by simp, by simp, C_filled HG.out (by have := HB.out; omega), below_then (below_alloc (below_alloc (Below.refl _ _) _) _) (by simp; omega) HBB.out⟩
    · have k5 : (x.f0 == 5) = false := beq_eq_false_iff_ne.mpr h5
      have HP := Aside0.mk (show partsOf x = [] from by unfold partsOf; rw [if_neg h4, if_neg h5])
      clear h4 h5
      go_enter Try.func49, Try.ntmps49
      go_wp2_with fail
      go_ret
      rw [HP.out]
      exact ⟨none, 0, rfl, Nat.le_refl _, Kd.C_nil _ _, below_alloc (Below.refl _ _) _⟩

def partAns (l0 : List S31) (a1 a2 : Int) : Option (Int × Int) :=
  if 0 ≤ a1 then (if a1 < (l0.length : Int) then (if okParts (rd_T31 l0 a1) then
    (if there (partsOf (rd_T31 l0 a1)).length [a2] then some (rd (partsOf (rd_T31 l0 a1)) a2, 0) else some (0, 2)) else none) else none) else none
def types_Part.f (k : Nat) (l0 : List S31) (a1 a2 : Int) : Option (Int × Int) :=
  (types_asked.f k l0 a1).bind fun e => if e = 0 then partAns l0 a1 a2 else some (0, e)
theorem types_Part.mono : ∀ a0 a1 a2 k, LeO (types_Part.f k a0 a1 a2) (types_Part.f (k + 1) a0 a1 a2) := by
  intro a0 a1 a2 k
  unfold types_Part.f
  exact LeO.bind (types_asked.mono _ _ _) (fun _ => LeO.refl _)

set_option maxHeartbeats 2000000 in
theorem types_Part.calls (k : Nat) (A0 : Option Addr) (c0 : Nat) (l0 : List S31) (a1 : Int) (a2 : Int) (r1 : Int) (r2 : Int) (w : World) (hr0 : Kd.C k31 w A0 l0.length l0) (hc0 : l0.length ≤ c0) (h : types_Part.f k l0 a1 a2 = some (r1, r2)) :
    Calls Try.prog 21 #[.slice A0 l0.length c0, .int .i64 a1, .int .i64 a2] w fun e w' => e = .returned (.tuple #[.int .i64 r1, .int .i64 r2]) ∧ Below w.heap.size w w' := by
  have hu31 := Try.underlying31
  obtain ⟨er, he, h⟩ := Option.bind_eq_some_iff.1 h
  have hasked := types_asked.calls k A0 c0 l0 a1 er w hr0 hc0 he
  have HASKED := Aside0.mk hasked
  have HR0 := Aside0.mk hr0
  clear hasked he hr0 hc0
  by_cases e0 : er = 0
  · rw [if_pos e0] at h
    subst e0
    unfold partAns at h
    by_cases h0 : 0 ≤ a1
    · rw [if_pos h0] at h
      by_cases h1 : a1 < (l0.length : Int)
      · rw [if_pos h1] at h
        by_cases ho : okParts (rd_T31 l0 a1) = true
        · rw [if_pos ho] at h
          obtain ⟨ad, A3, c3, e, hx0, hx1, hx2, hx3, hl3, hr3⟩ := at_T31B HR0.out a1 h0 h1
          cases e
          have hparts := fun (W : World) (hb : Below w.heap.size w W) => parts_calls (rd_T31 l0 a1) A3 c3 W (hr3 W hb) hl3 ho
          have HPARTS := Aside0.mk hparts
          have H := Aside0.mk h
          have HX := Aside0.mk (And.intro hx0 (And.intro hx1 (And.intro hx2 hx3)))
          clear hparts h ho hl3 hr3 hx0 hx1 hx2 hx3
          generalize rd_T31 l0 a1 = x at *
          go_enter Try.func21, Try.ntmps21
          go_wp2_with fail
          refine HASKED.out.mono ?_
          rintro e w1 ⟨rfl, hb⟩
          have hx0 := HX.out.1 w1 hb
          have hx1 := HX.out.2.1 w1 hb
          have hx2 := HX.out.2.2.1 w1 hb
          have hx3 := HX.out.2.2.2 w1 hb
          have HB := Aside0.mk hb
          clear hb HASKED HX
          go_wp2_with fail
          refine (HPARTS.out _ HB.out).mono ?_
          rintro e w2 ⟨A, c, rfl, hlc, hC, hb⟩
          generalize partsOf x = L at *
          have HB2 := Aside0.mk (below_then HB.out HB.out.size hb)
          have HC := Aside0.mk hC
          have hthere := there_calls0 (L.length : Int) _ 1 [a2] _ (C_one w2 a2)
          clear hx0 hx1 hx2 hx3 hlc hC hb HB HPARTS
          cases hq : there (L.length : Int) [a2]
          · rw [hq] at hthere
            have HQ := Aside0.mk hq
            have HT := Aside0.mk hthere
            clear hq hthere
            go_wp2_with fail
            refine HT.out.mono ?_
            rintro e w3 ⟨rfl, hb⟩
            have HB3 := Aside0.mk (below_then HB2.out HB2.out.size (below_then (below_alloc (Below.refl _ _) _) (by simp) hb))
            clear hb HT HB2
            go_wp2_with fail
            go_ret2
            have h := H.out
            rw [if_neg (by rw [HQ.out]; simp)] at h
            injection h with h
            exact ⟨by rw [← (Prod.mk.inj h).1, ← (Prod.mk.inj h).2]; rfl, HB3.out⟩
          · rw [hq] at hthere
            have HQ := Aside0.mk hq
            have HT := Aside0.mk hthere
            have g0 : 0 ≤ a2 := by simp [there] at hq; omega
            have g1 : a2 < (L.length : Int) := by simp [there] at hq; omega
            clear hq hthere
            go_wp2_with fail
            refine HT.out.mono ?_
            rintro e w3 ⟨rfl, hb⟩
            have hb2 := below_then (below_alloc (Below.refl w2.heap.size w2) (.cells #[.int .i64 a2] 3)) (by simp) hb
            obtain ⟨aa, ea, hx⟩ := Kd.at_int (Kd.C_below HC.out hb2) a2 g0 g1
            cases ea
            have HB3 := Aside0.mk (below_then HB2.out HB2.out.size hb2)
            clear hb HT HB2 hb2
            go_wp2_with fail
            go_ret2
            have h := H.out
            rw [if_pos HQ.out] at h
            injection h with h
            exact ⟨by rw [← (Prod.mk.inj h).1, ← (Prod.mk.inj h).2]; rfl, HB3.out⟩
        · rw [if_neg ho] at h; cases h
      · rw [if_neg h1] at h; cases h
    · rw [if_neg h0] at h; cases h
  · rw [if_neg e0] at h
    have e0b : (er != 0) = true := bne_iff_ne.mpr e0
    have H := Aside0.mk (Option.some.inj h)
    clear h e0
    go_enter Try.func21, Try.ntmps21
    go_wp2_with fail
    refine HASKED.out.mono ?_
    rintro e w1 ⟨rfl, hb⟩
    have HB := Aside0.mk hb
    clear hb HASKED
    go_wp2_with fail
    go_ret2
    exact ⟨by rw [← (Prod.mk.inj H.out).1, ← (Prod.mk.inj H.out).2]; rfl, HB.out⟩

/-- How many cells stand ahead. -/
def offs (k : Nat) (l0 : List S31) (L : List Int) (at_ : Int) : Option Int := L.foldlM (fun s x => (types_cells.f k l0 x).bind fun c => some (wrap64 (s + (c.length : Int)))) at_
def offAns (k : Nat) (l0 : List S31) (a1 a2 : Int) : Option (Int × Int) :=
  if 0 ≤ a1 then (if a1 < (l0.length : Int) then (if okParts (rd_T31 l0 a1) then (if 0 ≤ a2 then (if a2 ≤ ((partsOf (rd_T31 l0 a1)).length : Int) then
    (offs k l0 ((partsOf (rd_T31 l0 a1)).take a2.toNat) 0).bind fun s => some (s, 0) else none) else none) else none) else none) else none
def types_Offset.f (k : Nat) (l0 : List S31) (a1 a2 : Int) : Option (Int × Int) :=
  (types_Part.f k l0 a1 a2).bind fun e => if e.2 = 0 then offAns k l0 a1 a2 else some (0, e.2)
theorem foldlM_mono2 {f g : Int → Int → Option Int} (h : ∀ a p r, f a p = some r → g a p = some r) (ps : List Int) : ∀ a r, ps.foldlM f a = some r → ps.foldlM g a = some r := by
  induction ps with
  | nil => intro a r h'; exact h'
  | cons p ps ih =>
    intro a r h'
    rw [List.foldlM_cons] at h' ⊢
    obtain ⟨b, h1, h2⟩ := Option.bind_eq_some_iff.1 h'
    exact Option.bind_eq_some_iff.2 ⟨b, h _ _ _ h1, ih _ _ h2⟩
theorem offs_mono (k : Nat) (l0 : List S31) (L : List Int) (s : Int) : LeO (offs k l0 L s) (offs (k + 1) l0 L s) := fun r h =>
  foldlM_mono2 (fun a p r h => (LeO.bind (types_cells.mono _ _ _) (fun _ => LeO.refl _)) r h) _ _ _ h
theorem types_Offset.mono : ∀ a0 a1 a2 k, LeO (types_Offset.f k a0 a1 a2) (types_Offset.f (k + 1) a0 a1 a2) := by
  intro a0 a1 a2 k
  unfold types_Offset.f offAns
  refine LeO.bind (types_Part.mono _ _ _ _) (fun _ => LeO.ite (LeO.ite (LeO.ite (LeO.ite (LeO.ite (LeO.ite (LeO.bind (offs_mono _ _ _ _) (fun _ => LeO.refl _)) (LeO.refl _)) (LeO.refl _)) (LeO.refl _)) (LeO.refl _)) (LeO.refl _)) (LeO.refl _))

set_option maxHeartbeats 2000000 in
theorem types_Offset.calls (k : Nat) (A0 : Option Addr) (c0 : Nat) (l0 : List S31) (a1 : Int) (a2 : Int) (r1 : Int) (r2 : Int) (w : World) (hr0 : Kd.C k31 w A0 l0.length l0) (hc0 : l0.length ≤ c0) (h : types_Offset.f k l0 a1 a2 = some (r1, r2)) :
    Calls Try.prog 22 #[.slice A0 l0.length c0, .int .i64 a1, .int .i64 a2] w fun e w' => e = .returned (.tuple #[.int .i64 r1, .int .i64 r2]) ∧ Below w.heap.size w w' := by
  have hu31 := Try.underlying31
  obtain ⟨⟨p, er⟩, he, h⟩ := Option.bind_eq_some_iff.1 h
  have hpart := types_Part.calls k A0 c0 l0 a1 a2 p er w hr0 hc0 he
  have HPART := Aside0.mk hpart
  have HR0 := Aside0.mk hr0
  have HC0 := Aside0.mk hc0
  clear hpart he hr0 hc0
  by_cases e0 : er = 0
  · rw [if_pos e0] at h
    subst e0
    unfold offAns at h
    by_cases h0 : 0 ≤ a1
    · rw [if_pos h0] at h
      by_cases h1 : a1 < (l0.length : Int)
      · rw [if_pos h1] at h
        by_cases ho : okParts (rd_T31 l0 a1) = true
        · rw [if_pos ho] at h
          by_cases h2 : 0 ≤ a2
          · rw [if_pos h2] at h
            by_cases h3 : a2 ≤ ((partsOf (rd_T31 l0 a1)).length : Int)
            · rw [if_pos h3] at h
              obtain ⟨s, hs, h⟩ := Option.bind_eq_some_iff.1 h
              obtain ⟨rfl, rfl⟩ := Prod.mk.inj (Option.some.inj h)
              obtain ⟨ad, A3, c3, e, hx0, hx1, hx2, hx3, hl3, hr3⟩ := at_T31B HR0.out a1 h0 h1
              have HEAD := Aside0.mk e
              cases e
              have hparts := fun (W : World) (hb : Below w.heap.size w W) => parts_calls (rd_T31 l0 a1) A3 c3 W (hr3 W hb) hl3 ho
              have HPARTS := Aside0.mk hparts
              have H := Aside0.mk hs
              have HX := Aside0.mk (And.intro hx0 (And.intro hx1 (And.intro hx2 hx3)))
              clear hparts h hs ho hl3 hr3 hx0 hx1 hx2 hx3
              generalize rd_T31 l0 a1 = x at *
              go_enter Try.func22, Try.ntmps22
              go_wp2_with fail
              refine HPART.out.mono ?_
              rintro e w1 ⟨rfl, hb⟩
              have hx0 := HX.out.1 w1 hb
              have hx1 := HX.out.2.1 w1 hb
              have hx2 := HX.out.2.2.1 w1 hb
              have hx3 := HX.out.2.2.2 w1 hb
              have HB := Aside0.mk hb
              clear hb HPART HX
              go_wp2_with fail
              refine (HPARTS.out _ HB.out).mono ?_
              rintro e w2 ⟨A, c, rfl, hlc, hC, hb⟩
              obtain ⟨i3, hi3, hz3⟩ := Option.map_eq_some_iff.1 info3
              obtain ⟨hsl, hrd, hle⟩ := print_take_int (P := Try.prog) (k := .i64) 29 3 Try.underlying29 hi3 (Prod.mk.inj (Prod.mk.inj hz3).2).1 A c (partsOf x) a2 h2 h3 hlc
              have HB2 := Aside0.mk (below_then HB.out HB.out.size hb)
              have HC := Aside0.mk (Kd.C_of_reads (enc := Value.int .i64) (d := (0 : Int)) (h1 := fun _ => rfl) (hrd _ (Kd.reads_of_C (d := (0 : Int)) hC)))
              generalize hL : (partsOf x).take a2.toNat = L at *
              clear hx0 hx1 hx2 hx3 hlc hC hb HB HPARTS hrd hle hL hi3 hz3
              go_wp2_with fail
              have hbig : (L.length : Int) ≤ 9223372036854775807 := by have := HC.out.2.1; omega
              go_loopg [6, 11, 30] L.length (fun gg v6 v11 v30 Wr => ∃ (j : Nat) (z : Int), j ≤ L.length ∧ L.length - j ≤ gg ∧ v30 = .int .i64 j ∧ v6 = .int .i64 z ∧ Aside0 (offs k l0 (L.drop j) z = some s) ∧ Aside0 (Below w2.heap.size w2 Wr))
              case atStart => exact ⟨0, 0, Nat.zero_le _, by omega, rfl, rfl, H, ⟨Below.refl _ _⟩⟩
              case round =>
                obtain ⟨j, z, hj, hg, rfl, rfl, HO, HB⟩ := hrel
                by_cases hlt : j < L.length
                · have hltz : (j : Int) < (L.length : Int) := by omega
                  obtain ⟨ad3, e3, hx⟩ := Kd.at_int (Kd.C_below HC.out HB.out) (j : Int) (by omega) hltz
                  rw [Int.toNat_natCast, rd_at hlt] at hx
                  cases e3
                  have ho := HO.out
                  unfold offs at ho
                  rw [List.drop_eq_getElem_cons hlt, List.foldlM_cons] at ho
                  obtain ⟨z1, hz1, ho⟩ := Option.bind_eq_some_iff.1 ho
                  obtain ⟨cs, hcs, hz1⟩ := Option.bind_eq_some_iff.1 hz1
                  have hcall := types_cells.calls k (some ad) c0 l0 L[j] cs wr (Kd.C_below HR0.out (below_then HB2.out HB2.out.size HB.out)) HC0.out hcs
                  have HCALL := Aside0.mk hcall
                  have HO2 := Aside0.mk ho
                  have HZ := Aside0.mk (Option.some.inj hz1)
                  clear hcall ho hz1 hcs HO
                  generalize L[j] = y at *
                  go_wp2_with fail
                  refine HCALL.out.mono ?_
                  rintro e w3 ⟨v, rfl, hR, hb⟩
                  obtain ⟨A4, c4, rfl, _, _⟩ := Kd.R_reads hR
                  have HB3 := Aside0.mk (below_then HB.out HB.out.size hb)
                  clear hR hb HCALL HB hx
                  go_wp2_with fail
                  go_roundg (L.length - (j + 1))
                  case measure => omega
                  case rel => exact ⟨j + 1, z1, by omega, by omega, by go_num, by rw [HZ.out], HO2, HB3⟩
                · have hltz : ¬ (j : Int) < (L.length : Int) := by omega
                  have ho := HO.out
                  rw [List.drop_eq_nil_of_le (by omega)] at ho
                  have HO2 := Aside0.mk (Option.some.inj ho)
                  have HB3 := Aside0.mk (below_then HB2.out HB2.out.size HB.out)
                  clear ho HO HB
                  go_wp2_with fail
                  go_ret2
                  exact ⟨by rw [← HO2.out]; rfl, HB3.out⟩
            · rw [if_neg h3] at h; cases h
          · rw [if_neg h2] at h; cases h
        · rw [if_neg ho] at h; cases h
      · rw [if_neg h1] at h; cases h
    · rw [if_neg h0] at h; cases h
  · rw [if_neg e0] at h
    have e0b : (er != 0) = true := bne_iff_ne.mpr e0
    have H := Aside0.mk (Option.some.inj h)
    clear h e0
    go_enter Try.func22, Try.ntmps22
    go_wp2_with fail
    refine HPART.out.mono ?_
    rintro e w1 ⟨rfl, hb⟩
    have HB := Aside0.mk hb
    clear hb HPART
    go_wp2_with fail
    go_ret2
    exact ⟨by rw [← (Prod.mk.inj H.out).1, ← (Prod.mk.inj H.out).2]; rfl, HB.out⟩
end Go.Proofs.Ytfjmpfecnemoiaa.Q
