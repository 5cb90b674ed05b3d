/-
  flat.Step: the step to a part.
-/
import Derived.Test.YtfjmpfecnemoiaaQPart
import Derived.Test.YtfjmpfecnemoiaaQFlat
namespace Go.Proofs.Ytfjmpfecnemoiaa.Q
open Go.RowKit Go.Proofs.YtfjmpfecnemoiaaW.PrintWords Go.Proofs.YtfjmpfecnemoiaaW.PrintLast Go.Proofs.YtfjmpfecnemoiaaW.PrintMore
set_option linter.unusedVariables false
set_option linter.unusedSimpArgs false

/-- How many flat fields stand ahead. -/
def steps (k : Nat) (l0 : List S31) (L : List Int) (at_ : Int) : Option Int := L.foldlM (fun s x => (flat_Fields.f k l0 x).bind fun c => some (wrap64 (s + (c.1.length : Int)))) at_
def stepAns (k : Nat) (l0 : List S31) (a1 a2 : Int) : Option (Int × Int) :=
  if 0 ≤ a1 then (if a1 < (l0.length : Int) then (if (rd_T31 l0 a1).f0 = 5 then some (0, 0) else (if 0 ≤ a2 then (if a2 ≤ ((rd_T31 l0 a1).f3.length : Int) then
    (steps k l0 ((rd_T31 l0 a1).f3.take a2.toNat) 0).bind fun s => some (s, 0) else none) else none)) else none) else none
def flat_Step.f (k : Nat) (l0 : List S31) (a1 a2 : Int) : Option (Int × Int) :=
  (types_Part.f k l0 a1 a2).bind fun e => if e.2 = 0 then stepAns k l0 a1 a2 else some (0, e.2)
theorem steps_mono (k : Nat) (l0 : List S31) (L : List Int) (s : Int) : LeO (steps k l0 L s) (steps (k + 1) l0 L s) := fun r h =>
  foldlM_mono2 (fun a p r h => (LeO.bind (flat_Fields.mono _ _ _) (fun _ => LeO.refl _)) r h) _ _ _ h
theorem flat_Step.mono : ∀ a0 a1 a2 k, LeO (flat_Step.f k a0 a1 a2) (flat_Step.f (k + 1) a0 a1 a2) := by
  intro a0 a1 a2 k
  unfold flat_Step.f stepAns
  refine LeO.bind (types_Part.mono _ _ _ _) (fun _ => LeO.ite (LeO.ite (LeO.ite (LeO.ite (LeO.refl _) (LeO.ite (LeO.ite (LeO.bind (steps_mono _ _ _ _) (fun _ => LeO.refl _)) (LeO.refl _)) (LeO.refl _))) (LeO.refl _)) (LeO.refl _)) (LeO.refl _))

set_option maxHeartbeats 2000000 in
theorem flat_Step.calls (k : Nat) (A0 : Option Addr) (c0 : Nat) (l0 : List S31) (a1 : Int) (a2 : Int) (r1 : Int) (r2 : Int) (w : World) (hr0 : Kd.C k31 w A0 l0.length l0) (hc0 : l0.length ≤ c0) (h : flat_Step.f k l0 a1 a2 = some (r1, r2)) :
    Calls Try.prog 27 #[.slice A0 l0.length c0, .int .i64 a1, .int .i64 a2] w fun e w' => e = .returned (.tuple #[.int .i64 r1, .int .i64 r2]) ∧ Below w.heap.size w w' := by
  have hu31 := Try.underlying31
  obtain ⟨⟨p, er⟩, he, h⟩ := Option.bind_eq_some_iff.1 h
  have hpart := types_Part.calls k A0 c0 l0 a1 a2 p er w hr0 hc0 he
  have HPART := Aside0.mk hpart
  have HR0 := Aside0.mk hr0
  have HC0 := Aside0.mk hc0
  clear hpart he hr0 hc0
  by_cases e0 : er = 0
  · rw [if_pos e0] at h
    subst e0
    unfold stepAns at h
    by_cases h0 : 0 ≤ a1
    · rw [if_pos h0] at h
      by_cases h1 : a1 < (l0.length : Int)
      · rw [if_pos h1] at h
        obtain ⟨ad, A3, c3, e, hx0, hx1, hx2, hx3, hl3, hr3⟩ := at_T31B HR0.out a1 h0 h1
        cases e
        have HX := Aside0.mk (And.intro hx0 (And.intro hx1 (And.intro hx2 hx3)))
        clear hx0 hx1 hx2 hx3
        generalize rd_T31 l0 a1 = x at *
        by_cases h5 : x.f0 = 5
        · rw [if_pos h5] at h
          have k5 : (x.f0 == 5) = true := beq_iff_eq.mpr h5
          have HE := Aside0.mk (Prod.mk.inj (Option.some.inj h))
          clear h h5 hl3 hr3
          go_enter Try.func27, Try.ntmps27
          go_wp2_with fail
          refine HPART.out.mono ?_
          rintro e w1 ⟨rfl, hb⟩
          have hx0 := HX.out.1 w1 hb
          have HB := Aside0.mk hb
          clear hb HPART HX
          go_wp2_with fail
          go_ret2
          exact ⟨by rw [← HE.out.1, ← HE.out.2]; rfl, HB.out⟩
        · rw [if_neg h5] at h
          have k5 : (x.f0 == 5) = false := beq_eq_false_iff_ne.mpr h5
          clear h5
          by_cases h2 : 0 ≤ a2
          · rw [if_pos h2] at h
            by_cases h3 : a2 ≤ (x.f3.length : Int)
            · rw [if_pos h3] at h
              obtain ⟨s, hs, h⟩ := Option.bind_eq_some_iff.1 h
              obtain ⟨rfl, rfl⟩ := Prod.mk.inj (Option.some.inj h)
              have H := Aside0.mk hs
              obtain ⟨i3, hi3, hz3⟩ := Option.map_eq_some_iff.1 info3
              obtain ⟨hsl, hrd, hle⟩ := print_take_int (P := Try.prog) (k := .i64) 29 3 Try.underlying29 hi3 (Prod.mk.inj (Prod.mk.inj hz3).2).1 A3 c3 x.f3 a2 h2 h3 hl3
              have HC := Aside0.mk (fun (W : World) (hb : Below w.heap.size w W) => Kd.C_of_reads (enc := Value.int .i64) (d := (0 : Int)) (h1 := fun _ => rfl) (hrd W (Kd.reads_of_C (d := (0 : Int)) (hr3 W hb))))
              have hbig : ((x.f3.take a2.toNat).length : Int) ≤ 9223372036854775807 := by have := (HC.out w (Below.refl _ _)).2.1; omega
              clear h hs hl3 hr3 hrd hle hi3 hz3
              generalize hL : x.f3.take a2.toNat = L at *
              clear hL
              go_enter Try.func27, Try.ntmps27
              go_wp2_with fail
              refine HPART.out.mono ?_
              rintro e w2 ⟨rfl, hb⟩
              have hx0 := HX.out.1 w2 hb
              have hx3 := HX.out.2.2.2 w2 hb
              have HB2 := Aside0.mk hb
              clear hb HPART HX
              go_wp2_with fail
              go_loopg [6, 11, 12, 13, 38] L.length (fun gg v6 v11 v12 v13 v38 Wr => ∃ (j : Nat) (z : Int), j ≤ L.length ∧ L.length - j ≤ gg ∧ v38 = .int .i64 j ∧ v6 = .int .i64 z ∧ Aside0 (steps k l0 (L.drop j) z = some s) ∧ Aside0 (Below w2.heap.size w2 Wr))
              case atStart => exact ⟨0, 0, Nat.zero_le _, by omega, rfl, rfl, H, ⟨Below.refl _ _⟩⟩
              case round =>
                obtain ⟨j, z, hj, hg, rfl, rfl, HO, HB⟩ := hrel
                by_cases hlt : j < L.length
                · have hltz : (j : Int) < (L.length : Int) := by omega
                  obtain ⟨ad3, e3, hx⟩ := Kd.at_int (HC.out wr (below_then HB2.out HB2.out.size HB.out)) (j : Int) (by omega) hltz
                  rw [Int.toNat_natCast, rd_at hlt] at hx
                  cases e3
                  have ho := HO.out
                  unfold steps at ho
                  rw [List.drop_eq_getElem_cons hlt, List.foldlM_cons] at ho
                  obtain ⟨z1, hz1, ho⟩ := Option.bind_eq_some_iff.1 ho
                  obtain ⟨⟨cs, ce⟩, hcs, hz1⟩ := Option.bind_eq_some_iff.1 hz1
                  have hcall := flat_Fields.calls k (some ad) c0 l0 L[j] cs ce wr (Kd.C_below HR0.out (below_then HB2.out HB2.out.size HB.out)) HC0.out hcs
                  have HCALL := Aside0.mk hcall
                  have HO2 := Aside0.mk ho
                  have HZ := Aside0.mk (Option.some.inj hz1)
                  clear hcall ho hz1 hcs HO
                  generalize L[j] = y at *
                  go_wp2_with fail
                  refine HCALL.out.mono ?_
                  rintro e w3 ⟨v, rfl, hR, hb⟩
                  obtain ⟨A4, c4, rfl, _, _⟩ := Kd.R_reads hR
                  have HB3 := Aside0.mk (below_then HB.out HB.out.size hb)
                  clear hR hb HCALL HB hx
                  go_wp2_with fail
                  go_roundg (L.length - (j + 1))
                  case measure => omega
                  case rel => exact ⟨j + 1, z1, by omega, by omega, by go_num, by rw [← HZ.out], HO2, HB3⟩
                · have hltz : ¬ (j : Int) < (L.length : Int) := by omega
                  have ho := HO.out
                  rw [List.drop_eq_nil_of_le (by omega)] at ho
                  have HO2 := Aside0.mk (Option.some.inj ho)
                  have HB3 := Aside0.mk (below_then HB2.out HB2.out.size HB.out)
                  clear ho HO HB
                  go_wp2_with fail
                  go_ret2
                  exact ⟨by rw [← HO2.out]; rfl, HB3.out⟩
            · rw [if_neg h3] at h; cases h
          · rw [if_neg h2] at h; cases h
      · rw [if_neg h1] at h; cases h
    · rw [if_neg h0] at h; cases h
  · rw [if_neg e0] at h
    have e0b : (er != 0) = true := bne_iff_ne.mpr e0
    have H := Aside0.mk (Option.some.inj h)
    clear h e0
    go_enter Try.func27, Try.ntmps27
    go_wp2_with fail
    refine HPART.out.mono ?_
    rintro e w1 ⟨rfl, hb⟩
    have HB := Aside0.mk hb
    clear hb HPART
    go_wp2_with fail
    go_ret2
    exact ⟨by rw [← (Prod.mk.inj H.out).1, ← (Prod.mk.inj H.out).2]; rfl, HB.out⟩
end Go.Proofs.Ytfjmpfecnemoiaa.Q
