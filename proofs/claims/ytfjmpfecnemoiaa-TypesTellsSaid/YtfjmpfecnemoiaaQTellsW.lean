/-
  The walk of the law TypesTells.
-/
import Derived.Test.YtfjmpfecnemoiaaQTells
namespace Go.Proofs.Ytfjmpfecnemoiaa.Q
open Go.RowKit Go.Proofs.YtfjmpfecnemoiaaW.PrintWords Go.Proofs.YtfjmpfecnemoiaaW.PrintLast Go.Proofs.YtfjmpfecnemoiaaW.PrintMore
set_option linter.unusedVariables false
set_option linter.unusedSimpArgs false
set_option maxRecDepth 100000

set_option maxHeartbeats 8000000 in
theorem tells_great (A0 A1 : Option Addr) (c0 c1 : Nat) (t o : List S31) (w : World) (hr0 : k31.C w A0 t.length t) (hc0 : t.length ≤ c0) (hr1 : k31.C w A1 o.length o) (hc1 : o.length ≤ c1) (bt bo : Bool) (ht : fescueref03_Great.f 62 t = some bt) (ho : fescueref03_Great.f 62 o = some bo) (hb : (bt || bo) = true) :
    Calls Try.prog 3 #[.slice A0 t.length c0, .slice A1 o.length c1] w fun e w' => e = .returned (.bool true) ∧ Below w.heap.size w w' := by
  have HG0 := Aside0.mk (fun (W : World) (hb : Below w.heap.size w W) => fescueref03_Great.calls 62 A0 c0 t bt W (Kd.C_below hr0 hb) hc0 ht)
  have HG1 := Aside0.mk (fun (W : World) (hb : Below w.heap.size w W) => fescueref03_Great.calls 62 A1 c1 o bo W (Kd.C_below hr1 hb) hc1 ho)
  clear hr0 hc0 hr1 hc1 ht ho
  cases bt
  · obtain rfl : bo = true := by simpa using hb
    clear hb
    go_enter Try.func3, Try.ntmps3
    go_wp2_with fail
    refine (HG0.out _ (Below.refl _ _)).mono ?_
    rintro e w1 ⟨rfl, ⟨m, rfl⟩⟩
    go_wp2_with fail
    refine (HG1.out _ (pw_below_drewN (Below.refl _ _) _)).mono ?_
    rintro e w1 ⟨rfl, ⟨m', rfl⟩⟩
    go_wp2_with fail
    go_ret
    exact ⟨rfl, by first | exact pw_below_drewN (Below.refl _ _) _ | exact pw_below_drewN (pw_below_drewN (Below.refl _ _) _) _⟩
  · clear hb
    go_enter Try.func3, Try.ntmps3
    go_wp2_with fail
    refine (HG0.out _ (Below.refl _ _)).mono ?_
    rintro e w1 ⟨rfl, ⟨m, rfl⟩⟩
    go_wp2_with fail
    go_ret
    exact ⟨rfl, pw_below_drewN (Below.refl _ _) _⟩

set_option maxHeartbeats 8000000 in
theorem tells_small (A0 A1 : Option Addr) (c0 c1 : Nat) (t o : List S31) (w : World) (hr0 : k31.C w A0 t.length t) (hc0 : t.length ≤ c0) (hr1 : k31.C w A1 o.length o) (hc1 : o.length ≤ c1) (ht : fescueref03_Great.f 62 t = some false) (ho : fescueref03_Great.f 62 o = some false) (hFt : Few t) (hFo : Few o) :
    Calls Try.prog 3 #[.slice A0 t.length c0, .slice A1 o.length c1] w fun e w' => e = .returned (.bool true) ∧ Below w.heap.size w w' := by
  have HG0 := Aside0.mk (fun (W : World) (hb : Below w.heap.size w W) => fescueref03_Great.calls 62 A0 c0 t false W (Kd.C_below hr0 hb) hc0 ht)
  have HG1 := Aside0.mk (fun (W : World) (hb : Below w.heap.size w W) => fescueref03_Great.calls 62 A1 c1 o false W (Kd.C_below hr1 hb) hc1 ho)
  have HTW := Aside0.mk (fun (W : World) (hb : Below w.heap.size w W) => fescueref03_Twin.calls 24 A0 c0 t t W (Kd.C_below hr0 hb) hc0 (Twin_some t hFt 24 (by omega)))
  have h20 := hFt.1
  have hp : ∀ x ∈ t, x.f3.length ≤ 20 := fun x hx => by
    obtain ⟨i, hi, rfl⟩ := List.mem_iff_getElem.1 hx
    have := hFt.2 i hi
    rwa [rd31_at hi] at this
  go_enter Try.func3, Try.ntmps3
  go_wp2_with fail
  refine (HG0.out _ (Below.refl _ _)).mono ?_
  rintro e w1 ⟨rfl, ⟨m, rfl⟩⟩
  go_wp2_with fail
  refine (HG1.out _ (pw_below_drewN (Below.refl _ _) _)).mono ?_
  rintro e w1 ⟨rfl, ⟨m', rfl⟩⟩
  go_wp2_with fail
  refine (HTW.out _ (by first | exact pw_below_drewN (Below.refl _ _) _ | exact pw_below_drewN (pw_below_drewN (Below.refl _ _) _) _)).mono ?_
  rintro e w1 ⟨v0, rfl, hS, hb⟩
  have hb1 : Below w.heap.size w w1 := by first | exact below_then (pw_below_drewN (Below.refl _ _) _) (Nat.le_refl _) hb | exact below_then (pw_below_drewN (pw_below_drewN (Below.refl _ _) _) _) (Nat.le_refl _) hb
  obtain ⟨A2, c2, rfl, hc2, hC2⟩ := Kd.S_reads hS
  clear HG0 HG1 HTW hS hb
  have HTN := Aside0.mk (twin_calls A2 c2 t w1 hC2 h20 hp)
  have HB1 := Aside0.mk hb1
  have HC2 := Aside0.mk hC2
  have HR0 := Aside0.mk hr0
  have HR1 := Aside0.mk hr1
  have HP := Aside0.mk hp
  have HCK := Aside0.mk (fun (W : World) (hb : Below w1.heap.size w1 W) => types_Check.calls 24 A2 c2 t (chk t) W (Kd.C_below hC2 hb) hc2 (Check_some t hFt 24 (by omega)))
  have HCR := Aside0.mk (fun (W : World) (hb : Below w.heap.size w W) => fescueref03_Check.calls 640 A0 c0 t (chk t) W (Kd.C_below hr0 hb) hc0 (CheckR_some t hFt 640 (by omega)))
  have HS1 := Aside0.mk (fun (W : World) (hb1 : Below w1.heap.size w1 W) (hb : Below w.heap.size w W) => types_Same.calls A2 c2 t A1 c1 o (sameL t o) W (Kd.C_below hC2 hb1) hc2 (Kd.C_below hr1 hb) hc1 rfl)
  have HS2 := Aside0.mk (fun (W : World) (hb : Below w.heap.size w W) => fescueref03_Same.calls 640 A0 c0 t A1 c1 o (sameL t o) W (Kd.C_below hr0 hb) hc0 (Kd.C_below hr1 hb) hc1 (sameR2_some t o hFt 640 (by omega)))
  have HS3 := Aside0.mk (fun (W : World) (hb1 : Below w1.heap.size w1 W) (hb : Below w.heap.size w W) => types_Same.calls A2 c2 t A0 c0 t true W (Kd.C_below hC2 hb1) hc2 (Kd.C_below hr0 hb) hc0 (by unfold types_Same.f; rw [sameL_self]))
  have HS4 := Aside0.mk (fun (W : World) (A3 : Option Addr) (c3 : Nat) (h3 : k31.C W A3 t.length t) (hc3 : t.length ≤ c3) (hb : Below w.heap.size w W) => fescueref03_Same.calls 640 A3 c3 t A0 c0 t true W h3 hc3 (Kd.C_below hr0 hb) hc0 (by rw [sameR2_some t t hFt 640 (by omega), sameL_self]))
  have HC20 := Aside0.mk hc2
  clear hr0 hc0 hr1 hc1 ht ho hFt hFo hp hC2 hc2 hb1
  go_wp2_with fail
  refine HTN.out.mono ?_
  rintro e w2 ⟨vx, rfl, hb2, hx⟩
  have HX := Aside0.mk hx
  have HB2 := Aside0.mk hb2
  clear hx hb2 HTN
  have hb02 : Below w.heap.size w w2 := below_then HB1.out HB1.out.size HB2.out
  have HB02 := Aside0.mk hb02
  clear hb02
  have HSL : Aside0 (∃ A3 c3, vx = .slice A3 t.length c3) := ⟨by
    rcases HX.out with ⟨rfl, rfl⟩ | ⟨g, cap, rfl, _⟩
    · exact ⟨_, _, rfl⟩
    · exact ⟨_, _, rfl⟩⟩
  go_wp2_with fail
  refine (HCK.out _ HB2.out).mono ?_
  rintro e w3 ⟨rfl, hb3⟩
  have HA3 := Aside0.mk (below_then HB2.out HB2.out.size hb3)
  have HZ3 := Aside0.mk (below_then HB02.out HB02.out.size hb3)
  have HQ3 := Aside0.mk (below_then (Below.refl w2.heap.size w2) (Nat.le_refl _) hb3)
  clear hb3 HCK
  generalize chk t = ck at *
  go_wp2_with fail
  refine (HCR.out _ HZ3.out).mono ?_
  rintro e w4 ⟨rfl, hb4⟩
  have HA4 := Aside0.mk (below_then HA3.out HA3.out.size hb4)
  have HZ4 := Aside0.mk (below_then HZ3.out HZ3.out.size hb4)
  have HQ4 := Aside0.mk (below_then HQ3.out HQ3.out.size hb4)
  clear hb4 HCR HA3 HZ3 HQ3
  go_wp2_with fail
  refine (HS1.out _ HA4.out HZ4.out).mono ?_
  rintro e w5 ⟨rfl, hb5⟩
  have HA5 := Aside0.mk (below_then HA4.out HA4.out.size hb5)
  have HZ5 := Aside0.mk (below_then HZ4.out HZ4.out.size hb5)
  have HQ5 := Aside0.mk (below_then HQ4.out HQ4.out.size hb5)
  clear hb5 HS1 HA4 HZ4 HQ4
  go_wp2_with fail
  refine (HS2.out _ HZ5.out).mono ?_
  rintro e w6 ⟨rfl, ⟨m6, rfl⟩⟩
  generalize sameL t o = sto at *
  clear HS2
  go_wp2_with fail
  refine (HS3.out _ (pw_below_drewN HA5.out _) (pw_below_drewN HZ5.out _)).mono ?_
  rintro e w7 ⟨rfl, hb7⟩
  have HA7 := Aside0.mk (below_then (pw_below_drewN HA5.out m6) (by simpa using HA5.out.size) hb7)
  have HZ7 := Aside0.mk (below_then (pw_below_drewN HZ5.out m6) (by simpa using HZ5.out.size) hb7)
  have HQ7 := Aside0.mk (below_then (pw_below_drewN HQ5.out m6) (by simpa using HQ5.out.size) hb7)
  clear hb7 HS3 HA5 HZ5 HQ5
  clear HSL
  rcases HX.out with ⟨rfl, rfl⟩ | ⟨g, cap, rfl, hI⟩
  · have hn : k31.C w7 none ([] : List S31).length [] := Kd.C_nil _ _
    clear HX
    go_wp2_with fail
    refine (HS4.out _ none 0 hn (Nat.le_refl _) HZ7.out).mono ?_
    rintro e w8 ⟨rfl, ⟨m8, rfl⟩⟩
    have HZ8 := Aside0.mk (pw_below_drewN HZ7.out m8)
    have HA8 := Aside0.mk (pw_below_drewN HA7.out m8)
    clear hn
    go_wp2_with fail
    go_loopg [8] 0 (fun gg v8 Wr => v8 = .int .i64 0 ∧ Aside0 (Below w.heap.size w Wr) ∧ Aside0 (Below w1.heap.size w1 Wr))
    case atStart => exact ⟨rfl, HZ8, HA8⟩
    case round =>
      obtain ⟨rfl, HZ, HA⟩ := hrel
      go_wp2_with fail
      refine (HS4.out _ A2 c2 (Kd.C_below HC2.out HA.out) HC20.out HZ.out).mono ?_
      rintro e w9 ⟨rfl, ⟨m9, rfl⟩⟩
      go_wp2_with fail
      go_ret
      exact ⟨rfl, pw_below_drewN HZ.out m9⟩
  · have hI7 := hI.step HQ7.out
    have HR7 := Aside0.mk (hI7.reads h20)
    have HCP := Aside0.mk hI7.cap_
    have HI7 := Aside0.mk hI7
    clear HX hI hI7
    go_wp2_with fail
    refine (HS4.out _ (some ⟨g, 0, none⟩) cap HR7.out HCP.out HZ7.out).mono ?_
    rintro e w8 ⟨rfl, ⟨m8, rfl⟩⟩
    have HZ8 := Aside0.mk (pw_below_drewN HZ7.out m8)
    have HSP := Aside0.mk (TwinInv.spoil (HI7.out.step (pw_below_drewN (Below.refl w7.heap.size w7) m8)))
    clear HR7 HI7
    go_wp2_with fail
    go_loopg [8] t.length (fun gg v8 Wr => ∃ i : Nat, i ≤ t.length ∧ t.length - i ≤ gg ∧ v8 = .int .i64 i ∧ Aside0 (Spoil w1 t g Wr) ∧ Aside0 (Below w.heap.size w Wr))
    case atStart => exact ⟨0, Nat.zero_le _, by omega, rfl, HSP, HZ8⟩
    case round =>
      obtain ⟨i, hi, hg, rfl, HSi, HZi⟩ := hrel
      clear HSP HZ8
      obtain ⟨wo, rfl⟩ : ∃ wo : World, wo = wr := ⟨_, rfl⟩
      by_cases hlt : i < t.length
      · have hltz : (i : Int) < (t.length : Int) := by omega
        have hl20 : t[i].f3.length ≤ 20 := HP.out _ (List.getElem_mem hlt)
        go_wp2_with fail
        go_loopg [9] t[i].f3.length (fun gg v9 Wr => ∃ k : Nat, k ≤ t[i].f3.length ∧ t[i].f3.length - k ≤ gg ∧ v9 = .int .i64 k ∧ Aside0 (Spoil w1 t g Wr) ∧ Aside0 (Below w.heap.size w Wr))
        case atStart => exact ⟨0, Nat.zero_le _, by omega, rfl, HSi, HZi⟩
        case round =>
          obtain ⟨k, hk, hgk, rfl, HSk, HZk⟩ := hrel
          obtain ⟨cur, hh, hc⟩ := HSk.out.blk
          obtain ⟨⟨u0, e0⟩, A, c, ys, e3, hyl, hR⟩ := hc i hlt
          have hx0 : wr.cell? ⟨g, i * 4, none⟩ = some u0 := (blk_cell hh (i * 4)).trans e0
          have hf0 := blk_frozen hh (i * 4)
          have hx3 : wr.cell? ⟨g, i * 4 + 3, none⟩ = some (.slice A t[i].f3.length c) := (blk_cell hh (i * 4 + 3)).trans e3
          have HH := Aside0.mk hh
          by_cases hkl : k < t[i].f3.length
          · have hklz : (k : Int) < (t[i].f3.length : Int) := by omega
            obtain ⟨p, rfl, hp, ⟨u, hu⟩, hfu, cells, hpc⟩ := spoil_cell hR hyl k hkl
            have HN := Aside0.mk (HSk.out.row p k (-7) hp (fun e => by subst e; rw [HH.out] at hpc; injection hpc with h; injection h with _ h; exact absurd h (by decide)))
            have HZN := Aside0.mk (HZk.out.setCell (Nat.le_trans HB1.out.size hp) (p := ⟨p, k, none⟩) (.int .i64 (-7)))
            clear hh hc e0 e3 hyl hR hpc hp HH hf0 hx0
            go_wp2_with fail
            go_roundg (t[i].f3.length - (k + 1))
            case measure => omega
            case rel => exact ⟨k + 1, by omega, by omega, by go_num, HN, HZN⟩
          · have hklz : ¬ (k : Int) < (t[i].f3.length : Int) := by omega
            have HN := Aside0.mk (HSk.out.kind i (.int .u8 9))
            have HZN := Aside0.mk (HZk.out.setCell (Nat.le_trans HB1.out.size HSk.out.hg) (p := ⟨g, i * 4, none⟩) (.int .u8 9))
            clear hh hc e0 e3 hyl hR HH
            go_wp2_with fail
            go_roundg (t.length - (i + 1))
            case measure => omega
            case rel => exact ⟨i + 1, by omega, by omega, by go_num, HN, HZN⟩
      · have hltz : ¬ (i : Int) < (t.length : Int) := by omega
        go_wp2_with fail
        refine (HS4.out _ A2 c2 (Kd.C_below HC2.out HSi.out.below) HC20.out HZi.out).mono ?_
        rintro e w9 ⟨rfl, ⟨m9, rfl⟩⟩
        go_wp2_with fail
        go_ret
        exact ⟨rfl, pw_below_drewN HZi.out m9⟩
theorem tells_calls (A0 : Option Addr) (c0 : Nat) (t : List S31) (A1 : Option Addr) (c1 : Nat) (o : List S31) (w : World) (hr0 : k31.C w A0 t.length t) (hc0 : t.length ≤ c0) (hr1 : k31.C w A1 o.length o) (hc1 : o.length ≤ c1) :
    Calls Try.prog 3 #[.slice A0 t.length c0, .slice A1 o.length c1] w fun e w' => e = .returned (.bool true) ∧ Below w.heap.size w w' := by
  obtain ⟨bt, ht, hFt⟩ := great_some t 62 (by omega)
  obtain ⟨bo, ho, hFo⟩ := great_some o 62 (by omega)
  cases h : bt || bo
  · rw [Bool.or_eq_false_iff] at h
    obtain ⟨rfl, rfl⟩ := h
    exact tells_small A0 A1 c0 c1 t o w hr0 hc0 hr1 hc1 ht ho (hFt rfl) (hFo rfl)
  · exact tells_great A0 A1 c0 c1 t o w hr0 hc0 hr1 hc1 bt bo ht ho h
/-- The law's answer. -/
def fescuelaw03_TypesTells.f (_ : Nat) (_ _ : List S31) : Option Bool := some true
theorem fescuelaw03_TypesTells.calls (k : Nat) (A0 : Option Addr) (c0 : Nat) (t : List S31) (A1 : Option Addr) (c1 : Nat) (o : List S31) (r : Bool) (w : World) (hr0 : k31.C w A0 t.length t) (hc0 : t.length ≤ c0) (hr1 : k31.C w A1 o.length o) (hc1 : o.length ≤ c1) (h : fescuelaw03_TypesTells.f k t o = some r) :
    Calls Try.prog 3 #[.slice A0 t.length c0, .slice A1 o.length c1] w fun e w' => e = .returned (.bool r) ∧ Below w.heap.size w w' := by
  obtain rfl := Option.some.inj h
  exact tells_calls A0 c0 t A1 c1 o w hr0 hc0 hr1 hc1
end Go.Proofs.Ytfjmpfecnemoiaa.Q
