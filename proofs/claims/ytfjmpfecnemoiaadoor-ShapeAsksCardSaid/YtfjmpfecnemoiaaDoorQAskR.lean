/-
  What the reference answers of registers and places: fescueref06's asked, Count, Regs, Number, Where, Place and Reg.
-/
import Derived.Test.YtfjmpfecnemoiaaDoorQMayF
import Derived.Test.YtfjmpfecnemoiaaDoorU2
namespace Go.Proofs.YtfjmpfecnemoiaaDoor.Q
open Go.RowKit Go.Proofs.YtfjmpfecnemoiaaDoorW.PrintWords Go.Proofs.YtfjmpfecnemoiaaDoorW.PrintLast Go.Proofs.YtfjmpfecnemoiaaDoorW.PrintMore
set_option linter.unusedVariables false
set_option linter.unusedSimpArgs false
set_option maxRecDepth 100000

/-- The error of a program and a function. -/
def askV (t : List S78) (fs : List S55) (i : Int) : Int := if chkP t fs = 0 then (if 0 ≤ i ∧ i < fs.length then 0 else 2) else chkP t fs
section
variable (A0 B0 : Option Addr) (c0 d0 : Nat) (t : List S78) (fs : List S55) (w : World)
set_option maxHeartbeats 4000000 in
theorem askedR_calls (i : Int) (ht : Kd.C k78 w A0 t.length t) (hct : t.length ≤ c0) (hf : Kd.C k55 w B0 fs.length fs) (hcf : fs.length ≤ d0) (hM : SmallP t fs) (hS : SaneP fs) :
    Calls Tryd.prog 41 #[.agg #[.slice A0 t.length c0, .slice B0 fs.length d0], .int .i64 i] w fun e w' => e = .returned (.int .i64 (askV t fs i)) ∧ Below w.heap.size w w' := by
  have hu35 := Tryd.underlying35
  have HCK := Aside0.mk (fun (V : World) (hb : Below w.heap.size w V) => checkR_calls A0 B0 c0 d0 t fs V (Kd.C_below ht hb) hct (Kd.C_below hf hb) hcf hM hS)
  have h10 := hM.fun_
  generalize hv : askV t fs i = v
  have HV := Aside0.mk hv
  unfold askV at HV
  clear ht hct hf hcf hM hS hv
  generalize chkP t fs = ck at *
  by_cases hc : ck = 0
  · subst hc
    by_cases h0 : i < 0
    · have d0' : decide (i < 0) = true := decide_eq_true h0
      have HW := Aside0.mk (show (2 : Int) = v from by have := HV.out; rw [if_pos rfl, if_neg (by omega)] at this; exact this)
      clear h0 HV
      go_enter Tryd.func41, Tryd.ntmps41
      go_wp2_with fail
      refine (HCK.out _ (below_alloc (Below.refl _ _) _)).mono ?_
      rintro e w1 ⟨rfl, hb⟩
      obtain ⟨z0, z1, -⟩ := blk2 (blk_below (blk_new w (.cells #[.slice A0 t.length c0, .slice B0 fs.length d0] 35)) hb)
      have KB := Aside0.mk (below_then (below_alloc (Below.refl w.heap.size w) (.cells #[.slice A0 t.length c0, .slice B0 fs.length d0] 35)) (by simp) hb)
      clear hb HCK
      go_wp2_with fail
      go_ret
      exact ⟨by rw [← HW.out]; rfl, KB.out⟩
    · have d0' : decide (i < 0) = false := decide_eq_false h0
      by_cases h1 : (fs.length : Int) ≤ i
      · have d1' : decide ((fs.length : Int) ≤ i) = true := decide_eq_true h1
        have HW := Aside0.mk (show (2 : Int) = v from by have := HV.out; rw [if_pos rfl, if_neg (by omega)] at this; exact this)
        clear h0 h1 HV
        go_enter Tryd.func41, Tryd.ntmps41
        go_wp2_with fail
        refine (HCK.out _ (below_alloc (Below.refl _ _) _)).mono ?_
        rintro e w1 ⟨rfl, hb⟩
        obtain ⟨z0, z1, -⟩ := blk2 (blk_below (blk_new w (.cells #[.slice A0 t.length c0, .slice B0 fs.length d0] 35)) hb)
        have KB := Aside0.mk (below_then (below_alloc (Below.refl w.heap.size w) (.cells #[.slice A0 t.length c0, .slice B0 fs.length d0] 35)) (by simp) hb)
        clear hb HCK
        go_wp2_with fail
        go_ret
        exact ⟨by rw [← HW.out]; rfl, KB.out⟩
      · have d1' : decide ((fs.length : Int) ≤ i) = false := decide_eq_false h1
        have HW := Aside0.mk (show (0 : Int) = v from by have := HV.out; rw [if_pos rfl, if_pos (by omega)] at this; exact this)
        clear h0 h1 HV
        go_enter Tryd.func41, Tryd.ntmps41
        go_wp2_with fail
        refine (HCK.out _ (below_alloc (Below.refl _ _) _)).mono ?_
        rintro e w1 ⟨rfl, hb⟩
        obtain ⟨z0, z1, -⟩ := blk2 (blk_below (blk_new w (.cells #[.slice A0 t.length c0, .slice B0 fs.length d0] 35)) hb)
        have KB := Aside0.mk (below_then (below_alloc (Below.refl w.heap.size w) (.cells #[.slice A0 t.length c0, .slice B0 fs.length d0] 35)) (by simp) hb)
        clear hb HCK
        go_wp2_with fail
        go_ret
        exact ⟨by rw [← HW.out]; rfl, KB.out⟩
  · have hcb : (ck == 0) = false := beq_eq_false_iff_ne.mpr hc
    have HW := Aside0.mk (show ck = v from by have := HV.out; rw [if_neg hc] at this; exact this)
    clear hc HV
    go_enter Tryd.func41, Tryd.ntmps41
    go_wp2_with fail
    refine (HCK.out _ (below_alloc (Below.refl _ _) _)).mono ?_
    rintro e w1 ⟨rfl, hb⟩
    obtain ⟨z0, z1, -⟩ := blk2 (blk_below (blk_new w (.cells #[.slice A0 t.length c0, .slice B0 fs.length d0] 35)) hb)
    have KB := Aside0.mk (below_then (below_alloc (Below.refl w.heap.size w) (.cells #[.slice A0 t.length c0, .slice B0 fs.length d0] 35)) (by simp) hb)
    clear hb HCK
    go_wp2_with fail
    go_ret
    exact ⟨by rw [← HW.out]; rfl, KB.out⟩

set_option maxHeartbeats 8000000 in
theorem countR_calls (i : Nat) (hi : i < fs.length) (ht : Kd.C k78 w A0 t.length t) (hct : t.length ≤ c0) (hf : Kd.C k55 w B0 fs.length fs) (hcf : fs.length ≤ d0) (hM : SmallP t fs) (hs : 0 ≤ fs[i].f0 ∧ fs[i].f0 < t.length) :
    Calls Tryd.prog 42 #[.agg #[.slice A0 t.length c0, .slice B0 fs.length d0], .int .i64 (i : Int)] w fun e w' => e = .returned (.int .i64 (regN t fs[i] : Int)) ∧ Below w.heap.size w w' := by
  have hu35 := Tryd.underlying35
  have hu55 := Tryd.underlying55
  have hltz : (i : Int) < (fs.length : Int) := by omega
  have h10 := hM.fun_
  have hsm := hM.all _ (List.getElem_mem hi)
  have hpar := parN_le hM.few hs
  have hcn := cnt_le fs[i].f1 hsm.2
  obtain ⟨ad, A1, c1, e, hx0, hx1, ux0, ux1⟩ := at_T55 hf (i : Int) (by omega) hltz
  rw [rdT55_at hi] at hx0 hx1 ux0 ux1
  cases e
  simp only [Int.toNat_natCast] at hx0 hx1
  have HPA := Aside0.mk (fun (V : World) (hb : Below w.heap.size w V) => fescueref06_Params.calls A0 c0 t (some ad) d0 fs fs[i].f0 A1 c1 fs[i].f1 (parN t fs[i] : Int) V (Kd.C_below ht hb) hct (Kd.C_below hf hb) hcf (Kd.C_below ux1 hb) ux0 (by unfold fescueref06_Params.f; rw [if_pos hs.1, if_pos hs.2]; rfl))
  have HMN := Aside0.mk (fun (V : World) (hb : Below w.heap.size w V) => fescueref06_Many.calls 24 A1 c1 fs[i].f1 (cnt fs[i].f1 : Int) V (Kd.C_below ux1 hb) ux0 (manyR_some fs[i].f1 hsm.2 hsm.1 24 (Nat.le_refl _)))
  have HX := Aside0.mk (fun (V : World) (hb : Below w.heap.size w V) => And.intro (pw_cell_below hb hx0) (pw_cell_below hb hx1))
  have HV := Aside0.mk (show ((parN t fs[i] : Int) + (cnt fs[i].f1 : Int)) = (regN t fs[i] : Int) from by unfold regN; omega)
  have hl20 := hsm.1
  generalize regN t fs[i] = rn at *
  generalize parN t fs[i] = pn at *
  have hcn2 : cnt fs[i].f1 ≤ 6000 := by omega
  clear ht hct hf hcf hM hs hsm ux0 ux1 hx0 hx1 hcn
  generalize cnt fs[i].f1 = cn at *
  generalize fs[i] = f at *
  go_enter Tryd.func42, Tryd.ntmps42
  go_upto_region 1 with fail
  have HP := Aside0.mk (blk_new w (.cells #[.slice A0 t.length c0, .slice (some ad) fs.length d0] 35))
  have HB := Aside0.mk (below_alloc (Below.refl w.heap.size w) (.cells #[.slice A0 t.length c0, .slice (some ad) fs.length d0] 35))
  generalize w.alloc (.cells #[.slice A0 t.length c0, .slice (some ad) fs.length d0] 35) = W0 at *
  obtain ⟨z0, z1, -⟩ := blk2 HP.out
  obtain ⟨z2, z3⟩ := HX.out _ HB.out
  have HP1 := Aside0.mk (HPA.out W0.drew (Below.drew HB.out))
  go_region_held3 (fun W => W.cell? ⟨w.heap.size, 0, none⟩ = some (.slice A0 t.length c0) ∧ W.cell? ⟨w.heap.size, 1, none⟩ = some (.slice (some ad) fs.length d0) ∧ W.cell? (ad.add (i * 2)) = some (.int .i64 f.f0) ∧ W.cell? ⟨(ad.add (i * 2)).block, (ad.add (i * 2)).off + 1, none⟩ = some (.slice A1 f.f1.length c1)) (first | exact ⟨z0, z1, z2, z3⟩ | go_keep) (first | (go_at_call 67; (with_reducible refine HP1.out.mono ?_); rintro e w2 ⟨rfl, hb⟩; have K2 := Aside0.mk (below_then (Below.drew HB.out) (by simpa using HB.out.size) hb); have Q2 := Aside0.mk (blk_below (blk_drew HP.out) hb); clear hb z0 z1 z2 z3; obtain ⟨z0, z1, -⟩ := blk2 Q2.out; obtain ⟨z2, z3⟩ := HX.out _ K2.out) | (go_at_call 68; (with_reducible refine (HMN.out _ K2.out).mono ?_); rintro e w3 ⟨rfl, ⟨m3, rfl⟩⟩))
  all_goals
    go_wp2_with fail
    go_ret
    exact ⟨by rw [← HV.out]; simp only [i64_w]; exact congrArg (fun z => Ending.returned (.int .i64 z)) (show wrap64 ((pn : Int) + (cn : Int)) = _ from by unfold wrap64; omega), pw_below_drewN K2.out _⟩
set_option maxHeartbeats 8000000 in
theorem numberR_calls (i : Nat) (hi : i < fs.length) (b a : Nat) (hb : b ≤ fs[i].f1.length) (ha : a ≤ 300) (ht : Kd.C k78 w A0 t.length t) (hct : t.length ≤ c0) (hf : Kd.C k55 w B0 fs.length fs) (hcf : fs.length ≤ d0) (hM : SmallP t fs) (hs : 0 ≤ fs[i].f0 ∧ fs[i].f0 < t.length) :
    Calls Tryd.prog 45 #[.agg #[.slice A0 t.length c0, .slice B0 fs.length d0], .int .i64 (i : Int), .int .i64 (b : Int), .int .i64 (a : Int)] w fun e w' => e = .returned (.int .i64 ((parN t fs[i] + cnt (fs[i].f1.take b) + a : Nat) : Int)) ∧ Below w.heap.size w w' := by
  have hu35 := Tryd.underlying35
  have hu55 := Tryd.underlying55
  have hltz : (i : Int) < (fs.length : Int) := by omega
  have h10 := hM.fun_
  have hsm := hM.all _ (List.getElem_mem hi)
  have hpar := parN_le hM.few hs
  have hcn := cnt_le fs[i].f1 hsm.2
  have hct2 := cnt_take_le fs[i].f1 b
  obtain ⟨ad, A1, c1, e, hx0, hx1, ux0, ux1⟩ := at_T55 hf (i : Int) (by omega) hltz
  rw [rdT55_at hi] at hx0 hx1 ux0 ux1
  cases e
  simp only [Int.toNat_natCast] at hx0 hx1
  have hlen : (fs[i].f1.take b).length = b := by rw [List.length_take]; omega
  have HPA := Aside0.mk (fun (V : World) (hb : Below w.heap.size w V) => fescueref06_Params.calls A0 c0 t (some ad) d0 fs fs[i].f0 A1 c1 fs[i].f1 (parN t fs[i] : Int) V (Kd.C_below ht hb) hct (Kd.C_below hf hb) hcf (Kd.C_below ux1 hb) ux0 (by unfold fescueref06_Params.f; rw [if_pos hs.1, if_pos hs.2]; rfl))
  have hmn := fun (V : World) (hb' : Below w.heap.size w V) => fescueref06_Many.calls 24 A1 c1 (fs[i].f1.take b) (cnt (fs[i].f1.take b) : Int) V (Kd.C_take (Kd.C_below ux1 hb') hb) (by rw [hlen]; omega) (manyR_some (fs[i].f1.take b) (fun x hx => hsm.2 x (List.mem_of_mem_take hx)) (by rw [hlen]; have := hsm.1; omega) 24 (Nat.le_refl _))
  rw [hlen] at hmn
  have HMN := Aside0.mk hmn
  have HX := Aside0.mk (fun (V : World) (hb : Below w.heap.size w V) => And.intro (pw_cell_below hb hx0) (pw_cell_below hb hx1))
  have hl20 := hsm.1
  generalize parN t fs[i] = pn at *
  have hcn2 : cnt (fs[i].f1.take b) ≤ 6000 := by omega
  clear ht hct hf hcf hM hs hsm ux1 hx0 hx1 hcn hct2 hmn hlen
  generalize cnt (fs[i].f1.take b) = cn at *
  generalize fs[i] = f at *
  have hbz : (b : Int) ≤ (f.f1.length : Int) := by omega
  have hbc : b ≤ c1 := by omega
  have hbcz : (b : Int) ≤ (c1 : Int) := by omega
  go_enter Tryd.func45, Tryd.ntmps45
  go_upto_region 1 with fail
  have HP := Aside0.mk (blk_new w (.cells #[.slice A0 t.length c0, .slice (some ad) fs.length d0] 35))
  have HB := Aside0.mk (below_alloc (Below.refl w.heap.size w) (.cells #[.slice A0 t.length c0, .slice (some ad) fs.length d0] 35))
  generalize w.alloc (.cells #[.slice A0 t.length c0, .slice (some ad) fs.length d0] 35) = W0 at *
  obtain ⟨z0, z1, -⟩ := blk2 HP.out
  obtain ⟨z2, z3⟩ := HX.out _ HB.out
  have HP1 := Aside0.mk (HPA.out W0.drew (Below.drew HB.out))
  go_region_held3 (fun W => W.cell? ⟨w.heap.size, 0, none⟩ = some (.slice A0 t.length c0) ∧ W.cell? ⟨w.heap.size, 1, none⟩ = some (.slice (some ad) fs.length d0) ∧ W.cell? (ad.add (i * 2)) = some (.int .i64 f.f0) ∧ W.cell? ⟨(ad.add (i * 2)).block, (ad.add (i * 2)).off + 1, none⟩ = some (.slice A1 f.f1.length c1)) (first | exact ⟨z0, z1, z2, z3⟩ | go_keep) (first | (go_at_call 67; (with_reducible refine HP1.out.mono ?_); rintro e w2 ⟨rfl, hb⟩; have K2 := Aside0.mk (below_then (Below.drew HB.out) (by simpa using HB.out.size) hb); have Q2 := Aside0.mk (blk_below (blk_drew HP.out) hb); clear hb z0 z1 z2 z3; obtain ⟨z0, z1, -⟩ := blk2 Q2.out; obtain ⟨z2, z3⟩ := HX.out _ K2.out) | (go_at_call 68; (with_reducible refine (HMN.out _ K2.out).mono ?_); rintro e w3 ⟨rfl, ⟨m3, rfl⟩⟩))
  all_goals
    go_wp2_with fail
    go_ret
    exact ⟨by simp only [i64_w]; exact congrArg (fun z => Ending.returned (.int .i64 z)) (show wrap64 (wrap64 ((pn : Int) + (cn : Int)) + (a : Int)) = _ from by unfold wrap64; omega), pw_below_drewN K2.out _⟩

/-- Where a register's instruction stands: a block and a place, or none. -/
def WhereOk (L : List S58) (par : Nat) (r x y : Int) : Prop := (∃ b a : Nat, x = b ∧ y = a ∧ ∃ hb : b < L.length, a < (L[b]'hb).f0.length ∧ ((par + cnt (L.take b) + a : Nat) : Int) = r) ∨ (x = -1 ∧ y = r ∧ ∀ (b : Nat) (hb : b < L.length) (a : Nat), a < (L[b]'hb).f0.length → ((par + cnt (L.take b) + a : Nat) : Int) ≠ r)
def WherePost (L : List S58) (par : Nat) (r : Int) (w : World) (e : Ending) (w' : World) : Prop := ∃ x y : Int, e = .returned (.tuple #[.int .i64 x, .int .i64 y]) ∧ WhereOk L par r x y ∧ Below w.heap.size w w'
set_option maxHeartbeats 8000000 in
theorem whereR_calls (i : Nat) (hi : i < fs.length) (r : Int) (ht : Kd.C k78 w A0 t.length t) (hct : t.length ≤ c0) (hf : Kd.C k55 w B0 fs.length fs) (hcf : fs.length ≤ d0) (hM : SmallP t fs) (hs : 0 ≤ fs[i].f0 ∧ fs[i].f0 < t.length) :
    Calls Tryd.prog 44 #[.agg #[.slice A0 t.length c0, .slice B0 fs.length d0], .int .i64 (i : Int), .int .i64 r] w (WherePost fs[i].f1 (parN t fs[i]) r w) := by
  have hu35 := Tryd.underlying35
  have hu55 := Tryd.underlying55
  have hu58 := Tryd.underlying58
  have hltz : (i : Int) < (fs.length : Int) := by omega
  have h10 := hM.fun_
  have hsm := hM.all _ (List.getElem_mem hi)
  have HNU := Aside0.mk (fun (V : World) (hV : Below w.heap.size w V) (b a : Nat) (hb : b ≤ fs[i].f1.length) (ha : a ≤ 300) => numberR_calls A0 B0 c0 d0 t fs V i hi b a hb ha (Kd.C_below ht hV) hct (Kd.C_below hf hV) hcf hM hs)
  obtain ⟨ad, A1, c1, e, hx0, hx1, ux0, ux1⟩ := at_T55 hf (i : Int) (by omega) hltz
  rw [rdT55_at hi] at hx0 hx1 ux0 ux1
  cases e
  simp only [Int.toNat_natCast] at hx0 hx1
  have HX := Aside0.mk (fun (V : World) (hb : Below w.heap.size w V) => And.intro (pw_cell_below hb hx0) (pw_cell_below hb hx1))
  have HSM := Aside0.mk hsm
  have HU := Aside0.mk ux1
  have hl20 : fs[i].f1.length ≤ 20 := hsm.1
  generalize parN t fs[i] = pn at *
  clear ht hct hf hcf hM hs hsm ux0 ux1 hx0 hx1
  generalize fs[i] = f at *
  go_enter Tryd.func44, Tryd.ntmps44
  go_wp2_with fail
  have HP := Aside0.mk (blk_new w (.cells #[.slice A0 t.length c0, .slice (some ad) fs.length d0] 35))
  have HB := Aside0.mk (below_alloc (Below.refl w.heap.size w) (.cells #[.slice A0 t.length c0, .slice (some ad) fs.length d0] 35))
  have HN : Aside0 (∀ (b : Nat) (hb : b < f.f1.length) (a : Nat), b < 0 → a < (f.f1[b]'hb).f0.length → ((pn + cnt (f.f1.take b) + a : Nat) : Int) ≠ r) := ⟨fun b hb a h => absurd h (Nat.not_lt_zero _)⟩
  go_loopg [8] f.f1.length (fun gg v8 Wr => ∃ k : Nat, k ≤ f.f1.length ∧ f.f1.length - k ≤ gg ∧ v8 = .int .i64 k ∧ Aside0 (∀ (b : Nat) (hb : b < f.f1.length) (a : Nat), b < k → a < (f.f1[b]'hb).f0.length → ((pn + cnt (f.f1.take b) + a : Nat) : Int) ≠ r) ∧ Aside0 (Below w.heap.size w Wr) ∧ Aside0 (Wr.heap[w.heap.size]? = some (.cells #[.slice A0 t.length c0, .slice (some ad) fs.length d0] 35 (0, 0))))
  case atStart => exact ⟨0, Nat.zero_le _, by omega, rfl, HN, HB, HP⟩
  case round =>
    obtain ⟨k, hk, hgk, rfl, HNk, HBk, HPk⟩ := hrel
    clear HN HB HP
    obtain ⟨wk, rfl⟩ : ∃ wk : World, wk = wr := ⟨_, rfl⟩
    obtain ⟨z0, z1, -⟩ := blk2 HPk.out
    obtain ⟨z2, z3⟩ := HX.out _ HBk.out
    by_cases hltk : k < f.f1.length
    · have hltkz : (k : Int) < (f.f1.length : Int) := by omega
      obtain ⟨ae, A2, c2, e, hy0, hy1, hy2, hy3, hy4, vx0, vx1⟩ := at_T58 HU.out (k : Int) (by omega) hltkz
      rw [rdT58_at hltk] at hy0 hy1 hy2 hy3 hy4 vx0 vx1
      cases e
      simp only [Int.toNat_natCast] at hy0 hy1 hy2 hy3 hy4
      have HY := Aside0.mk (fun (V : World) (hb : Below w.heap.size w V) => pw_cell_below hb hy0)
      have h300 : f.f1[k].f0.length ≤ 300 := (HSM.out.2 _ (List.getElem_mem hltk)).1
      clear hy0 hy1 hy2 hy3 hy4 vx0 vx1
      go_wp2_with fail
      have HM0 : Aside0 (∀ a : Nat, a < 0 → ((pn + cnt (f.f1.take k) + a : Nat) : Int) ≠ r) := ⟨fun a h => absurd h (Nat.not_lt_zero _)⟩
      go_loopg [9] f.f1[k].f0.length (fun gg v9 Wr => ∃ n : Nat, n ≤ f.f1[k].f0.length ∧ f.f1[k].f0.length - n ≤ gg ∧ v9 = .int .i64 n ∧ Aside0 (∀ a : Nat, a < n → ((pn + cnt (f.f1.take k) + a : Nat) : Int) ≠ r) ∧ Aside0 (Below w.heap.size w Wr) ∧ Aside0 (Wr.heap[w.heap.size]? = some (.cells #[.slice A0 t.length c0, .slice (some ad) fs.length d0] 35 (0, 0))))
      case atStart => exact ⟨0, Nat.zero_le _, by omega, rfl, HM0, HBk, HPk⟩
      case round =>
        obtain ⟨n, hn, hgn, rfl, HMn, HBn, HPn⟩ := hrel
        clear HM0 HBk HPk z0 z1 z2 z3
        obtain ⟨z0, z1, -⟩ := blk2 HPn.out
        obtain ⟨z2, z3⟩ := HX.out _ HBn.out
        have z4 := HY.out _ HBn.out
        by_cases hltn : n < f.f1[k].f0.length
        · have hltnz : (n : Int) < (f.f1[k].f0.length : Int) := by omega
          have HC := Aside0.mk (HNU.out wr HBn.out k n (by omega) (by omega))
          by_cases hq : ((pn + cnt (f.f1.take k) + n : Nat) : Int) = r
          · have HQ := Aside0.mk (show WhereOk f.f1 pn r k n from .inl ⟨k, n, rfl, rfl, hltk, hltn, hq⟩)
            have hqb : (((pn + cnt (f.f1.take k) + n : Nat) : Int) == r) = true := beq_iff_eq.mpr hq
            generalize hz : ((pn + cnt (f.f1.take k) + n : Nat) : Int) = z at *
            clear hz hq
            go_wp2_with fail
            refine HC.out.mono ?_
            rintro e w2 ⟨rfl, hb⟩
            have KB := Aside0.mk (below_then HBn.out HBn.out.size hb)
            clear hb HC z0 z1 z2 z3 z4
            go_wp2_with fail
            go_ret2
            exact ⟨_, _, rfl, HQ.out, KB.out⟩
          · have HQ := Aside0.mk (show ∀ a : Nat, a < n + 1 → ((pn + cnt (f.f1.take k) + a : Nat) : Int) ≠ r from fun a ha => by
              by_cases e : a = n
              · subst e; exact hq
              · exact HMn.out a (by omega))
            have hqb : (((pn + cnt (f.f1.take k) + n : Nat) : Int) == r) = false := beq_eq_false_iff_ne.mpr hq
            generalize hz : ((pn + cnt (f.f1.take k) + n : Nat) : Int) = z at HC hqb
            clear hz hq HMn
            go_wp2_with fail
            refine HC.out.mono ?_
            rintro e w2 ⟨rfl, hb⟩
            have KB := Aside0.mk (below_then HBn.out HBn.out.size hb)
            have KP := Aside0.mk (blk_below HPn.out hb)
            clear hb HC z0 z1 z2 z3 z4
            go_wp2_with fail
            go_roundg (f.f1[k].f0.length - (n + 1))
            case measure => omega
            case rel => exact ⟨n + 1, by omega, by omega, by go_num, HQ, KB, KP⟩
        · have hltnz : ¬ (n : Int) < (f.f1[k].f0.length : Int) := by omega
          have HQ := Aside0.mk (show ∀ (b : Nat) (hb : b < f.f1.length) (a : Nat), b < k + 1 → a < (f.f1[b]'hb).f0.length → ((pn + cnt (f.f1.take b) + a : Nat) : Int) ≠ r from fun b hb a h1 h2 => by
            by_cases e : b = k
            · subst e; exact HMn.out a (by omega)
            · exact HNk.out b hb a (by omega) h2)
          clear HMn
          go_wp2_with fail
          go_roundg (f.f1.length - (k + 1))
          case measure => omega
          case rel => exact ⟨k + 1, by omega, by omega, by go_num, HQ, HBn, HPn⟩
    · have hltkz : ¬ (k : Int) < (f.f1.length : Int) := by omega
      have HQ := Aside0.mk (show WhereOk f.f1 pn r (-1) r from .inr ⟨rfl, rfl, fun b hb a h => HNk.out b hb a (by omega) h⟩)
      go_wp2_with fail
      go_ret2
      exact ⟨_, _, rfl, HQ.out, HBk.out⟩
theorem askV_yes {t : List S78} {fs : List S55} {i : Nat} (h0 : chkP t fs = 0) (hi : i < fs.length) : askV t fs (i : Int) = 0 := by
  unfold askV
  rw [if_pos h0, if_pos ⟨by omega, by omega⟩]
set_option maxHeartbeats 4000000 in
theorem regsR_no (i : Int)  (h : askV t fs i ≠ 0) (ht : Kd.C k78 w A0 t.length t) (hct : t.length ≤ c0) (hf : Kd.C k55 w B0 fs.length fs) (hcf : fs.length ≤ d0) (hM : SmallP t fs) (hS : SaneP fs) :
    Calls Tryd.prog 18 #[.agg #[.slice A0 t.length c0, .slice B0 fs.length d0], .int .i64 i] w fun e w' => e = .returned (.tuple #[.int .i64 0, .int .i64 (askV t fs i)]) ∧ Below w.heap.size w w' := by
  have hu35 := Tryd.underlying35
  have HAS := Aside0.mk (fun (V : World) (hb : Below w.heap.size w V) => askedR_calls A0 B0 c0 d0 t fs V i (Kd.C_below ht hb) hct (Kd.C_below hf hb) hcf hM hS)
  have hnb : (askV t fs i != 0) = true := bne_iff_ne.mpr h
  have heb : (askV t fs i == 0) = false := beq_eq_false_iff_ne.mpr h
  generalize askV t fs i = ev at *
  clear ht hct hf hcf hM hS h
  go_enter Tryd.func18, Tryd.ntmps18
  go_wp2_with fail
  refine (HAS.out _ (below_alloc (Below.refl _ _) _)).mono ?_
  rintro e w1 ⟨rfl, hb⟩
  have KP := Aside0.mk (blk_below (blk_new w (.cells #[.slice A0 t.length c0, .slice B0 fs.length d0] 35)) hb)
  have KB := Aside0.mk (below_then (below_alloc (Below.refl w.heap.size w) (.cells #[.slice A0 t.length c0, .slice B0 fs.length d0] 35)) (by simp) hb)
  obtain ⟨z0, z1, -⟩ := blk2 KP.out
  clear hb HAS
  go_wp2_with fail
  go_ret2
  exact ⟨rfl, KB.out⟩
set_option maxHeartbeats 4000000 in
theorem placeR_no (i : Int) (r : Int) (h : askV t fs i ≠ 0) (ht : Kd.C k78 w A0 t.length t) (hct : t.length ≤ c0) (hf : Kd.C k55 w B0 fs.length fs) (hcf : fs.length ≤ d0) (hM : SmallP t fs) (hS : SaneP fs) :
    Calls Tryd.prog 20 #[.agg #[.slice A0 t.length c0, .slice B0 fs.length d0], .int .i64 i, .int .i64 r] w fun e w' => e = .returned (.tuple #[.int .i64 0, .int .i64 0, .int .i64 (askV t fs i)]) ∧ Below w.heap.size w w' := by
  have hu35 := Tryd.underlying35
  have HAS := Aside0.mk (fun (V : World) (hb : Below w.heap.size w V) => askedR_calls A0 B0 c0 d0 t fs V i (Kd.C_below ht hb) hct (Kd.C_below hf hb) hcf hM hS)
  have hnb : (askV t fs i != 0) = true := bne_iff_ne.mpr h
  have heb : (askV t fs i == 0) = false := beq_eq_false_iff_ne.mpr h
  generalize askV t fs i = ev at *
  clear ht hct hf hcf hM hS h
  go_enter Tryd.func20, Tryd.ntmps20
  go_wp2_with fail
  refine (HAS.out _ (below_alloc (Below.refl _ _) _)).mono ?_
  rintro e w1 ⟨rfl, hb⟩
  have KP := Aside0.mk (blk_below (blk_new w (.cells #[.slice A0 t.length c0, .slice B0 fs.length d0] 35)) hb)
  have KB := Aside0.mk (below_then (below_alloc (Below.refl w.heap.size w) (.cells #[.slice A0 t.length c0, .slice B0 fs.length d0] 35)) (by simp) hb)
  obtain ⟨z0, z1, -⟩ := blk2 KP.out
  clear hb HAS
  go_wp2_with fail
  go_ret3
  exact ⟨rfl, KB.out⟩
set_option maxHeartbeats 4000000 in
theorem regR_no (i : Int) (b a : Int) (h : askV t fs i ≠ 0) (ht : Kd.C k78 w A0 t.length t) (hct : t.length ≤ c0) (hf : Kd.C k55 w B0 fs.length fs) (hcf : fs.length ≤ d0) (hM : SmallP t fs) (hS : SaneP fs) :
    Calls Tryd.prog 22 #[.agg #[.slice A0 t.length c0, .slice B0 fs.length d0], .int .i64 i, .int .i64 b, .int .i64 a] w fun e w' => e = .returned (.tuple #[.int .i64 0, .int .i64 (askV t fs i)]) ∧ Below w.heap.size w w' := by
  have hu35 := Tryd.underlying35
  have HAS := Aside0.mk (fun (V : World) (hb : Below w.heap.size w V) => askedR_calls A0 B0 c0 d0 t fs V i (Kd.C_below ht hb) hct (Kd.C_below hf hb) hcf hM hS)
  have hnb : (askV t fs i != 0) = true := bne_iff_ne.mpr h
  have heb : (askV t fs i == 0) = false := beq_eq_false_iff_ne.mpr h
  generalize askV t fs i = ev at *
  clear ht hct hf hcf hM hS h
  go_enter Tryd.func22, Tryd.ntmps22
  go_wp2_with fail
  refine (HAS.out _ (below_alloc (Below.refl _ _) _)).mono ?_
  rintro e w1 ⟨rfl, hb⟩
  have KP := Aside0.mk (blk_below (blk_new w (.cells #[.slice A0 t.length c0, .slice B0 fs.length d0] 35)) hb)
  have KB := Aside0.mk (below_then (below_alloc (Below.refl w.heap.size w) (.cells #[.slice A0 t.length c0, .slice B0 fs.length d0] 35)) (by simp) hb)
  obtain ⟨z0, z1, -⟩ := blk2 KP.out
  clear hb HAS
  go_wp2_with fail
  go_ret2
  exact ⟨rfl, KB.out⟩
set_option maxHeartbeats 4000000 in
theorem regsR_yes (i : Nat) (hi : i < fs.length) (h0 : chkP t fs = 0) (hs : 0 ≤ fs[i].f0 ∧ fs[i].f0 < t.length) (ht : Kd.C k78 w A0 t.length t) (hct : t.length ≤ c0) (hf : Kd.C k55 w B0 fs.length fs) (hcf : fs.length ≤ d0) (hM : SmallP t fs) (hS : SaneP fs) :
    Calls Tryd.prog 18 #[.agg #[.slice A0 t.length c0, .slice B0 fs.length d0], .int .i64 (i : Int)] w fun e w' => e = .returned (.tuple #[.int .i64 (regN t fs[i] : Int), .int .i64 0]) ∧ Below w.heap.size w w' := by
  have hu35 := Tryd.underlying35
  have HAS := Aside0.mk (fun (V : World) (hb : Below w.heap.size w V) => askedR_calls A0 B0 c0 d0 t fs V (i : Int) (Kd.C_below ht hb) hct (Kd.C_below hf hb) hcf hM hS)
  rw [askV_yes h0 hi] at HAS
  have HCO := Aside0.mk (fun (V : World) (hb : Below w.heap.size w V) => countR_calls A0 B0 c0 d0 t fs V i hi (Kd.C_below ht hb) hct (Kd.C_below hf hb) hcf hM hs)
  generalize regN t fs[i] = rn at *
  clear ht hct hf hcf hM hS
  go_enter Tryd.func18, Tryd.ntmps18
  go_wp2_with fail
  refine (HAS.out _ (below_alloc (Below.refl _ _) _)).mono ?_
  rintro e w1 ⟨rfl, hb⟩
  have KP := Aside0.mk (blk_below (blk_new w (.cells #[.slice A0 t.length c0, .slice B0 fs.length d0] 35)) hb)
  have KB := Aside0.mk (below_then (below_alloc (Below.refl w.heap.size w) (.cells #[.slice A0 t.length c0, .slice B0 fs.length d0] 35)) (by simp) hb)
  obtain ⟨z0, z1, -⟩ := blk2 KP.out
  clear hb HAS
  go_wp2_with fail
  refine (HCO.out _ KB.out).mono ?_
  rintro e w2 ⟨rfl, hb⟩
  have KB2 := Aside0.mk (below_then KB.out KB.out.size hb)
  clear hb HCO z0 z1
  go_wp2_with fail
  go_ret2
  exact ⟨rfl, KB2.out⟩
def PlacePost (L : List S58) (par : Nat) (r : Int) (w : World) (e : Ending) (w' : World) : Prop := ∃ x y : Int, e = .returned (.tuple #[.int .i64 x, .int .i64 y, .int .i64 0]) ∧ WhereOk L par r x y ∧ Below w.heap.size w w'
set_option maxHeartbeats 4000000 in
theorem placeR_far (i : Nat) (hi : i < fs.length) (h0 : chkP t fs = 0) (hs : 0 ≤ fs[i].f0 ∧ fs[i].f0 < t.length) (r : Int) (hr : ¬ (0 ≤ r ∧ r < regN t fs[i])) (ht : Kd.C k78 w A0 t.length t) (hct : t.length ≤ c0) (hf : Kd.C k55 w B0 fs.length fs) (hcf : fs.length ≤ d0) (hM : SmallP t fs) (hS : SaneP fs) :
    Calls Tryd.prog 20 #[.agg #[.slice A0 t.length c0, .slice B0 fs.length d0], .int .i64 (i : Int), .int .i64 r] w fun e w' => e = .returned (.tuple #[.int .i64 0, .int .i64 0, .int .i64 2]) ∧ Below w.heap.size w w' := by
  have hu35 := Tryd.underlying35
  have HAS := Aside0.mk (fun (V : World) (hb : Below w.heap.size w V) => askedR_calls A0 B0 c0 d0 t fs V (i : Int) (Kd.C_below ht hb) hct (Kd.C_below hf hb) hcf hM hS)
  rw [askV_yes h0 hi] at HAS
  have HCO := Aside0.mk (fun (V : World) (hb : Below w.heap.size w V) => countR_calls A0 B0 c0 d0 t fs V i hi (Kd.C_below ht hb) hct (Kd.C_below hf hb) hcf hM hs)
  generalize regN t fs[i] = rn at *
  clear ht hct hf hcf hM hS
  by_cases h1 : r < 0
  · have d1 : decide (r < 0) = true := decide_eq_true h1
    clear h1 hr HCO
    go_enter Tryd.func20, Tryd.ntmps20
    go_wp2_with fail
    refine (HAS.out _ (below_alloc (Below.refl _ _) _)).mono ?_
    rintro e w1 ⟨rfl, hb⟩
    have KP := Aside0.mk (blk_below (blk_new w (.cells #[.slice A0 t.length c0, .slice B0 fs.length d0] 35)) hb)
    have KB := Aside0.mk (below_then (below_alloc (Below.refl w.heap.size w) (.cells #[.slice A0 t.length c0, .slice B0 fs.length d0] 35)) (by simp) hb)
    obtain ⟨z0, z1, -⟩ := blk2 KP.out
    clear hb HAS
    go_wp2_with fail
    go_ret3
    exact ⟨rfl, KB.out⟩
  · have d1 : decide (r < 0) = false := decide_eq_false h1
    have d2 : decide ((rn : Int) ≤ r) = true := decide_eq_true (by omega)
    clear h1 hr
    go_enter Tryd.func20, Tryd.ntmps20
    go_wp2_with fail
    refine (HAS.out _ (below_alloc (Below.refl _ _) _)).mono ?_
    rintro e w1 ⟨rfl, hb⟩
    have KP := Aside0.mk (blk_below (blk_new w (.cells #[.slice A0 t.length c0, .slice B0 fs.length d0] 35)) hb)
    have KB := Aside0.mk (below_then (below_alloc (Below.refl w.heap.size w) (.cells #[.slice A0 t.length c0, .slice B0 fs.length d0] 35)) (by simp) hb)
    obtain ⟨z0, z1, -⟩ := blk2 KP.out
    clear hb HAS
    go_wp2_with fail
    refine (HCO.out _ KB.out).mono ?_
    rintro e w2 ⟨rfl, hb⟩
    have KB2 := Aside0.mk (below_then KB.out KB.out.size hb)
    have KP2 := Aside0.mk (blk_below KP.out hb)
    clear hb HCO z0 z1
    obtain ⟨z0, z1, -⟩ := blk2 KP2.out
    go_wp2_with fail
    go_ret3
    exact ⟨rfl, KB2.out⟩
set_option maxHeartbeats 4000000 in
theorem placeR_in (i : Nat) (hi : i < fs.length) (h0 : chkP t fs = 0) (hs : 0 ≤ fs[i].f0 ∧ fs[i].f0 < t.length) (r : Int) (hr : 0 ≤ r ∧ r < regN t fs[i]) (ht : Kd.C k78 w A0 t.length t) (hct : t.length ≤ c0) (hf : Kd.C k55 w B0 fs.length fs) (hcf : fs.length ≤ d0) (hM : SmallP t fs) (hS : SaneP fs) :
    Calls Tryd.prog 20 #[.agg #[.slice A0 t.length c0, .slice B0 fs.length d0], .int .i64 (i : Int), .int .i64 r] w (PlacePost fs[i].f1 (parN t fs[i]) r w) := by
  have hu35 := Tryd.underlying35
  have HAS := Aside0.mk (fun (V : World) (hb : Below w.heap.size w V) => askedR_calls A0 B0 c0 d0 t fs V (i : Int) (Kd.C_below ht hb) hct (Kd.C_below hf hb) hcf hM hS)
  rw [askV_yes h0 hi] at HAS
  have HCO := Aside0.mk (fun (V : World) (hb : Below w.heap.size w V) => countR_calls A0 B0 c0 d0 t fs V i hi (Kd.C_below ht hb) hct (Kd.C_below hf hb) hcf hM hs)
  have HWH := Aside0.mk (fun (V : World) (hb : Below w.heap.size w V) => whereR_calls A0 B0 c0 d0 t fs V i hi r (Kd.C_below ht hb) hct (Kd.C_below hf hb) hcf hM hs)
  generalize parN t fs[i] = pn at *
  generalize regN t fs[i] = rn at *
  clear ht hct hf hcf hM hS
  have d1 : decide (r < 0) = false := decide_eq_false (by omega)
  have d2 : decide ((rn : Int) ≤ r) = false := decide_eq_false (by omega)
  clear hr
  go_enter Tryd.func20, Tryd.ntmps20
  go_wp2_with fail
  refine (HAS.out _ (below_alloc (Below.refl _ _) _)).mono ?_
  rintro e w1 ⟨rfl, hb⟩
  have KP := Aside0.mk (blk_below (blk_new w (.cells #[.slice A0 t.length c0, .slice B0 fs.length d0] 35)) hb)
  have KB := Aside0.mk (below_then (below_alloc (Below.refl w.heap.size w) (.cells #[.slice A0 t.length c0, .slice B0 fs.length d0] 35)) (by simp) hb)
  obtain ⟨z0, z1, -⟩ := blk2 KP.out
  clear hb HAS
  go_wp2_with fail
  refine (HCO.out _ KB.out).mono ?_
  rintro e w2 ⟨rfl, hb⟩
  have KB2 := Aside0.mk (below_then KB.out KB.out.size hb)
  have KP2 := Aside0.mk (blk_below KP.out hb)
  clear hb HCO z0 z1
  obtain ⟨z0, z1, -⟩ := blk2 KP2.out
  go_wp2_with fail
  refine (HWH.out _ KB2.out).mono ?_
  rintro e w3 ⟨x, y, rfl, hw, hb⟩
  have HW := Aside0.mk hw
  have KB3 := Aside0.mk (below_then KB2.out KB2.out.size hb)
  clear hb hw HWH z0 z1
  go_wp2_with fail
  go_ret3
  exact ⟨_, _, rfl, HW.out, KB3.out⟩
set_option maxHeartbeats 8000000 in
theorem regR_bad (i : Nat) (hi : i < fs.length) (h0 : chkP t fs = 0) (b a : Int) (hba : ¬ (0 ≤ b ∧ b < fs[i].f1.length) ∨ ∃ (n : Nat) (hn : n < fs[i].f1.length), b = n ∧ ¬ (0 ≤ a ∧ a < (fs[i].f1[n]'hn).f0.length)) (ht : Kd.C k78 w A0 t.length t) (hct : t.length ≤ c0) (hf : Kd.C k55 w B0 fs.length fs) (hcf : fs.length ≤ d0) (hM : SmallP t fs) (hS : SaneP fs) :
    Calls Tryd.prog 22 #[.agg #[.slice A0 t.length c0, .slice B0 fs.length d0], .int .i64 (i : Int), .int .i64 b, .int .i64 a] w fun e w' => e = .returned (.tuple #[.int .i64 0, .int .i64 2]) ∧ Below w.heap.size w w' := by
  have hu35 := Tryd.underlying35
  have hu55 := Tryd.underlying55
  have hu58 := Tryd.underlying58
  have hltz : (i : Int) < (fs.length : Int) := by omega
  have HAS := Aside0.mk (fun (V : World) (hb : Below w.heap.size w V) => askedR_calls A0 B0 c0 d0 t fs V (i : Int) (Kd.C_below ht hb) hct (Kd.C_below hf hb) hcf hM hS)
  rw [askV_yes h0 hi] at HAS
  obtain ⟨ad, A1, c1, e, hx0, hx1, ux0, ux1⟩ := at_T55 hf (i : Int) (by omega) (by omega)
  rw [rdT55_at hi] at hx0 hx1 ux0 ux1
  cases e
  simp only [Int.toNat_natCast] at hx0 hx1
  have HX := Aside0.mk (fun (V : World) (hb : Below w.heap.size w V) => And.intro (pw_cell_below hb hx0) (pw_cell_below hb hx1))
  have HU := Aside0.mk ux1
  clear ht hct hf hcf hM hS h0 hx0 hx1 ux0 ux1
  generalize fs[i] = f at *
  rcases hba with hb | ⟨n, hn, rfl, ha⟩
  · by_cases h1 : b < 0
    · have d1 : decide (b < 0) = true := decide_eq_true h1
      clear h1 hb
      go_enter Tryd.func22, Tryd.ntmps22
      go_wp2_with fail
      refine (HAS.out _ (below_alloc (Below.refl _ _) _)).mono ?_
      rintro e w1 ⟨rfl, hb⟩
      have KP := Aside0.mk (blk_below (blk_new w (.cells #[.slice A0 t.length c0, .slice (some ad) fs.length d0] 35)) hb)
      have KB := Aside0.mk (below_then (below_alloc (Below.refl w.heap.size w) (.cells #[.slice A0 t.length c0, .slice (some ad) fs.length d0] 35)) (by simp) hb)
      obtain ⟨z0, z1, -⟩ := blk2 KP.out
      clear hb HAS
      obtain ⟨z2, z3⟩ := HX.out _ KB.out
      go_wp2_with fail
      go_ret2
      exact ⟨rfl, KB.out⟩
    · have d1 : decide (b < 0) = false := decide_eq_false h1
      have d2 : decide ((f.f1.length : Int) ≤ b) = true := decide_eq_true (by omega)
      clear h1 hb
      go_enter Tryd.func22, Tryd.ntmps22
      go_wp2_with fail
      refine (HAS.out _ (below_alloc (Below.refl _ _) _)).mono ?_
      rintro e w1 ⟨rfl, hb⟩
      have KP := Aside0.mk (blk_below (blk_new w (.cells #[.slice A0 t.length c0, .slice (some ad) fs.length d0] 35)) hb)
      have KB := Aside0.mk (below_then (below_alloc (Below.refl w.heap.size w) (.cells #[.slice A0 t.length c0, .slice (some ad) fs.length d0] 35)) (by simp) hb)
      obtain ⟨z0, z1, -⟩ := blk2 KP.out
      clear hb HAS
      obtain ⟨z2, z3⟩ := HX.out _ KB.out
      go_wp2_with fail
      go_ret2
      exact ⟨rfl, KB.out⟩
  · have hnz : (n : Int) < (f.f1.length : Int) := by omega
    have d1 : decide ((n : Int) < 0) = false := decide_eq_false (by omega)
    have d2 : decide ((f.f1.length : Int) ≤ (n : Int)) = false := decide_eq_false (by omega)
    have d2' : decide (f.f1.length ≤ n) = false := decide_eq_false (by omega)
    obtain ⟨ae, A2, c2, e, hy0, hy1, hy2, hy3, hy4, vx0, vx1⟩ := at_T58 HU.out (n : Int) (by omega) hnz
    rw [rdT58_at hn] at hy0 hy1 hy2 hy3 hy4 vx0 vx1
    cases e
    simp only [Int.toNat_natCast] at hy0 hy1 hy2 hy3 hy4
    have HY := Aside0.mk (fun (V : World) (hb : Below w.heap.size w V) => pw_cell_below hb hy0)
    clear hy0 hy1 hy2 hy3 hy4 vx0 vx1
    generalize f.f1[n] = q at *
    by_cases h1 : a < 0
    · have d3 : decide (a < 0) = true := decide_eq_true h1
      clear h1 ha
      go_enter Tryd.func22, Tryd.ntmps22
      go_wp2_with fail
      refine (HAS.out _ (below_alloc (Below.refl _ _) _)).mono ?_
      rintro e w1 ⟨rfl, hb⟩
      have KP := Aside0.mk (blk_below (blk_new w (.cells #[.slice A0 t.length c0, .slice (some ad) fs.length d0] 35)) hb)
      have KB := Aside0.mk (below_then (below_alloc (Below.refl w.heap.size w) (.cells #[.slice A0 t.length c0, .slice (some ad) fs.length d0] 35)) (by simp) hb)
      obtain ⟨z0, z1, -⟩ := blk2 KP.out
      clear hb HAS
      obtain ⟨z2, z3⟩ := HX.out _ KB.out
      have z4 := HY.out _ KB.out
      go_wp2_with fail
      go_ret2
      exact ⟨rfl, KB.out⟩
    · have d3 : decide (a < 0) = false := decide_eq_false h1
      have d4 : decide ((q.f0.length : Int) ≤ a) = true := decide_eq_true (by omega)
      clear h1 ha
      go_enter Tryd.func22, Tryd.ntmps22
      go_wp2_with fail
      refine (HAS.out _ (below_alloc (Below.refl _ _) _)).mono ?_
      rintro e w1 ⟨rfl, hb⟩
      have KP := Aside0.mk (blk_below (blk_new w (.cells #[.slice A0 t.length c0, .slice (some ad) fs.length d0] 35)) hb)
      have KB := Aside0.mk (below_then (below_alloc (Below.refl w.heap.size w) (.cells #[.slice A0 t.length c0, .slice (some ad) fs.length d0] 35)) (by simp) hb)
      obtain ⟨z0, z1, -⟩ := blk2 KP.out
      clear hb HAS
      obtain ⟨z2, z3⟩ := HX.out _ KB.out
      have z4 := HY.out _ KB.out
      go_wp2_with fail
      go_ret2
      exact ⟨rfl, KB.out⟩
set_option maxHeartbeats 8000000 in
theorem regR_at (i : Nat) (hi : i < fs.length) (h0 : chkP t fs = 0) (hs : 0 ≤ fs[i].f0 ∧ fs[i].f0 < t.length) (b a : Nat) (hb : b < fs[i].f1.length) (ha : a < (fs[i].f1[b]'hb).f0.length) (ht : Kd.C k78 w A0 t.length t) (hct : t.length ≤ c0) (hf : Kd.C k55 w B0 fs.length fs) (hcf : fs.length ≤ d0) (hM : SmallP t fs) (hS : SaneP fs) :
    Calls Tryd.prog 22 #[.agg #[.slice A0 t.length c0, .slice B0 fs.length d0], .int .i64 (i : Int), .int .i64 (b : Int), .int .i64 (a : Int)] w fun e w' => e = .returned (.tuple #[.int .i64 ((parN t fs[i] + cnt (fs[i].f1.take b) + a : Nat) : Int), .int .i64 0]) ∧ Below w.heap.size w w' := by
  have hu35 := Tryd.underlying35
  have hu55 := Tryd.underlying55
  have hu58 := Tryd.underlying58
  have hltz : (i : Int) < (fs.length : Int) := by omega
  have HAS := Aside0.mk (fun (V : World) (hb : Below w.heap.size w V) => askedR_calls A0 B0 c0 d0 t fs V (i : Int) (Kd.C_below ht hb) hct (Kd.C_below hf hb) hcf hM hS)
  rw [askV_yes h0 hi] at HAS
  have h300 : (fs[i].f1[b]'hb).f0.length ≤ 300 := ((hM.all _ (List.getElem_mem hi)).2 _ (List.getElem_mem hb)).1
  have HNU := Aside0.mk (fun (V : World) (hV : Below w.heap.size w V) => numberR_calls A0 B0 c0 d0 t fs V i hi b a (by omega) (by omega) (Kd.C_below ht hV) hct (Kd.C_below hf hV) hcf hM hs)
  generalize ((parN t fs[i] + cnt (fs[i].f1.take b) + a : Nat) : Int) = z at *
  obtain ⟨ad, A1, c1, e, hx0, hx1, ux0, ux1⟩ := at_T55 hf (i : Int) (by omega) (by omega)
  rw [rdT55_at hi] at hx0 hx1 ux0 ux1
  cases e
  simp only [Int.toNat_natCast] at hx0 hx1
  have HX := Aside0.mk (fun (V : World) (hb : Below w.heap.size w V) => And.intro (pw_cell_below hb hx0) (pw_cell_below hb hx1))
  have HU := Aside0.mk ux1
  clear ht hct hf hcf hM hS h0 hx0 hx1 ux0 ux1 hs
  generalize fs[i] = f at *
  have hnz : (b : Int) < (f.f1.length : Int) := by omega
  have d1 : decide ((b : Int) < 0) = false := decide_eq_false (by omega)
  have d2 : decide ((f.f1.length : Int) ≤ (b : Int)) = false := decide_eq_false (by omega)
  have d2' : decide (f.f1.length ≤ b) = false := decide_eq_false (by omega)
  obtain ⟨ae, A2, c2, e, hy0, hy1, hy2, hy3, hy4, vx0, vx1⟩ := at_T58 HU.out (b : Int) (by omega) hnz
  rw [rdT58_at hb] at hy0 hy1 hy2 hy3 hy4 vx0 vx1
  cases e
  simp only [Int.toNat_natCast] at hy0 hy1 hy2 hy3 hy4
  have HY := Aside0.mk (fun (V : World) (hb : Below w.heap.size w V) => pw_cell_below hb hy0)
  clear hy0 hy1 hy2 hy3 hy4 vx0 vx1
  generalize f.f1[b] = q at *
  have d3 : decide ((a : Int) < 0) = false := decide_eq_false (by omega)
  have d4 : decide ((q.f0.length : Int) ≤ (a : Int)) = false := decide_eq_false (by omega)
  have d4' : decide (q.f0.length ≤ a) = false := decide_eq_false (by omega)
  go_enter Tryd.func22, Tryd.ntmps22
  go_wp2_with fail
  refine (HAS.out _ (below_alloc (Below.refl _ _) _)).mono ?_
  rintro e w1 ⟨rfl, hb⟩
  have KP := Aside0.mk (blk_below (blk_new w (.cells #[.slice A0 t.length c0, .slice (some ad) fs.length d0] 35)) hb)
  have KB := Aside0.mk (below_then (below_alloc (Below.refl w.heap.size w) (.cells #[.slice A0 t.length c0, .slice (some ad) fs.length d0] 35)) (by simp) hb)
  obtain ⟨z0, z1, -⟩ := blk2 KP.out
  clear hb HAS
  obtain ⟨z2, z3⟩ := HX.out _ KB.out
  have z4 := HY.out _ KB.out
  go_wp2_with fail
  refine (HNU.out _ KB.out).mono ?_
  rintro e w2 ⟨rfl, hb2⟩
  have KB2 := Aside0.mk (below_then KB.out KB.out.size hb2)
  clear hb2 HNU z0 z1 z2 z3 z4
  go_wp2_with fail
  go_ret2
  exact ⟨rfl, KB2.out⟩
end
end Go.Proofs.YtfjmpfecnemoiaaDoor.Q
