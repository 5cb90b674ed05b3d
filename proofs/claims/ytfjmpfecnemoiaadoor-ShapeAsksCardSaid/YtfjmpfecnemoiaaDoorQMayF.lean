/-
  fescueref06.mayFunc and Check: what the reference answers of functions and of programs.
-/
import Derived.Test.YtfjmpfecnemoiaaDoorQRa
import Derived.StillTailTactics
namespace Go.Proofs.YtfjmpfecnemoiaaDoor.Q
open Go.RowKit Go.Proofs.YtfjmpfecnemoiaaDoorW.PrintWords Go.Proofs.YtfjmpfecnemoiaaDoorW.PrintLast Go.Proofs.YtfjmpfecnemoiaaDoorW.PrintMore
set_option linter.unusedVariables false
set_option linter.unusedSimpArgs false
set_option maxRecDepth 100000

theorem mkAt {W : World} {n : Nat} (h : W.heap.size = n) (o : Obj) : (W.alloc o).heap[n]? = some o := h ▸ blk_new W o
theorem mkSize {W : World} {n : Nat} (h : W.heap.size = n) (o : Obj) : (W.alloc o).heap.size = n + 1 := by simp [h]

section
variable (At Af A1 : Option Addr) (ct cf c1 : Nat) (t : List S78) (fs : List S55) (f : S55) (w : World)
set_option maxHeartbeats 4000000 in
theorem mayF_early (hrt : Kd.C k78 w At t.length t) (h : f.f0 < 0 ∨ (0 ≤ f.f0 ∧ (t.length : Int) ≤ f.f0)) :
    Calls Tryd.prog 58 #[.agg #[.slice At t.length ct, .slice Af fs.length cf], .agg #[.int .i64 f.f0, .slice A1 f.f1.length c1]] w fun e w' => e = .returned (.bool false) ∧ Below w.heap.size w w' := by
  have hu35 := Tryd.underlying35
  have hu55 := Tryd.underlying55
  rcases h with h | ⟨h, h'⟩
  · have h1 : decide (f.f0 < 0) = true := decide_eq_true h
    clear h
    go_enter Tryd.func58, Tryd.ntmps58
    go_wp2_with fail
    go_ret
    exact ⟨rfl, below_alloc (below_alloc (Below.refl _ _) _) _⟩
  · have h1 : decide (f.f0 < 0) = false := decide_eq_false (by omega)
    have h2 : decide ((t.length : Int) ≤ f.f0) = true := decide_eq_true h'
    clear h h'
    go_enter Tryd.func58, Tryd.ntmps58
    go_wp2_with fail
    go_ret
    exact ⟨rfl, below_alloc (below_alloc (Below.refl _ _) _) _⟩
set_option maxHeartbeats 4000000 in
theorem mayF_head (hrt : Kd.C k78 w At t.length t) (h0 : 0 ≤ f.f0) (h1 : f.f0 < t.length) (h : (rd_T78 t f.f0).f0 ≠ 3 ∨ ((rd_T78 t f.f0).f0 = 3 ∧ (f.f1.length < 1 ∨ (1 ≤ f.f1.length ∧ 16 < f.f1.length)))) :
    Calls Tryd.prog 58 #[.agg #[.slice At t.length ct, .slice Af fs.length cf], .agg #[.int .i64 f.f0, .slice A1 f.f1.length c1]] w fun e w' => e = .returned (.bool false) ∧ Below w.heap.size w w' := by
  have hu35 := Tryd.underlying35
  have hu55 := Tryd.underlying55
  have d1 : decide (f.f0 < 0) = false := decide_eq_false (by omega)
  have d2 : decide ((t.length : Int) ≤ f.f0) = false := decide_eq_false (by omega)
  obtain ⟨ad, A3, c3, e, hx0, hx1, hx2, hx3, -, -⟩ := at_T78 hrt f.f0 h0 h1
  cases e
  have hblk := World.block_lt_of_cell? w _ hx0
  generalize rd_T78 t f.f0 = x at *
  have p0 : (0 : Int) ≤ f.f0 := h0
  rcases h with h | ⟨h, h'⟩
  · have d3 : (x.f0 != 3) = true := bne_iff_ne.mpr h
    clear h
    go_enter Tryd.func58, Tryd.ntmps58
    go_wp2_with fail
    go_ret
    exact ⟨rfl, below_alloc (below_alloc (Below.refl _ _) _) _⟩
  · have d3 : (x.f0 != 3) = false := bne_eq_false_iff_eq.mpr h
    clear h
    rcases h' with h' | ⟨h', h''⟩
    · have d4 : decide ((f.f1.length : Int) < 1) = true := decide_eq_true (by omega)
      have d4' : decide (f.f1.length < 1) = true := decide_eq_true h'
      clear h'
      go_enter Tryd.func58, Tryd.ntmps58
      go_wp2_with fail
      go_ret
      exact ⟨rfl, below_alloc (below_alloc (Below.refl _ _) _) _⟩
    · have d4 : decide ((f.f1.length : Int) < 1) = false := decide_eq_false (by omega)
      have d4' : decide (f.f1.length < 1) = false := decide_eq_false (by omega)
      have d5 : decide (16 < (f.f1.length : Int)) = true := decide_eq_true (by omega)
      have d5' : decide (16 < f.f1.length) = true := decide_eq_true h''
      clear h' h''
      go_enter Tryd.func58, Tryd.ntmps58
      go_wp2_with fail
      go_ret
      exact ⟨rfl, below_alloc (below_alloc (Below.refl _ _) _) _⟩
set_option maxHeartbeats 4000000 in
theorem mayF_many (hrt : Kd.C k78 w At t.length t) (hr1 : Kd.C k58 w A1 f.f1.length f.f1) (hc1 : f.f1.length ≤ c1) (hf : small55 f) (h0 : 0 ≤ f.f0) (h1 : f.f0 < t.length) (h3 : (rd_T78 t f.f0).f0 = 3) (hl : 1 ≤ f.f1.length) (hl' : f.f1.length ≤ 16) (hm : 128 < cnt f.f1) :
    Calls Tryd.prog 58 #[.agg #[.slice At t.length ct, .slice Af fs.length cf], .agg #[.int .i64 f.f0, .slice A1 f.f1.length c1]] w fun e w' => e = .returned (.bool false) ∧ Below w.heap.size w w' := by
  have hu35 := Tryd.underlying35
  have hu55 := Tryd.underlying55
  have d1 : decide (f.f0 < 0) = false := decide_eq_false (by omega)
  have d2 : decide ((t.length : Int) ≤ f.f0) = false := decide_eq_false (by omega)
  have HMN := Aside0.mk (fun (V : World) (hb : Below w.heap.size w V) => fescueref06_Many.calls 24 A1 c1 f.f1 (cnt f.f1 : Int) V (Kd.C_below hr1 hb) hc1 (manyR_some f.f1 hf.2 hf.1 24 (Nat.le_refl _)))
  obtain ⟨ad, A3, c3, e, hx0, hx1, hx2, hx3, -, -⟩ := at_T78 hrt f.f0 h0 h1
  cases e
  have hblk := World.block_lt_of_cell? w _ hx0
  generalize rd_T78 t f.f0 = x at *
  have p0 : (0 : Int) ≤ f.f0 := h0
  have d3 : (x.f0 != 3) = false := bne_eq_false_iff_eq.mpr h3
  have d4 : decide ((f.f1.length : Int) < 1) = false := decide_eq_false (by omega)
  have d4' : decide (f.f1.length < 1) = false := decide_eq_false (by omega)
  have d5 : decide (16 < (f.f1.length : Int)) = false := decide_eq_false (by omega)
  have d5' : decide (16 < f.f1.length) = false := decide_eq_false (by omega)
  have d6 : decide (128 < (cnt f.f1 : Int)) = true := decide_eq_true (by omega)
  have d6' : decide (128 < cnt f.f1) = true := decide_eq_true hm
  generalize cnt f.f1 = m at *
  clear hrt hr1 hc1 hf h3 hl hl' hm
  go_enter Tryd.func58, Tryd.ntmps58
  go_wp2_with fail
  refine (HMN.out _ (below_alloc (below_alloc (Below.refl _ _) _) _)).mono ?_
  rintro e w' ⟨rfl, ⟨m', rfl⟩⟩
  clear HMN
  go_wp2_with fail
  go_ret
  exact ⟨rfl, pw_below_drewN (below_alloc (below_alloc (Below.refl _ _) _) _) _⟩

set_option maxHeartbeats 16000000 in
theorem mayF_body (hrt : Kd.C k78 w At t.length t) (hct : t.length ≤ ct) (hrf : Kd.C k55 w Af fs.length fs) (hcf : fs.length ≤ cf) (hr1 : Kd.C k58 w A1 f.f1.length f.f1) (hc1 : f.f1.length ≤ c1) (hf : small55 f) (hs : ∀ b ∈ f.f1, ∀ x ∈ b.f0, 0 ≤ x.f0) (h0 : 0 ≤ f.f0) (h1 : f.f0 < t.length) (h3 : (rd_T78 t f.f0).f0 = 3) (hl : 1 ≤ f.f1.length) (hl' : f.f1.length ≤ 16) (hm : cnt f.f1 ≤ 128) (r : Bool) (hr : f.f1.all (blockB t.length fs.length (regsW t f) f.f1.length) = r) :
    Calls Tryd.prog 58 #[.agg #[.slice At t.length ct, .slice Af fs.length cf], .agg #[.int .i64 f.f0, .slice A1 f.f1.length c1]] w fun e w' => e = .returned (.bool r) ∧ Below w.heap.size w w' := by
  have hu35 := Tryd.underlying35
  have hu55 := Tryd.underlying55
  have hu58 := Tryd.underlying58
  have hu26 := Tryd.underlying26
  have hu24 := Tryd.underlying24
  have d1 : decide (f.f0 < 0) = false := decide_eq_false (by omega)
  have d2 : decide ((t.length : Int) ≤ f.f0) = false := decide_eq_false (by omega)
  have HMN := Aside0.mk (fun (V : World) (hb : Below w.heap.size w V) => fescueref06_Many.calls 24 A1 c1 f.f1 (cnt f.f1 : Int) V (Kd.C_below hr1 hb) hc1 (manyR_some f.f1 hf.2 hf.1 24 (Nat.le_refl _)))
  have HPA := Aside0.mk (fun (V : World) (hb : Below w.heap.size w V) => fescueref06_Params.calls At ct t Af cf fs f.f0 A1 c1 f.f1 ((rd_T78 t f.f0).f3.length : Int) V (Kd.C_below hrt hb) hct (Kd.C_below hrf hb) hcf (Kd.C_below hr1 hb) hc1 (by unfold fescueref06_Params.f; rw [if_pos h0, if_pos h1]))
  have HREG := Aside0.mk (show wrap64 (((rd_T78 t f.f0).f3.length : Int) + (cnt f.f1 : Int)) = regsW t f from by unfold regsW; rw [manyW_is f.f1 hf.2 hf.1])
  have HINS := Aside0.mk (fun (V : World) (hb : Below w.heap.size w V) (x : S24) (A5 A6 : Option Addr) (c5 c6 : Nat) (hx : small24 x) (h0 : 0 ≤ x.f0) (l5 : x.f5.length ≤ c5) (r5 : (Kd.int .i64).C V A5 x.f5.length x.f5) (l6 : x.f6.length ≤ c6) (r6 : (Kd.int .i64).C V A6 x.f6.length x.f6) =>
    fescueref06_mayIns.calls 64 At ct t Af cf fs x.f0 x.f1 x.f2 x.f3 x.f4 A5 c5 x.f5 A6 c6 x.f6 (regsW t f) (f.f1.length : Int) (insB t.length fs.length (regsW t f) f.f1.length x) V (Kd.C_below hrt hb) hct (Kd.C_below hrf hb) hcf r5 l5 r6 l6 (by rw [insR_some t fs _ _ x hx 64 (Nat.le_refl _), insR_eq _ _ _ _ x h0]))
  have HEND := Aside0.mk (fun (V : World) (x : S26) => fescueref06_mayEnd.calls 61 x.f0 x.f1 x.f2 x.f3 (regsW t f) (f.f1.length : Int) (endB t.length fs.length (regsW t f) f.f1.length x) V (endR_some t.length fs.length (regsW t f) f.f1.length x 61 (Nat.le_refl _)))
  obtain ⟨ad, A3, c3, e, hx0, hx1, hx2, hx3, -, -⟩ := at_T78 hrt f.f0 h0 h1
  cases e
  have hblk := World.block_lt_of_cell? w _ hx0
  have HSM := Aside0.mk hf
  have HSA := Aside0.mk hs
  have HR1 := Aside0.mk hr1
  have HR := Aside0.mk hr
  generalize regsW t f = rg at *
  generalize rd_T78 t f.f0 = x at *
  have p0 : (0 : Int) ≤ f.f0 := h0
  have d3 : (x.f0 != 3) = false := bne_eq_false_iff_eq.mpr h3
  have d4 : decide ((f.f1.length : Int) < 1) = false := decide_eq_false (by omega)
  have d4' : decide (f.f1.length < 1) = false := decide_eq_false (by omega)
  have d5 : decide (16 < (f.f1.length : Int)) = false := decide_eq_false (by omega)
  have d5' : decide (16 < f.f1.length) = false := decide_eq_false (by omega)
  have d6 : decide (128 < (cnt f.f1 : Int)) = false := decide_eq_false (by omega)
  have d6' : decide (128 < cnt f.f1) = false := decide_eq_false (by omega)
  generalize cnt f.f1 = m at *
  clear hrt hct hrf hcf hr1 hc1 hf hs h3 hl hr
  go_enter Tryd.func58, Tryd.ntmps58
  go_wp2_with fail
  refine (HMN.out _ (below_alloc (below_alloc (Below.refl _ _) _) _)).mono ?_
  rintro e w' ⟨rfl, ⟨m', rfl⟩⟩
  have hp := blk_drewN (blk_alloc (mkAt (show w.heap.size = w.heap.size from rfl) (.cells #[.slice (some ad) t.length ct, .slice Af fs.length cf] 35)) (.cells #[.int .i64 f.f0, .slice A1 f.f1.length c1] 55)) m'
  have hq := blk_drewN (mkAt (mkSize (show w.heap.size = w.heap.size from rfl) (.cells #[.slice (some ad) t.length ct, .slice Af fs.length cf] 35)) (.cells #[.int .i64 f.f0, .slice A1 f.f1.length c1] 55)) m'
  have hB := pw_below_drewN (below_alloc (below_alloc (Below.refl w.heap.size w) (.cells #[.slice (some ad) t.length ct, .slice Af fs.length cf] 35)) (.cells #[.int .i64 f.f0, .slice A1 f.f1.length c1] 55)) m'
  clear hx0 hx1 hx2 hx3 hblk
  go_upto_region 3 with fail
  generalize ((w.alloc (.cells #[.slice (some ad) t.length ct, .slice Af fs.length cf] 35)).alloc (.cells #[.int .i64 f.f0, .slice A1 f.f1.length c1] 55)).drewN m' = W0 at *
  have HP := Aside0.mk hp
  have HQ := Aside0.mk hq
  have HB := Aside0.mk hB
  obtain ⟨z0, z1, -⟩ := blk2 hp
  obtain ⟨z2, z3, -⟩ := blk2 hq
  clear hp hq hB d1 d2 d3 d4 d4' d5 d5' d6 d6'
  go_cut [5] (fun s5 wx => s5 = .int .i64 rg ∧ Aside0 (Below w.heap.size w wx) ∧ Aside0 (wx.heap[w.heap.size]? = some (.cells #[.slice (some ad) t.length ct, .slice Af fs.length cf] 35 (0, 0))) ∧ Aside0 (wx.heap[w.heap.size + 1]? = some (.cells #[.int .i64 f.f0, .slice A1 f.f1.length c1] 55 (0, 0))))
  case first =>
    have HP1 := Aside0.mk (HPA.out W0.drew (Below.drew HB.out))
    go_region_held3 (fun W => W.cell? ⟨w.heap.size, 0, none⟩ = some (.slice (some ad) t.length ct) ∧ W.cell? ⟨w.heap.size, 1, none⟩ = some (.slice Af fs.length cf) ∧ W.cell? ⟨w.heap.size + 1, 0, none⟩ = some (.int .i64 f.f0) ∧ W.cell? ⟨w.heap.size + 1, 1, none⟩ = some (.slice A1 f.f1.length c1)) (first | exact ⟨z0, z1, z2, z3⟩ | go_keep) (first | (go_at_call 67; (with_reducible refine HP1.out.mono ?_); rintro e w2 ⟨rfl, hb⟩; have K2 := Aside0.mk (below_then (Below.drew HB.out) (by simpa using HB.out.size) hb); have Q2 := Aside0.mk (blk_below (blk_drew HP.out) hb); have Q3 := Aside0.mk (blk_below (blk_drew HQ.out) hb); clear hb z0 z1 z2 z3; obtain ⟨z0, z1, -⟩ := blk2 Q2.out; obtain ⟨z2, z3, -⟩ := blk2 Q3.out) | (go_at_call 68; (with_reducible refine (HMN.out _ K2.out).mono ?_); rintro e w3 ⟨rfl, ⟨m3, rfl⟩⟩))
    all_goals
      go_wp2_with fail
      go_meet
      refine ⟨?_, ⟨pw_below_drewN K2.out _⟩, ⟨blk_drewN Q2.out _⟩, ⟨blk_drewN Q3.out _⟩⟩
      rw [← HREG.out]
      simp only [i64_w]
  case rest =>
    obtain ⟨rfl, KB, KP, KQ⟩ := hcut
    clear HPA HMN HREG HP HQ HB z0 z1 z2 z3
    have hl20 : f.f1.length ≤ 20 := HSM.out.1
    have HR0 : Aside0 ((f.f1.drop 0).all (blockB t.length fs.length rg f.f1.length) = r) := HR
    go_wp2_with fail
    go_loopg [6] f.f1.length (fun gg v6 Wr => ∃ i : Nat, i ≤ f.f1.length ∧ f.f1.length - i ≤ gg ∧ v6 = .int .i64 i ∧ Aside0 ((f.f1.drop i).all (blockB t.length fs.length rg f.f1.length) = r) ∧ Aside0 (Below w.heap.size w Wr) ∧ Aside0 (Wr.heap[w.heap.size]? = some (.cells #[.slice (some ad) t.length ct, .slice Af fs.length cf] 35 (0, 0))) ∧ Aside0 (Wr.heap[w.heap.size + 1]? = some (.cells #[.int .i64 f.f0, .slice A1 f.f1.length c1] 55 (0, 0))))
    case atStart => exact ⟨0, Nat.zero_le _, by omega, rfl, HR0, KB, KP, KQ⟩
    case round =>
      obtain ⟨i, hi, hgi, rfl, HS, HBi, HPi, HQi⟩ := hrel
      clear KB KP KQ HR HR0
      obtain ⟨wi, rfl⟩ : ∃ wi : World, wi = wr := ⟨_, rfl⟩
      obtain ⟨z2, z3, -⟩ := blk2 HQi.out
      by_cases hlt : i < f.f1.length
      · have hltz : (i : Int) < (f.f1.length : Int) := by omega
        have hstep := HS.out
        rw [List.drop_eq_getElem_cons hlt, List.all_cons] at hstep
        have hbm := HSM.out.2 f.f1[i] (List.getElem_mem hlt)
        have hbs := HSA.out f.f1[i] (List.getElem_mem hlt)
        obtain ⟨ae, AB, cB, e, hy0, hy1, hy2, hy3, hy4, uy0, uy1⟩ := at_T58 HR1.out (i : Int) (by omega) hltz
        rw [rdT58_at hlt] at hy0 hy1 hy2 hy3 hy4 uy0 uy1
        cases e
        simp only [Int.toNat_natCast] at hy0 hy1 hy2 hy3 hy4
        generalize f.f1[i] = b at *
        have h300 : b.f0.length ≤ 300 := hbm.1
        have HSTEP := Aside0.mk (show ((b.f0.drop 0).all (insB t.length fs.length rg f.f1.length) && (endB t.length fs.length rg f.f1.length b.f1 && (f.f1.drop (i + 1)).all (blockB t.length fs.length rg f.f1.length))) = r from by rw [← hstep]; unfold blockB; rw [Bool.and_assoc]; rfl)
        have HY := Aside0.mk (fun (V : World) (hb : Below w.heap.size w V) => And.intro (pw_cell_below hb hy0) (And.intro (pw_cell_below hb hy1) (And.intro (pw_cell_below hb hy2) (And.intro (pw_cell_below hb hy3) (pw_cell_below hb hy4)))))
        have HUB := Aside0.mk uy1
        have HBM := Aside0.mk hbm
        have HBS := Aside0.mk hbs
        clear hstep hy0 hy1 hy2 hy3 hy4 uy0 uy1 hbm hbs HS
        go_wp2_with fail
        go_loopg [7] b.f0.length (fun gg v7 Wr => ∃ k : Nat, k ≤ b.f0.length ∧ b.f0.length - k ≤ gg ∧ v7 = .int .i64 k ∧ Aside0 (((b.f0.drop k).all (insB t.length fs.length rg f.f1.length) && (endB t.length fs.length rg f.f1.length b.f1 && (f.f1.drop (i + 1)).all (blockB t.length fs.length rg f.f1.length))) = r) ∧ Aside0 (Below w.heap.size w Wr) ∧ Aside0 (Wr.heap[w.heap.size]? = some (.cells #[.slice (some ad) t.length ct, .slice Af fs.length cf] 35 (0, 0))) ∧ Aside0 (Wr.heap[w.heap.size + 1]? = some (.cells #[.int .i64 f.f0, .slice (some ae) f.f1.length c1] 55 (0, 0))))
        case atStart => exact ⟨0, Nat.zero_le _, by omega, rfl, HSTEP, HBi, HPi, HQi⟩
        case round =>
          obtain ⟨k, hk, hgk, rfl, HSk, HBk, HPk, HQk⟩ := hrel
          clear HSTEP HBi HPi HQi z2 z3
          obtain ⟨z0, z1, -⟩ := blk2 HPk.out
          obtain ⟨z2, z3, -⟩ := blk2 HQk.out
          obtain ⟨hy0, hy1, hy2, hy3, hy4⟩ := HY.out _ HBk.out
          by_cases hltk : k < b.f0.length
          · have hltkz : (k : Int) < (b.f0.length : Int) := by omega
            have hstep := HSk.out
            rw [List.drop_eq_getElem_cons hltk, List.all_cons] at hstep
            have hxm := HBM.out.2 b.f0[k] (List.getElem_mem hltk)
            have hxs := HBS.out b.f0[k] (List.getElem_mem hltk)
            obtain ⟨al, A5, c5, A6, c6, e, gx0, gx1, gx2, gx3, gx4, gx5, gx6, l5, r5, l6, r6⟩ := at_T24 HUB.out (k : Int) (by omega) hltkz
            rw [rdT24_at hltk] at gx0 gx1 gx2 gx3 gx4 gx5 gx6 l5 r5 l6 r6
            cases e
            simp only [Int.toNat_natCast] at gx0 gx1 gx2 gx3 gx4 gx5 gx6
            generalize b.f0[k] = y at *
            have HC := Aside0.mk (HINS.out wr.drew (Below.drew HBk.out) y A5 A6 c5 c6 hxm hxs l5 (Kd.C_below r5 (Below.drew HBk.out)) l6 (Kd.C_below r6 (Below.drew HBk.out)))
            replace gx0 := pw_cell_below HBk.out gx0
            replace gx1 := pw_cell_below HBk.out gx1
            replace gx2 := pw_cell_below HBk.out gx2
            replace gx3 := pw_cell_below HBk.out gx3
            replace gx4 := pw_cell_below HBk.out gx4
            replace gx5 := pw_cell_below HBk.out gx5
            replace gx6 := pw_cell_below HBk.out gx6
            have HST := Aside0.mk hstep
            clear l5 r5 l6 r6 hxm hxs hstep
            cases hq : insB t.length fs.length rg f.f1.length y
            all_goals
              rw [hq] at HC HST
              clear hq
              go_wp2_with fail
              go_still_tail 14, (by kernel_rfl)
              change wpList _ _ _ _ _ wr.drew
              go_wp2_with fail
              refine HC.out.mono ?_
              rintro e w' ⟨rfl, hb⟩
              have HB2 := Aside0.mk (below_then (Below.drew HBk.out) (by simpa using HBk.out.size) hb)
              have HP2 := Aside0.mk (blk_below (blk_drew HPk.out) hb)
              have HQ2 := Aside0.mk (blk_below (blk_drew HQk.out) hb)
              clear HC hb z0 z1 z2 z3 hy0 hy1 hy2 hy3 hy4 gx0 gx1 gx2 gx3 gx4 gx5 gx6 HSk HBk HPk HQk
              go_wp2_with fail
            · go_ret
              exact ⟨by rw [← HST.out]; rfl, HB2.out⟩
            · go_roundg (b.f0.length - (k + 1))
              case measure => omega
              case rel => exact ⟨k + 1, by omega, by omega, by go_num, ⟨by rw [← HST.out]; rfl⟩, HB2, HP2, HQ2⟩
          · have hltkz : ¬ (k : Int) < (b.f0.length : Int) := by omega
            have hstep := HSk.out
            rw [List.drop_eq_nil_of_le (Nat.le_of_not_lt hltk), List.all_nil, Bool.true_and] at hstep
            have HC := Aside0.mk (HEND.out wr.drew b.f1)
            have HST := Aside0.mk hstep
            clear hstep
            cases hq : endB t.length fs.length rg f.f1.length b.f1
            all_goals
              rw [hq] at HC HST
              clear hq
              go_wp2_with fail
              go_still_tail 10, (by kernel_rfl)
              change wpList _ _ _ _ _ wr.drew
              go_wp2_with fail
              refine HC.out.mono ?_
              rintro e w' ⟨rfl, hb⟩
              have HB2 := Aside0.mk (below_then (Below.drew HBk.out) (by simpa using HBk.out.size) hb)
              have HP2 := Aside0.mk (blk_below (blk_drew HPk.out) hb)
              have HQ2 := Aside0.mk (blk_below (blk_drew HQk.out) hb)
              clear HC hb z0 z1 z2 z3 hy0 hy1 hy2 hy3 hy4 HSk HBk HPk HQk
              go_wp2_with fail
            · go_ret
              exact ⟨by rw [← HST.out]; rfl, HB2.out⟩
            · go_roundg (f.f1.length - (i + 1))
              case measure => omega
              case rel => exact ⟨i + 1, by omega, by omega, by go_num, ⟨by rw [← HST.out]; rfl⟩, HB2, HP2, HQ2⟩
      · have hltz : ¬ (i : Int) < (f.f1.length : Int) := by omega
        have hstep := HS.out
        rw [List.drop_eq_nil_of_le (Nat.le_of_not_lt hlt)] at hstep
        have HST := Aside0.mk hstep
        clear hstep
        go_wp2_with fail
        go_ret
        exact ⟨by rw [← HST.out]; rfl, HBi.out⟩
theorem mayF_any (hrt : Kd.C k78 w At t.length t) (hct : t.length ≤ ct) (hrf : Kd.C k55 w Af fs.length fs) (hcf : fs.length ≤ cf) (hr1 : Kd.C k58 w A1 f.f1.length f.f1) (hc1 : f.f1.length ≤ c1) (hf : small55 f) (hs : ∀ b ∈ f.f1, ∀ x ∈ b.f0, 0 ≤ x.f0) :
    Calls Tryd.prog 58 #[.agg #[.slice At t.length ct, .slice Af fs.length cf], .agg #[.int .i64 f.f0, .slice A1 f.f1.length c1]] w fun e w' => e = .returned (.bool (funcB t fs.length f)) ∧ Below w.heap.size w w' := by
  have hw : 1 ≤ f.f1.length → wrap64 ((f.f1.length : Int) - 1) = ((f.f1.length - 1 : Nat) : Int) := fun h => by have := hf.1; unfold wrap64; omega
  by_cases h0 : f.f0 < 0
  · rw [show funcB t fs.length f = false from by rw [funcB_alt]; unfold fnHead; rw [decide_eq_false (show ¬ 0 ≤ f.f0 by omega)]; rfl]
    exact mayF_early At Af A1 ct cf c1 t fs f w hrt (.inl h0)
  · by_cases h1 : (t.length : Int) ≤ f.f0
    · rw [show funcB t fs.length f = false from by rw [funcB_alt]; unfold fnHead; rw [decide_eq_false (show ¬ f.f0 < (t.length : Int) by omega), Bool.and_false]; rfl]
      exact mayF_early At Af A1 ct cf c1 t fs f w hrt (.inr ⟨by omega, h1⟩)
    · have a0 : 0 ≤ f.f0 := by omega
      have a1 : f.f0 < (t.length : Int) := by omega
      by_cases h3 : (rd_T78 t f.f0).f0 = 3
      · by_cases hl : f.f1.length < 1
        · rw [show funcB t fs.length f = false from by
            rw [funcB_alt]; unfold fnHead
            rw [show f.f1.length = 0 by omega, show wrap64 (((0 : Nat) : Int) - 1) = -1 from by unfold wrap64; rfl, decide_eq_false (show ¬ (0 : Int) ≤ -1 by decide), Bool.false_and, Bool.false_and, Bool.and_false, Bool.and_false]; rfl]
          exact mayF_head At Af A1 ct cf c1 t fs f w hrt a0 a1 (.inr ⟨h3, .inl hl⟩)
        · by_cases hl' : 16 < f.f1.length
          · rw [show funcB t fs.length f = false from by
              rw [funcB_alt]; unfold fnHead
              rw [hw (by omega), decide_eq_false (show ¬ ((f.f1.length - 1 : Nat) : Int) < 16 by omega), Bool.and_false, Bool.false_and, Bool.and_false, Bool.and_false]; rfl]
            exact mayF_head At Af A1 ct cf c1 t fs f w hrt a0 a1 (.inr ⟨h3, .inr ⟨by omega, hl'⟩⟩)
          · by_cases hm : 128 < cnt f.f1
            · rw [show funcB t fs.length f = false from by
                rw [funcB_alt]; unfold fnHead
                rw [manyW_is f.f1 hf.2 hf.1, decide_eq_false (show ¬ (cnt f.f1 : Int) ≤ 128 by omega), Bool.and_false, Bool.and_false, Bool.and_false]; rfl]
              exact mayF_many At Af A1 ct cf c1 t fs f w hrt hr1 hc1 hf a0 a1 h3 (by omega) (by omega) hm
            · refine mayF_body At Af A1 ct cf c1 t fs f w hrt hct hrf hcf hr1 hc1 hf hs a0 a1 h3 (by omega) (by omega) (by omega) _ ?_
              rw [funcB_alt]; unfold fnHead
              rw [manyW_is f.f1 hf.2 hf.1, hw (by omega), decide_eq_true a0, decide_eq_true a1, beq_iff_eq.mpr h3, decide_eq_true (show (0 : Int) ≤ ((f.f1.length - 1 : Nat) : Int) by omega), decide_eq_true (show ((f.f1.length - 1 : Nat) : Int) < 16 by omega), decide_eq_true (show (cnt f.f1 : Int) ≤ 128 by omega)]
              rfl
      · rw [show funcB t fs.length f = false from by rw [funcB_alt]; unfold fnHead; rw [beq_eq_false_iff_ne.mpr h3, Bool.false_and, Bool.and_false]; rfl]
        exact mayF_head At Af A1 ct cf c1 t fs f w hrt a0 a1 (.inl h3)
end
set_option maxHeartbeats 8000000 in
theorem checkR_calls (A0 B0 : Option Addr) (c0 d0 : Nat) (t : List S78) (fs : List S55) (w : World) (ht : Kd.C k78 w A0 t.length t) (hct : t.length ≤ c0) (hf : Kd.C k55 w B0 fs.length fs) (hcf : fs.length ≤ d0) (hM : SmallP t fs) (hS : SaneP fs) :
    Calls Tryd.prog 29 #[.agg #[.slice A0 t.length c0, .slice B0 fs.length d0]] w fun e w' => e = .returned (.int .i64 (chkP t fs)) ∧ Below w.heap.size w w' := by
  have hu35 := Tryd.underlying35
  have hu55 := Tryd.underlying55
  have HCK := Aside0.mk (fun (V : World) (hb : Below w.heap.size w V) => fescueref03_Check.calls 640 A0 c0 t (chk t) V (Kd.C_below ht hb) hct (CheckR_some t hM.few 640 (by omega)))
  have HMF := Aside0.mk (fun (V : World) (hb : Below w.heap.size w V) (f : S55) (A1 : Option Addr) (c1 : Nat) (hm : f ∈ fs) (hr1 : Kd.C k58 V A1 f.f1.length f.f1) (hc1 : f.f1.length ≤ c1) => mayF_any A0 B0 A1 c0 d0 c1 t fs f V (Kd.C_below ht hb) hct (Kd.C_below hf hb) hcf hr1 hc1 (hM.all f hm) (fun b hb x hx => (((hS.2 f hm).2 b hb).2 x hx).1.1))
  have HRF := Aside0.mk hf
  have h10 := hM.fun_
  generalize hv : chkP t fs = cv
  have HV := Aside0.mk (show chkV (chk t) t fs = cv from hv)
  clear ht hct hf hcf hM hS hv
  by_cases hc : chk t = 0
  · have HV2 : Aside0 ((if belB (wrap64 ((fs.length : Int) - 1)) 8 && (fs.drop 0).all (funcB t fs.length) then (0 : Int) else 60) = cv) := ⟨by have := HV.out; unfold chkV funcsB at this; rw [if_pos hc] at this; exact this⟩
    rw [hc] at HCK
    clear hc HV
    go_enter Tryd.func29, Tryd.ntmps29
    go_wp2_with fail
    refine (HCK.out _ (below_alloc (Below.refl _ _) _)).mono ?_
    rintro e w1 ⟨rfl, hb⟩
    have KB := Aside0.mk (below_then (below_alloc (Below.refl w.heap.size w) (.cells #[.slice A0 t.length c0, .slice B0 fs.length d0] 35)) (by simp) hb)
    have KP := Aside0.mk (blk_below (blk_new w (.cells #[.slice A0 t.length c0, .slice B0 fs.length d0] 35)) hb)
    clear hb HCK
    go_wp2_with fail
    go_loopg [4] fs.length (fun gg v4 Wr => ∃ i : Nat, i ≤ fs.length ∧ fs.length - i ≤ gg ∧ v4 = .int .i64 i ∧ Aside0 ((if belB (wrap64 ((fs.length : Int) - 1)) 8 && (fs.drop i).all (funcB t fs.length) then (0 : Int) else 60) = cv) ∧ Aside0 (Below w.heap.size w Wr) ∧ Aside0 (Wr.heap[w.heap.size]? = some (.cells #[.slice A0 t.length c0, .slice B0 fs.length d0] 35 (0, 0))))
    case atStart => exact ⟨0, Nat.zero_le _, by omega, rfl, HV2, KB, KP⟩
    case round =>
      obtain ⟨i, hi, hgi, rfl, HS, HBi, HPi⟩ := hrel
      clear HV2 KB KP
      obtain ⟨z0, z1, -⟩ := blk2 HPi.out
      by_cases hlt : i < fs.length
      · have hltz : (i : Int) < (fs.length : Int) := by omega
        have hstep := HS.out
        rw [List.drop_eq_getElem_cons hlt, List.all_cons] at hstep
        have hmem : fs[i] ∈ fs := List.getElem_mem hlt
        obtain ⟨ad, A1, c1, e, hx0, hx1, ux0, ux1⟩ := at_T55 HRF.out (i : Int) (by omega) hltz
        rw [rdT55_at hlt] at hx0 hx1 ux0 ux1
        cases e
        simp only [Int.toNat_natCast] at hx0 hx1
        generalize fs[i] = f at *
        have HC := Aside0.mk (HMF.out wr.drew (Below.drew HBi.out) f A1 c1 hmem (Kd.C_below ux1 (Below.drew HBi.out)) ux0)
        replace hx0 := pw_cell_below HBi.out hx0
        replace hx1 := pw_cell_below HBi.out hx1
        have HST := Aside0.mk hstep
        clear hstep ux0 ux1 hmem
        cases hq : funcB t fs.length f
        all_goals
          rw [hq] at HC HST
          clear hq
          go_wp2_with fail
          go_still_tail 6, (by kernel_rfl)
          change wpList _ _ _ _ _ wr.drew
          go_wp2_with fail
          refine HC.out.mono ?_
          rintro e w' ⟨rfl, hb⟩
          have HB2 := Aside0.mk (below_then (Below.drew HBi.out) (by simpa using HBi.out.size) hb)
          have HP2 := Aside0.mk (blk_below (blk_drew HPi.out) hb)
          clear HC hb z0 z1 hx0 hx1 HS HBi HPi
          go_wp2_with fail
        · go_ret
          exact ⟨by rw [← HST.out, Bool.false_and, Bool.and_false]; rfl, HB2.out⟩
        · go_roundg (fs.length - (i + 1))
          case measure => omega
          case rel => exact ⟨i + 1, by omega, by omega, by go_num, ⟨by rw [← HST.out, Bool.true_and]⟩, HB2, HP2⟩
      · have hltz : ¬ (i : Int) < (fs.length : Int) := by omega
        have hstep := HS.out
        rw [List.drop_eq_nil_of_le (Nat.le_of_not_lt hlt), List.all_nil, Bool.and_true] at hstep
        by_cases h1 : fs.length < 1
        · have d1 : decide ((fs.length : Int) < 1) = true := decide_eq_true (by omega)
          have d1' : decide (fs.length < 1) = true := decide_eq_true h1
          have HST := Aside0.mk (show (60 : Int) = cv from by rw [← hstep, show fs.length = 0 by omega, show wrap64 (((0 : Nat) : Int) - 1) = -1 from by unfold wrap64; rfl]; rfl)
          clear hstep h1
          go_wp2_with fail
          go_ret
          exact ⟨by rw [← HST.out]; rfl, HBi.out⟩
        · by_cases h8 : 8 < fs.length
          · have d1 : decide ((fs.length : Int) < 1) = false := decide_eq_false (by omega)
            have d1' : decide (fs.length < 1) = false := decide_eq_false h1
            have d2 : decide (8 < (fs.length : Int)) = true := decide_eq_true (by omega)
            have d2' : decide (8 < fs.length) = true := decide_eq_true h8
            have HST := Aside0.mk (show (60 : Int) = cv from by rw [← hstep, show wrap64 ((fs.length : Int) - 1) = ((fs.length - 1 : Nat) : Int) from by unfold wrap64; omega]; unfold belB; rw [decide_eq_false (show ¬ ((fs.length - 1 : Nat) : Int) < 8 by omega), Bool.and_false]; rfl)
            clear hstep h1 h8
            go_wp2_with fail
            go_ret
            exact ⟨by rw [← HST.out]; rfl, HBi.out⟩
          · have d1 : decide ((fs.length : Int) < 1) = false := decide_eq_false (by omega)
            have d1' : decide (fs.length < 1) = false := decide_eq_false h1
            have d2 : decide (8 < (fs.length : Int)) = false := decide_eq_false (by omega)
            have d2' : decide (8 < fs.length) = false := decide_eq_false h8
            have HST := Aside0.mk (show (0 : Int) = cv from by rw [← hstep, show wrap64 ((fs.length : Int) - 1) = ((fs.length - 1 : Nat) : Int) from by unfold wrap64; omega]; unfold belB; rw [decide_eq_true (show ((fs.length - 1 : Nat) : Int) < 8 by omega), decide_eq_true (show (0 : Int) ≤ ((fs.length - 1 : Nat) : Int) by omega)]; rfl)
            clear hstep h1 h8
            go_wp2_with fail
            go_ret
            exact ⟨by rw [← HST.out]; rfl, HBi.out⟩
  · have HV2 := Aside0.mk (show chk t = cv from by rw [← HV.out]; unfold chkV; rw [if_neg hc])
    have hc0 : (chk t != 0) = true := bne_iff_ne.mpr hc
    generalize chk t = ck at *
    clear hc HV HMF
    go_enter Tryd.func29, Tryd.ntmps29
    go_wp2_with fail
    refine (HCK.out _ (below_alloc (Below.refl _ _) _)).mono ?_
    rintro e w1 ⟨rfl, hb⟩
    have KB := Aside0.mk (below_then (below_alloc (Below.refl w.heap.size w) (.cells #[.slice A0 t.length c0, .slice B0 fs.length d0] 35)) (by simp) hb)
    clear hb HCK
    go_wp2_with fail
    go_ret
    exact ⟨by rw [← HV2.out]; rfl, KB.out⟩
end Go.Proofs.YtfjmpfecnemoiaaDoor.Q
