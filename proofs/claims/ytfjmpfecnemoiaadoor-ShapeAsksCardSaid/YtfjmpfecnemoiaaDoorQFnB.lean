/-
  shape.function, where its own words may be.
-/
import Derived.Test.YtfjmpfecnemoiaaDoorQFunc
import Derived.Test.YtfjmpfecnemoiaaDoorQBits
import Derived.Deep.RegionHeld3
namespace Go.Proofs.YtfjmpfecnemoiaaDoor.Q
open Go.RowKit Go.Proofs.YtfjmpfecnemoiaaDoorW.PrintWords Go.Proofs.YtfjmpfecnemoiaaDoorW.PrintLast Go.Proofs.YtfjmpfecnemoiaaDoorW.PrintMore
set_option linter.unusedVariables false
set_option linter.unusedSimpArgs false
set_option maxRecDepth 100000

section
/-- What the function's own words must be. -/
def fnHead (t : List S78) (f : S55) : Bool := (decide (0 ≤ f.f0) && decide (f.f0 < t.length)) && ((rd_T78 t f.f0).f0 == 3 && ((decide (0 ≤ wrap64 ((f.f1.length : Int) - 1)) && decide (wrap64 ((f.f1.length : Int) - 1) < 16)) && decide (manyW f.f1 ≤ 128)))
set_option maxHeartbeats 2000000 in
theorem fn_head (At : Option Addr) (ct : Nat) (t : List S78) (Af : Option Addr) (lf cf : Nat) (f : S55) (A1 : Option Addr) (c1 : Nat) (w : World) (hrt : Kd.C k78 w At t.length t) (hr1 : k58.C w A1 f.f1.length f.f1) (hc1 : f.f1.length ≤ c1) (hno : fnHead t f = false) :
    Calls Tryd.prog 51 #[.agg #[.slice At t.length ct, .slice Af lf cf], .agg #[.int .i64 f.f0, .slice A1 f.f1.length c1]] w fun e w' => e = .returned (.bool false) ∧ Below w.heap.size w w' := by
  have hu35 := Tryd.underlying35
  have hu55 := Tryd.underlying55
  have hu78 := Tryd.underlying78
  have hb1 := fun (W : World) => shape_below.calls f.f0 (t.length : Int) _ W (below_some _ _)
  have hmany := fun (W : World) (hb : Below w.heap.size w W) => shape_many.calls (f.f1.length + 1) f.f0 A1 c1 f.f1 _ W (Kd.C_below hr1 hb) hc1 (many_some f.f0 f.f1 (by have := hr1.2.1; omega) _ (by omega))
  have HM := Aside0.mk hmany
  clear hmany hc1
  unfold fnHead at hno
  cases h1 : (decide (0 ≤ f.f0) && decide (f.f0 < (t.length : Int)))
  · rw [h1] at hb1
    clear h1 hno hrt hr1
    go_enter Tryd.func51, Tryd.ntmps51
    go_wp2_with fail
    refine (hb1 _).mono ?_
    rintro e w' ⟨rfl, ⟨m, rfl⟩⟩
    clear hb1
    go_wp2_with fail
    go_ret
    exact ⟨rfl, pw_below_drewN (below_alloc (below_alloc (Below.refl _ _) _) _) m⟩
  · have hr := h1
    rw [Bool.and_eq_true, decide_eq_true_eq, decide_eq_true_eq] at hr
    obtain ⟨ad, A3, c3, e, hx0, hx1, hx2, hx3, hl3, hr3⟩ := at_T78B hrt f.f0 hr.1 hr.2
    cases e
    rw [h1] at hb1
    rw [h1, Bool.true_and] at hno
    have hb2 := fun (W : World) => shape_below.calls (wrap64 ((f.f1.length : Int) - 1)) 16 _ W (below_some _ _)
    have HX0 := Aside0.mk hx0
    have HB1 := Aside0.mk hb1
    have hr0 := hr.1
    have hrl := hr.2
    clear hx0 hx1 hx2 hx3 hl3 hr3 hrt hr1 hb1 h1 hr
    generalize rd_T78 t f.f0 = x at *
    cases k3 : (x.f0 == 3)
    · have k3n : (x.f0 != 3) = true := by rw [bne, k3]; rfl
      clear hno hb2
      go_enter Tryd.func51, Tryd.ntmps51
      go_wp2_with fail
      refine (HB1.out _).mono ?_
      rintro e w' ⟨rfl, ⟨m, rfl⟩⟩
      have HB := Aside0.mk (pw_below_drewN (below_alloc (below_alloc (Below.refl w.heap.size w) (.cells #[.slice (some ad) t.length ct, .slice Af lf cf] 35)) (.cells #[.int .i64 f.f0, .slice A1 f.f1.length c1] 55)) m)
      have hx0 := HX0.out _ HB.out
      clear HX0 HB1 HM
      go_wp2_with fail
      go_ret
      exact ⟨rfl, HB.out⟩
    · have k3n : (x.f0 != 3) = false := by rw [bne, k3]; rfl
      rw [k3, Bool.true_and] at hno
      have HB2 := Aside0.mk hb2
      cases h4 : (decide (0 ≤ wrap64 ((f.f1.length : Int) - 1)) && decide (wrap64 ((f.f1.length : Int) - 1) < 16))
      · have H4 := Aside0.mk h4
        clear hno hb2 h4
        go_enter Tryd.func51, Tryd.ntmps51
        go_wp2_with fail
        refine (HB1.out _).mono ?_
        rintro e w' ⟨rfl, ⟨m, rfl⟩⟩
        have HB := Aside0.mk (pw_below_drewN (below_alloc (below_alloc (Below.refl w.heap.size w) (.cells #[.slice (some ad) t.length ct, .slice Af lf cf] 35)) (.cells #[.int .i64 f.f0, .slice A1 f.f1.length c1] 55)) m)
        have hx0 := HX0.out _ HB.out
        clear HX0 HB1 HM
        go_wp2_with fail
        refine (HB2.out _).mono ?_
        rw [H4.out]
        rintro e w' ⟨rfl, ⟨m2, rfl⟩⟩
        have HC := Aside0.mk (pw_below_drewN (below_alloc (below_alloc (Below.refl w.heap.size w) (.cells #[.slice (some ad) t.length ct, .slice Af lf cf] 35)) (.cells #[.int .i64 f.f0, .slice A1 f.f1.length c1] 55)) (m + m2))
        clear HB2 hx0
        go_wp2_with fail
        go_ret
        exact ⟨rfl, HC.out⟩
      · have H4 := Aside0.mk h4
        rw [h4, Bool.true_and] at hno
        have hgt : (manyW f.f1 > 128) = True := by rw [decide_eq_false_iff_not] at hno; exact eq_true (by omega)
        have hgt2 : decide (manyW f.f1 > 128) = true := by rw [decide_eq_false_iff_not] at hno; exact decide_eq_true (by omega)
        clear hno hb2 h4
        go_enter Tryd.func51, Tryd.ntmps51
        go_wp2_with fail
        refine (HB1.out _).mono ?_
        rintro e w' ⟨rfl, ⟨m, rfl⟩⟩
        have HB := Aside0.mk (pw_below_drewN (below_alloc (below_alloc (Below.refl w.heap.size w) (.cells #[.slice (some ad) t.length ct, .slice Af lf cf] 35)) (.cells #[.int .i64 f.f0, .slice A1 f.f1.length c1] 55)) m)
        have hx0 := HX0.out _ HB.out
        clear HX0 HB1
        go_wp2_with fail
        refine (HB2.out _).mono ?_
        rw [H4.out]
        rintro e w' ⟨rfl, ⟨m2, rfl⟩⟩
        have HC := Aside0.mk (pw_below_drewN (below_alloc (below_alloc (Below.refl w.heap.size w) (.cells #[.slice (some ad) t.length ct, .slice Af lf cf] 35)) (.cells #[.int .i64 f.f0, .slice A1 f.f1.length c1] 55)) (m + m2))
        clear HB2 hx0
        go_wp2_with fail
        refine (HM.out _ HC.out).mono ?_
        rintro e w' ⟨rfl, hb⟩
        have HD := Aside0.mk (below_then HC.out HC.out.size hb)
        clear hb HM
        generalize manyW f.f1 = mw at *
        go_wp2_with fail
        go_ret
        exact ⟨rfl, HD.out⟩
end

/-- How many registers a function has. -/
def regsW (t : List S78) (f : S55) : Int := wrap64 (((rd_T78 t f.f0).f3.length : Int) + manyW f.f1)
set_option maxHeartbeats 4000000 in
theorem fn_body (At : Option Addr) (ct : Nat) (t : List S78) (Af : Option Addr) (lf cf : Nat) (f : S55) (A1 : Option Addr) (c1 : Nat) (w : World) (hrt : Kd.C k78 w At t.length t) (hr1 : k58.C w A1 f.f1.length f.f1) (hc1 : f.f1.length ≤ c1) (hyes : fnHead t f = true)
    (p : S24 → Bool) (hodd : ∀ (W : World) (bs : Nat), Below w.heap.size w W → W.heap[bs]? = some (.cells #[.int .i64 (t.length : Int), .int .i64 (lf : Int), .int .i64 (regsW t f), .int .i64 (f.f1.length : Int)] 101 (0, 0)) → ∀ y ∈ f.f1, Pred24 72 #[.pointer (some ⟨bs, 0, none⟩)] p y.f0 W) :
    Calls Tryd.prog 51 #[.agg #[.slice At t.length ct, .slice Af lf cf], .agg #[.int .i64 f.f0, .slice A1 f.f1.length c1]] w fun e w' => e = .returned (.bool (!f.f1.any fun y => y.f0.any p || !endB (t.length : Int) (lf : Int) (regsW t f) (f.f1.length : Int) y.f1)) ∧ Below w.heap.size w w' := by
  have hu35 := Tryd.underlying35
  have hu55 := Tryd.underlying55
  have hu78 := Tryd.underlying78
  have hu101 := Tryd.underlying101
  have hb1 := fun (W : World) => shape_below.calls f.f0 (t.length : Int) _ W (below_some _ _)
  have hmany := fun (W : World) (hb : Below w.heap.size w W) => shape_many.calls (f.f1.length + 1) f.f0 A1 c1 f.f1 _ W (Kd.C_below hr1 hb) hc1 (many_some f.f0 f.f1 (by have := hr1.2.1; omega) _ (by omega))
  have hb2 := fun (W : World) => shape_below.calls (wrap64 ((f.f1.length : Int) - 1)) 16 _ W (below_some _ _)
  have HM := Aside0.mk hmany
  have HODD := Aside0.mk hodd
  have HR1 := Aside0.mk hr1
  have HC1 := Aside0.mk hc1
  unfold fnHead at hyes
  simp only [Bool.and_eq_true] at hyes
  obtain ⟨h1, k3, h4, h5⟩ := hyes
  rw [decide_eq_true_eq, decide_eq_true_eq] at h1
  obtain ⟨ad, A3, c3, e, hx0, hx1, hx2, hx3, hl3, hr3⟩ := at_T78B hrt f.f0 h1.1 h1.2
  cases e
  rw [decide_eq_true h1.1, decide_eq_true h1.2] at hb1
  rw [h4.1, h4.2] at hb2
  have hr0 := h1.1
  have hrl := h1.2
  have HX0 := Aside0.mk hx0
  have HX3 := Aside0.mk hx3
  have HB1 := Aside0.mk hb1
  have HB2 := Aside0.mk hb2
  have k3n : ((rd_T78 t f.f0).f0 != 3) = false := by rw [bne, k3]; rfl
  have hgt2 : decide (manyW f.f1 > 128) = false := by rw [decide_eq_true_eq] at h5; exact decide_eq_false (by omega)
  have hgt : (manyW f.f1 > 128) = False := by rw [decide_eq_true_eq] at h5; exact eq_false (by omega)
  clear hx0 hx1 hx2 hx3 hl3 hr3 hrt hr1 hb1 hb2 h1 h4 h5 hmany hodd hc1
  unfold regsW at *
  generalize rd_T78 t f.f0 = x at *
  go_enter Tryd.func51, Tryd.ntmps51
  go_wp2_with fail
  refine (HB1.out _).mono ?_
  rintro e w' ⟨rfl, ⟨m, rfl⟩⟩
  have HB := Aside0.mk (pw_below_drewN (below_alloc (below_alloc (Below.refl w.heap.size w) (.cells #[.slice (some ad) t.length ct, .slice Af lf cf] 35)) (.cells #[.int .i64 f.f0, .slice A1 f.f1.length c1] 55)) m)
  have hx0 := HX0.out _ HB.out
  clear HX0 HB1
  go_wp2_with fail
  refine (HB2.out _).mono ?_
  rintro e w' ⟨rfl, ⟨m2, rfl⟩⟩
  have HC := Aside0.mk (pw_below_drewN (below_alloc (below_alloc (Below.refl w.heap.size w) (.cells #[.slice (some ad) t.length ct, .slice Af lf cf] 35)) (.cells #[.int .i64 f.f0, .slice A1 f.f1.length c1] 55)) (m + m2))
  clear HB2 hx0
  go_wp2_with fail
  refine (HM.out _ HC.out).mono ?_
  rintro e w' ⟨rfl, hb⟩
  have HD := Aside0.mk (below_then HC.out HC.out.size hb)
  have hP := blk_below (blk_drewN (blk_alloc (blk_new w (.cells #[.slice (some ad) t.length ct, .slice Af lf cf] 35)) (.cells #[.int .i64 f.f0, .slice A1 f.f1.length c1] 55)) (m + m2)) hb
  have hF := blk_below (blk_drewN (blk_new (w.alloc (.cells #[.slice (some ad) t.length ct, .slice Af lf cf] 35)) (.cells #[.int .i64 f.f0, .slice A1 f.f1.length c1] 55)) (m + m2)) hb
  have hsz : (w.alloc (.cells #[.slice (some ad) t.length ct, .slice Af lf cf] 35)).heap.size = w.heap.size + 1 := by simp
  rw [hsz] at hF
  obtain ⟨p0, p1, _, _⟩ := blk2 hP
  obtain ⟨q0, q1, _, _⟩ := blk2 hF
  have hx3 := HX3.out _ HD.out
  clear HX3 hb HC
  go_wp2_with fail
  have b0 : w.heap.size < w'.heap.size := blk_lt hP
  have b1 : w.heap.size + 1 < w'.heap.size := blk_lt hF
  have b3 := World.block_lt_of_cell? w' _ hx3
  have hmany := HM.out w' HD.out
  generalize w.heap.size + 1 = gf at *
  have HZ := Aside0.mk (show w.heap.size ≤ w'.heap.size by omega)
  go_upto_region 3 with fail
  go_cut [5] (fun s5 wx => ∃ bs, s5 = .pointer (some ⟨bs, 0, none⟩) ∧ Aside0 (wx.heap[bs]? = some (.cells #[.int .i64 (t.length : Int), .int .i64 (lf : Int), .int .i64 (wrap64 ((x.f3.length : Int) + manyW f.f1)), .int .i64 (f.f1.length : Int)] 101 (0, 0))) ∧ Aside0 (Below w'.heap.size w' wx))
  case first =>
    have HM1 := Aside0.mk (HM.out w'.drew (Below.drew HD.out))
    have HM2 := Aside0.mk (HM.out (w'.alloc (.cells #[.int .i64 0, .int .i64 0, .int .i64 0, .int .i64 0] 101)).drew (Below.drew (below_alloc HD.out _)))
    have HQ1 := Aside0.mk (fun (W : World) (hb : Below w'.drew.heap.size w'.drew W) => (below_then (Below.drew (Below.refl w'.heap.size w')) (Nat.le_refl _) hb : Below w'.heap.size w' W))
    have HQ2 := Aside0.mk (fun (W : World) (hb : Below (w'.alloc (.cells #[.int .i64 0, .int .i64 0, .int .i64 0, .int .i64 0] 101)).drew.heap.size (w'.alloc (.cells #[.int .i64 0, .int .i64 0, .int .i64 0, .int .i64 0] 101)).drew W) => (below_then (Below.drew (below_alloc (Below.refl w'.heap.size w') (.cells #[.int .i64 0, .int .i64 0, .int .i64 0, .int .i64 0] 101))) (by simp) hb : Below w'.heap.size w' W))
    have HN2 := Aside0.mk (fun (W : World) (hb : Below (w'.alloc (.cells #[.int .i64 0, .int .i64 0, .int .i64 0, .int .i64 0] 101)).drew.heap.size (w'.alloc (.cells #[.int .i64 0, .int .i64 0, .int .i64 0, .int .i64 0] 101)).drew W) => (blk_below (blk_drew (blk_new w' (.cells #[.int .i64 0, .int .i64 0, .int .i64 0, .int .i64 0] 101))) hb : W.heap[w'.heap.size]? = some (.cells #[.int .i64 0, .int .i64 0, .int .i64 0, .int .i64 0] 101 (0, 0))))
    generalize manyW f.f1 = mw at *
    have ne0 : w'.heap.size ≠ w.heap.size := World.new_ne w' _ p0
    have ne1 : w'.heap.size ≠ gf := World.new_ne w' _ q0
    have ne2 : w'.heap.size ≠ (ad.add (f.f0.toNat * 4)).block := Nat.ne_of_gt b3
    clear HB HM hmany hgt hgt2 k3n k3
    go_region_held3 (fun W => W.cell? ⟨w.heap.size, 0, none⟩ = some (.slice (some ad) t.length ct) ∧ W.cell? ⟨w.heap.size, 1, none⟩ = some (.slice Af lf cf) ∧ W.cell? ⟨gf, 0, none⟩ = some (.int .i64 f.f0) ∧ W.cell? ⟨gf, 1, none⟩ = some (.slice A1 f.f1.length c1) ∧ W.cell? ⟨(ad.add (f.f0.toNat * 4)).block, (ad.add (f.f0.toNat * 4)).off + 3, none⟩ = some (.slice A3 x.f3.length c3)) (first | exact ⟨z0, z1, z2, z3, z4⟩ | go_keep) (first | (go_at_call 40; (with_reducible refine HM1.out.mono ?_); rintro e w2 ⟨rfl, hb⟩; have hq := HQ1.out _ hb; clear hb ne0 ne1 ne2; have z0 := (hq.cell (p := ⟨w.heap.size, 0, none⟩) b0).trans p0; have z1 := (hq.cell (p := ⟨w.heap.size, 1, none⟩) b0).trans p1; have z2 := (hq.cell (p := ⟨gf, 0, none⟩) b1).trans q0; have z3 := (hq.cell (p := ⟨gf, 1, none⟩) b1).trans q1; have z4 := (hq.cell (p := ⟨(ad.add (f.f0.toNat * 4)).block, (ad.add (f.f0.toNat * 4)).off + 3, none⟩) b3).trans hx3; have ne0 : w2.heap.size ≠ w.heap.size := World.new_ne w2 _ z0; have ne1 : w2.heap.size ≠ gf := World.new_ne w2 _ z2; have ne2 : w2.heap.size ≠ (ad.add (f.f0.toNat * 4)).block := World.new_ne w2 ⟨(ad.add (f.f0.toNat * 4)).block, (ad.add (f.f0.toNat * 4)).off + 3, none⟩ z4) | (go_at_call 40; (with_reducible refine HM2.out.mono ?_); rintro e w2 ⟨rfl, hb⟩; have hq := HQ2.out _ hb; have hn := HN2.out _ hb; clear hb; have z0 := (hq.cell (p := ⟨w.heap.size, 0, none⟩) b0).trans p0; have z1 := (hq.cell (p := ⟨w.heap.size, 1, none⟩) b0).trans p1; have z2 := (hq.cell (p := ⟨gf, 0, none⟩) b1).trans q0; have z3 := (hq.cell (p := ⟨gf, 1, none⟩) b1).trans q1; have z4 := (hq.cell (p := ⟨(ad.add (f.f0.toNat * 4)).block, (ad.add (f.f0.toNat * 4)).off + 3, none⟩) b3).trans hx3; obtain ⟨y0, y1, y2, y3, y4, y5, y6, y7⟩ := blk4 hn; have hlt := blk_lt hn; have HNN := Aside0.mk hn; clear hn))
    · go_wp2_with fail
      go_meet
      simp only [IntWalk.i64_left]
      exact ⟨_, rfl, ⟨blk_new w2 _⟩, ⟨below_alloc hq _⟩⟩
    · go_wp2_with fail
      go_meet
      simp only [IntWalk.i64_left]
      refine ⟨_, rfl, ⟨?_⟩, ⟨(((hq.setCell (Nat.le_refl _) _).setCell (Nat.le_refl _) _).setCell (Nat.le_refl _) _).setCell (Nat.le_refl _) _⟩⟩
      refine blk_put (cs := #[.int .i64 (t.length : Int), .int .i64 (lf : Int), .int .i64 (wrap64 ((x.f3.length : Int) + mw)), .int .i64 0]) ?_ 3 _ rfl
      refine blk_put (cs := #[.int .i64 (t.length : Int), .int .i64 (lf : Int), .int .i64 0, .int .i64 0]) ?_ 2 _ rfl
      refine blk_put (cs := #[.int .i64 (t.length : Int), .int .i64 0, .int .i64 0, .int .i64 0]) ?_ 1 _ rfl
      exact blk_put (cs := #[.int .i64 0, .int .i64 0, .int .i64 0, .int .i64 0]) HNN.out 0 _ rfl
  case rest =>
    obtain ⟨bs, rfl, HS, HBS⟩ := hcut
    have HW := Aside0.mk (below_then HD.out HD.out.size HBS.out)
    have hcall := fun (W : World) (bo : Nat) (hb : Below wc.heap.size wc W) (hbo : W.cell? ⟨bo, 0, none⟩ = some (.func (.func 72) #[] #[.pointer (some ⟨bs, 0, none⟩)])) =>
      contains58_calls 75 #[.pointer (some ⟨bo, 0, none⟩), .pointer (some ⟨bs, 0, none⟩)] (enters_of Tryd.func75 (by kernel_rfl) rfl) (fun y => y.f0.any p || !endB (t.length : Int) (lf : Int) (wrap64 ((x.f3.length : Int) + manyW f.f1)) (f.f1.length : Int) y.f1) A1 c1 f.f1 W (Kd.C_below HR1.out (below_then HW.out HW.out.size hb))
        (fun W' y A0 c0 hb' hm hlen hr => by
          have hS := blk_below (blk_below HS.out hb) hb'
          obtain ⟨d0, d1, d2, d3, -⟩ := blk4 hS
          exact blk_calls bo bs _ _ _ _ p y A0 c0 W' ((hb'.cell (p := ⟨bo, 0, none⟩) (World.block_lt_of_cell? W _ hbo)).trans hbo) d0 d1 d2 d3 hlen hr ((HODD.out wc bs HW.out HS.out y hm).step (below_then hb hb.size hb')))
    have HCALL := Aside0.mk hcall
    have q0' := (HBS.out.cell (p := ⟨gf, 0, none⟩) b1).trans q0
    have q1' := (HBS.out.cell (p := ⟨gf, 1, none⟩) b1).trans q1
    have blt := World.block_lt_of_cell? wc _ q1'
    clear hcall q0 q1 p0 p1 hx3 hr0 hrl k3 k3n hgt hgt2 hmany b0 b1 b3 hP hF
    go_wp2_with fail
    refine (HCALL.out _ wc.heap.size (below_alloc (Below.refl _ _) _) (by simp)).mono ?_
    rintro e w2 ⟨rfl, hb⟩
    have HZ2 := Aside0.mk (below_then HW.out HW.out.size (below_then (below_alloc (Below.refl wc.heap.size wc) _) (by simp) hb))
    clear hb HCALL q0' q1' blt
    go_wp2_with fail
    go_ret
    exact ⟨rfl, HZ2.out⟩
end Go.Proofs.YtfjmpfecnemoiaaDoor.Q
