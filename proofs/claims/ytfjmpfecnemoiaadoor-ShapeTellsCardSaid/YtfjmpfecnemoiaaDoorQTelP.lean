/-
  The walk of the law ShapeTells.
-/
import Derived.Test.YtfjmpfecnemoiaaDoorQTwP
import Derived.Test.YtfjmpfecnemoiaaDoorQSpl
import Derived.Test.YtfjmpfecnemoiaaDoorQSameR
import Derived.Test.YtfjmpfecnemoiaaDoorQTwR
import Derived.Test.YtfjmpfecnemoiaaDoorQMayF
import Derived.Deep.RegionHeld3
namespace Go.Proofs.YtfjmpfecnemoiaaDoor.Q
open Go.RowKit Go.Proofs.YtfjmpfecnemoiaaDoorW.PrintWords Go.Proofs.YtfjmpfecnemoiaaDoorW.PrintLast Go.Proofs.YtfjmpfecnemoiaaDoorW.PrintMore
set_option linter.unusedVariables false
set_option linter.unusedSimpArgs false
set_option maxRecDepth 100000

set_option maxHeartbeats 8000000 in
theorem tellsP_great (A0 B0 A1 B1 : Option Addr) (c0 d0 c1 d1 : Nat) (t t' : List S78) (f f' : List S55) (w : World) (ht : Kd.C k78 w A0 t.length t) (hct : t.length ≤ c0) (hf : Kd.C k55 w B0 f.length f) (hcf : f.length ≤ d0) (ht' : Kd.C k78 w A1 t'.length t') (hct' : t'.length ≤ c1) (hf' : Kd.C k55 w B1 f'.length f') (hcf' : f'.length ≤ d1)
    (K1 K2 : Nat) (b b' : Bool) (hg : fescueref06_Great.f K1 t f 300 = some b) (hg' : fescueref06_Great.f K2 t' f' 300 = some b') (hb : (b || b') = true) :
    Calls Tryd.prog 7 #[.agg #[.slice A0 t.length c0, .slice B0 f.length d0], .agg #[.slice A1 t'.length c1, .slice B1 f'.length d1]] w fun e w' => e = .returned (.bool true) ∧ Below w.heap.size w w' := by
  have hu35 := Tryd.underlying35
  have HG0 := Aside0.mk (fun (V : World) (hb : Below w.heap.size w V) => fescueref06_Great.calls K1 A0 c0 t B0 d0 f 300 b V (Kd.C_below ht hb) hct (Kd.C_below hf hb) hcf hg)
  have HG1 := Aside0.mk (fun (V : World) (hb : Below w.heap.size w V) => fescueref06_Great.calls K2 A1 c1 t' B1 d1 f' 300 b' V (Kd.C_below ht' hb) hct' (Kd.C_below hf' hb) hcf' hg')
  clear ht hct hf hcf ht' hct' hf' hcf' hg hg'
  cases b
  · obtain rfl : b' = true := by simpa using hb
    clear hb
    go_enter Tryd.func7, Tryd.ntmps7
    go_wp2_with fail
    refine (HG0.out _ (below_alloc (below_alloc (Below.refl _ _) _) _)).mono ?_
    rintro e w1 ⟨rfl, hb⟩
    have b1 := fun (o0 o1 : Obj) => blkAt (sizeAt (show w.heap.size = w.heap.size from rfl) o0) o1
    obtain ⟨q0, q1, -⟩ := blk2 (blk_below (b1 _ _) hb)
    have HB1 := Aside0.mk (below_then (below_alloc (below_alloc (Below.refl w.heap.size w) _) _) (by simp; omega) hb)
    clear hb b1 HG0
    go_wp2_with fail
    refine (HG1.out _ HB1.out).mono ?_
    rintro e w2 ⟨rfl, hb⟩
    have HB2 := Aside0.mk (below_then HB1.out HB1.out.size hb)
    clear hb HG1 q0 q1
    go_wp2_with fail
    go_ret
    exact ⟨rfl, HB2.out⟩
  · clear hb HG1
    go_enter Tryd.func7, Tryd.ntmps7
    go_wp2_with fail
    refine (HG0.out _ (below_alloc (below_alloc (Below.refl _ _) _) _)).mono ?_
    rintro e w1 ⟨rfl, hb⟩
    have HB1 := Aside0.mk (below_then (below_alloc (below_alloc (Below.refl w.heap.size w) _) _) (by simp; omega) hb)
    clear hb HG0
    go_wp2_with fail
    go_ret
    exact ⟨rfl, HB1.out⟩

/-- What stays, while the law asks: the boxes of the two programs, of the copy and of the copy's copy. -/
structure Tel (w wo wx : World) (o2 o3 o5 o6 : Obj) (P5 P6 : Nat) (W : World) : Prop where
  b : Below w.heap.size w W
  bo : Below wo.heap.size wo W
  bx : Below wx.heap.size wx W
  p2 : W.heap[w.heap.size]? = some o2
  p3 : W.heap[w.heap.size + 1]? = some o3
  p5 : W.heap[P5]? = some o5
  p6 : W.heap[P6]? = some o6
theorem Tel.step {w wo wx W W1 : World} {o2 o3 o5 o6 : Obj} {P5 P6 : Nat} (h : Tel w wo wx o2 o3 o5 o6 P5 P6 W) (hb : Below W.heap.size W W1) : Tel w wo wx o2 o3 o5 o6 P5 P6 W1 :=
  ⟨below_then h.b h.b.size hb, below_then h.bo h.bo.size hb, below_then h.bx h.bx.size hb, blk_below h.p2 hb, blk_below h.p3 hb, blk_below h.p5 hb, blk_below h.p6 hb⟩
theorem blk_under {W W1 : World} {B g : Nat} {o : Obj} (h : W.heap[g]? = some o) (hb : Below B W W1) (hg : g < B) : W1.heap[g]? = some o := (hb.block g hg).trans h

set_option maxHeartbeats 16000000 in
theorem tellsP_small (A0 B0 A1 B1 : Option Addr) (c0 d0 c1 d1 : Nat) (t t' : List S78) (f f' : List S55) (w : World) (hT : Tab w) (ht : Kd.C k78 w A0 t.length t) (hct : t.length ≤ c0) (hf : Kd.C k55 w B0 f.length f) (hcf : f.length ≤ d0) (ht' : Kd.C k78 w A1 t'.length t') (hct' : t'.length ≤ c1) (hf' : Kd.C k55 w B1 f'.length f') (hcf' : f'.length ≤ d1)
    (K1 K2 : Nat) (hg : fescueref06_Great.f K1 t f 300 = some false) (hg' : fescueref06_Great.f K2 t' f' 300 = some false) (hM : SmallP t f) (hS : SaneP f) :
    Calls Tryd.prog 7 #[.agg #[.slice A0 t.length c0, .slice B0 f.length d0], .agg #[.slice A1 t'.length c1, .slice B1 f'.length d1]] w fun e w' => e = .returned (.bool true) ∧ Below w.heap.size w w' := by
  have hu35 := Tryd.underlying35
  have HG0 := Aside0.mk (fun (V : World) (hb : Below w.heap.size w V) => fescueref06_Great.calls K1 A0 c0 t B0 d0 f 300 false V (Kd.C_below ht hb) hct (Kd.C_below hf hb) hcf hg)
  have HG1 := Aside0.mk (fun (V : World) (hb : Below w.heap.size w V) => fescueref06_Great.calls K2 A1 c1 t' B1 d1 f' 300 false V (Kd.C_below ht' hb) hct' (Kd.C_below hf' hb) hcf' hg')
  have HTW := Aside0.mk (fun (V : World) (hb : Below w.heap.size w V) => fescueref06_Twin.calls 6320 A0 c0 t B0 d0 f t f V (Kd.C_below ht hb) hct (Kd.C_below hf hb) hcf (twinP_some t f hM 6320 (Nat.le_refl _)))
  have hp : ∀ x ∈ t, x.f3.length ≤ 20 := fun x hx => by
    obtain ⟨i, hi, rfl⟩ := List.mem_iff_getElem.1 hx
    have := hM.few.2 i hi
    rwa [rdT_at hi] at this
  have hfb : ∀ x ∈ f, x.f1.length ≤ 20 ∧ ∀ b ∈ x.f1, b.f0.length ≤ 300 ∧ ∀ y ∈ b.f0, y.f5.length ≤ 20 ∧ y.f6.length ≤ 20 := fun x hx => ⟨(hM.all x hx).1, fun b hb => ⟨((hM.all x hx).2 b hb).1, fun y hy => ((hM.all x hx).2 b hb).2 y hy⟩⟩
  have HN := Aside0.mk (And.intro hM.few.1 (And.intro hp (And.intro hM.fun_ hfb)))
  clear hp hfb hg hg'
  go_enter Tryd.func7, Tryd.ntmps7
  go_wp2_with fail
  refine (HG0.out _ (below_alloc (below_alloc (Below.refl _ _) _) _)).mono ?_
  rintro e w1 ⟨rfl, hb⟩
  have b0 := fun (o0 o1 : Obj) => blk_alloc (blkAt (show w.heap.size = w.heap.size from rfl) o0) o1
  have b1 := fun (o0 o1 : Obj) => blkAt (sizeAt (show w.heap.size = w.heap.size from rfl) o0) o1
  have h2 := blk_below (b0 (.cells #[.slice A0 t.length c0, .slice B0 f.length d0] 35) (.cells #[.slice A1 t'.length c1, .slice B1 f'.length d1] 35)) hb
  have h3 := blk_below (b1 (.cells #[.slice A0 t.length c0, .slice B0 f.length d0] 35) (.cells #[.slice A1 t'.length c1, .slice B1 f'.length d1] 35)) hb
  have hB := below_then (below_alloc (below_alloc (Below.refl w.heap.size w) _) _) (by simp; omega) hb
  clear hb b0 b1 HG0
  obtain ⟨q0, q1, -⟩ := blk2 h3
  have HB1 := Aside0.mk hB
  have HP2 := Aside0.mk h2
  have HP3 := Aside0.mk h3
  clear hB h2 h3
  go_wp2_with fail
  refine (HG1.out _ HB1.out).mono ?_
  rintro e w2 ⟨rfl, hb⟩
  have HB2 := Aside0.mk (below_then HB1.out HB1.out.size hb)
  have HP22 := Aside0.mk (blk_below HP2.out hb)
  have HP32 := Aside0.mk (blk_below HP3.out hb)
  obtain ⟨p0, p1, -⟩ := blk2 HP22.out
  clear hb HG1 q0 q1 HB1 HP2 HP3
  go_wp2_with fail
  refine (HTW.out _ HB2.out).mono ?_
  rintro e wo ⟨v0, v1, rfl, hSo, hRo, hb⟩
  obtain ⟨AO, cO, rfl, hcO, hCO⟩ := Kd.S_reads hSo
  obtain ⟨BO, dO, rfl, hdO, hDO⟩ := Kd.R_reads hRo
  have hp5 := blk_new wo (.cells #[.slice AO t.length cO, .slice BO f.length dO] 35)
  obtain ⟨x0, x1, -⟩ := blk2 hp5
  have HP5 := Aside0.mk hp5
  have HB3 := Aside0.mk (below_then HB2.out HB2.out.size hb)
  have HP23 := Aside0.mk (blk_below HP22.out hb)
  have HP33 := Aside0.mk (blk_below HP32.out hb)
  have HX := Aside0.mk (fun (V : World) (hb : Below wo.heap.size wo V) => twinP_calls AO BO cO dO t f V (Kd.C_below hCO hb) (Kd.C_below hDO hb) HN.out.1 HN.out.2.1 HN.out.2.2.1 HN.out.2.2.2)
  clear hp5 hb hSo hRo HTW p0 p1 HB2 HP22 HP32
  go_wp2_with fail
  refine (HX.out _ (below_alloc (Below.refl _ _) _)).mono ?_
  rintro e w4 ⟨vT, vF, rfl, hb, hRT, hRF⟩
  obtain ⟨AX, cX, rfl, hcX, hCX⟩ := Kd.R_reads hRT
  obtain ⟨BX, dX, rfl, hdX, hDX⟩ := Kd.R_reads hRF
  have hbo := below_then (below_alloc (Below.refl wo.heap.size wo) (.cells #[.slice AO t.length cO, .slice BO f.length dO] 35)) (by simp) hb
  have hbw := below_then HB3.out HB3.out.size hbo
  have K := Aside0.mk (show Tel w wo w4 (.cells #[.slice A0 t.length c0, .slice B0 f.length d0] 35) (.cells #[.slice A1 t'.length c1, .slice B1 f'.length d1] 35) (.cells #[.slice AO t.length cO, .slice BO f.length dO] 35) (.cells #[.slice AX t.length cX, .slice BX f.length dX] 35) wo.heap.size w4.heap.size (w4.alloc (.cells #[.slice AX t.length cX, .slice BX f.length dX] 35)) from ⟨below_alloc hbw _, below_alloc hbo _, below_alloc (Below.refl _ _) _, blk_alloc (blk_below (blk_alloc HP23.out _) hb) _, blk_alloc (blk_below (blk_alloc HP33.out _) hb) _, blk_alloc (blk_below HP5.out hb) _, blk_new w4 _⟩)
  have H1 := Aside0.mk (fun (V : World) (k : Tel w wo w4 (.cells #[.slice A0 t.length c0, .slice B0 f.length d0] 35) (.cells #[.slice A1 t'.length c1, .slice B1 f'.length d1] 35) (.cells #[.slice AO t.length cO, .slice BO f.length dO] 35) (.cells #[.slice AX t.length cX, .slice BX f.length dX] 35) wo.heap.size w4.heap.size V) => shape_Check.calls 7020 AO cO t BO dO f (chkP t f) V (Kd.C_below hCO k.bo) hcO (Kd.C_below hDO k.bo) hdO (Tab_below hT k.b) (checkP_some t f hS hM.few 7020 (by omega)))
  have H2 := Aside0.mk (fun (V : World) (k : Tel w wo w4 (.cells #[.slice A0 t.length c0, .slice B0 f.length d0] 35) (.cells #[.slice A1 t'.length c1, .slice B1 f'.length d1] 35) (.cells #[.slice AO t.length cO, .slice BO f.length dO] 35) (.cells #[.slice AX t.length cX, .slice BX f.length dX] 35) wo.heap.size w4.heap.size V) => checkR_calls A0 B0 c0 d0 t f V (Kd.C_below ht k.b) hct (Kd.C_below hf k.b) hcf hM hS)
  have H3 := Aside0.mk (fun (V : World) (k : Tel w wo w4 (.cells #[.slice A0 t.length c0, .slice B0 f.length d0] 35) (.cells #[.slice A1 t'.length c1, .slice B1 f'.length d1] 35) (.cells #[.slice AO t.length cO, .slice BO f.length dO] 35) (.cells #[.slice AX t.length cX, .slice BX f.length dX] 35) wo.heap.size w4.heap.size V) => sameP_calls AO BO A1 B1 cO dO c1 d1 t t' f f' V (Kd.C_below hCO k.bo) hcO (Kd.C_below hDO k.bo) hdO (Kd.C_below ht' k.b) hct' (Kd.C_below hf' k.b) hcf')
  have H4 := Aside0.mk (fun (V : World) (k : Tel w wo w4 (.cells #[.slice A0 t.length c0, .slice B0 f.length d0] 35) (.cells #[.slice A1 t'.length c1, .slice B1 f'.length d1] 35) (.cells #[.slice AO t.length cO, .slice BO f.length dO] 35) (.cells #[.slice AX t.length cX, .slice BX f.length dX] 35) wo.heap.size w4.heap.size V) => sameR_calls A0 B0 A1 B1 c0 d0 c1 d1 t t' f f' V hM.few (Kd.C_below ht k.b) hct (Kd.C_below hf k.b) hcf (Kd.C_below ht' k.b) hct' (Kd.C_below hf' k.b) hcf')
  have h5 := fun (V : World) (k : Tel w wo w4 (.cells #[.slice A0 t.length c0, .slice B0 f.length d0] 35) (.cells #[.slice A1 t'.length c1, .slice B1 f'.length d1] 35) (.cells #[.slice AO t.length cO, .slice BO f.length dO] 35) (.cells #[.slice AX t.length cX, .slice BX f.length dX] 35) wo.heap.size w4.heap.size V) => sameP_calls AO BO A0 B0 cO dO c0 d0 t t f f V (Kd.C_below hCO k.bo) hcO (Kd.C_below hDO k.bo) hdO (Kd.C_below ht k.b) hct (Kd.C_below hf k.b) hcf
  have h6 := fun (V : World) (k : Tel w wo w4 (.cells #[.slice A0 t.length c0, .slice B0 f.length d0] 35) (.cells #[.slice A1 t'.length c1, .slice B1 f'.length d1] 35) (.cells #[.slice AO t.length cO, .slice BO f.length dO] 35) (.cells #[.slice AX t.length cX, .slice BX f.length dX] 35) wo.heap.size w4.heap.size V) => sameR_calls AX BX A0 B0 cX dX c0 d0 t t f f V hM.few (Kd.C_below hCX k.bx) hcX (Kd.C_below hDX k.bx) hdX (Kd.C_below ht k.b) hct (Kd.C_below hf k.b) hcf
  have h8 := fun (V : World) (b : Below w.heap.size w V) (bo : Below wo.heap.size wo V) => sameR_calls AO BO A0 B0 cO dO c0 d0 t t f f V hM.few (Kd.C_below hCO bo) hcO (Kd.C_below hDO bo) hdO (Kd.C_below ht b) hct (Kd.C_below hf b) hcf
  rw [sameP_self] at h5 h6 h8
  have H5 := Aside0.mk h5
  have H6 := Aside0.mk h6
  have H8 := Aside0.mk h8
  have HSP := Aside0.mk (fun (V : World) (k : Tel w wo w4 (.cells #[.slice A0 t.length c0, .slice B0 f.length d0] 35) (.cells #[.slice A1 t'.length c1, .slice B1 f'.length d1] 35) (.cells #[.slice AO t.length cO, .slice BO f.length dO] 35) (.cells #[.slice AX t.length cX, .slice BX f.length dX] 35) wo.heap.size w4.heap.size V) => spoil_calls (.slice AX t.length cX) (.slice BX f.length dX) t f _ V (Nat.le_trans hb.size k.bx.size) (Kd.R_below hRT k.bx) (Kd.R_below hRF k.bx) HN.out.1 HN.out.2.2.1 HN.out.2.2.2)
  have HSZ := Aside0.mk (And.intro HB3.out.size (And.intro (blk_lt HP33.out) (show wo.heap.size < (wo.alloc (.cells #[.slice AO t.length cO, .slice BO f.length dO] 35)).heap.size by simp)))
  clear h5 h6 h8 hbo hbw hRT hRF hCX hDX hCO hDO hb ht hct hf hcf ht' hct' hf' hcf' hT hM hS HB3 HP23 HP33 HP5 HX HN hcO hdO hcX hdX x0 x1
  generalize sameP t f t' f' = sb at *
  generalize chkP t f = ck at *
  go_wp2_with fail
  go_upto_region 5 with fail
  go_cut [7] (fun s7 wx => s7 = .bool true ∧ Aside0 (Tel w wo w4 (.cells #[.slice A0 t.length c0, .slice B0 f.length d0] 35) (.cells #[.slice A1 t'.length c1, .slice B1 f'.length d1] 35) (.cells #[.slice AO t.length cO, .slice BO f.length dO] 35) (.cells #[.slice AX t.length cX, .slice BX f.length dX] 35) wo.heap.size w4.heap.size wx))
  case first =>
    have K0 := Aside0.mk (K.out.step (Below.drew (Below.refl _ _)))
    obtain ⟨z0, z1, -⟩ := blk2 K.out.p2
    obtain ⟨z2, z3, -⟩ := blk2 K.out.p3
    obtain ⟨z4, z5, -⟩ := blk2 K.out.p5
    obtain ⟨z6, z7, -⟩ := blk2 K.out.p6
    generalize w4.alloc (.cells #[.slice AX t.length cX, .slice BX f.length dX] 35) = W5 at *
    go_region_held3 (fun W => W.cell? ⟨w.heap.size, 0, none⟩ = some (.slice A0 t.length c0) ∧ W.cell? ⟨w.heap.size, 1, none⟩ = some (.slice B0 f.length d0) ∧ W.cell? ⟨w.heap.size + 1, 0, none⟩ = some (.slice A1 t'.length c1) ∧ W.cell? ⟨w.heap.size + 1, 1, none⟩ = some (.slice B1 f'.length d1) ∧ W.cell? ⟨wo.heap.size, 0, none⟩ = some (.slice AO t.length cO) ∧ W.cell? ⟨wo.heap.size, 1, none⟩ = some (.slice BO f.length dO) ∧ W.cell? ⟨w4.heap.size, 0, none⟩ = some (.slice AX t.length cX) ∧ W.cell? ⟨w4.heap.size, 1, none⟩ = some (.slice BX f.length dX)) (first | exact ⟨z0, z1, z2, z3, z4, z5, z6, z7⟩ | go_keep) (first | (go_at_call 27; (with_reducible refine (H1.out _ K0.out).mono ?_); rintro e u1 ⟨rfl, hb⟩; have K1 := Aside0.mk (K0.out.step hb); clear hb z0 z1 z2 z3 z4 z5 z6 z7; obtain ⟨z0, z1, -⟩ := blk2 K1.out.p2; obtain ⟨z2, z3, -⟩ := blk2 K1.out.p3; obtain ⟨z4, z5, -⟩ := blk2 K1.out.p5; obtain ⟨z6, z7, -⟩ := blk2 K1.out.p6) | (go_at_call 29; (with_reducible refine (H2.out _ K1.out).mono ?_); rintro e u2 ⟨rfl, hb⟩; have K2 := Aside0.mk (K1.out.step hb); clear hb z0 z1 z2 z3 z4 z5 z6 z7; obtain ⟨z0, z1, -⟩ := blk2 K2.out.p2; obtain ⟨z2, z3, -⟩ := blk2 K2.out.p3; obtain ⟨z4, z5, -⟩ := blk2 K2.out.p5; obtain ⟨z6, z7, -⟩ := blk2 K2.out.p6) | (go_at_call 30; (with_reducible refine (H3.out _ K2.out).mono ?_); rintro e u3 ⟨rfl, hb⟩; have K3 := Aside0.mk (K2.out.step hb); clear hb z0 z1 z2 z3 z4 z5 z6 z7; obtain ⟨z0, z1, -⟩ := blk2 K3.out.p2; obtain ⟨z2, z3, -⟩ := blk2 K3.out.p3; obtain ⟨z4, z5, -⟩ := blk2 K3.out.p5; obtain ⟨z6, z7, -⟩ := blk2 K3.out.p6) | (go_at_call 23; (with_reducible refine (H4.out _ K3.out).mono ?_); rintro e u4 ⟨rfl, hb⟩; have K4 := Aside0.mk (K3.out.step hb); clear hb z0 z1 z2 z3 z4 z5 z6 z7; obtain ⟨z0, z1, -⟩ := blk2 K4.out.p2; obtain ⟨z2, z3, -⟩ := blk2 K4.out.p3; obtain ⟨z4, z5, -⟩ := blk2 K4.out.p5; obtain ⟨z6, z7, -⟩ := blk2 K4.out.p6) | (go_at_call 30; (with_reducible refine (H5.out _ K4.out).mono ?_); rintro e u5 ⟨rfl, hb⟩; have K5 := Aside0.mk (K4.out.step hb); clear hb z0 z1 z2 z3 z4 z5 z6 z7; obtain ⟨z0, z1, -⟩ := blk2 K5.out.p2; obtain ⟨z2, z3, -⟩ := blk2 K5.out.p3; obtain ⟨z4, z5, -⟩ := blk2 K5.out.p5; obtain ⟨z6, z7, -⟩ := blk2 K5.out.p6) | (go_at_call 23; (with_reducible refine (H6.out _ K5.out).mono ?_); rintro e u6 ⟨rfl, hb⟩; have K6 := Aside0.mk (K5.out.step hb); clear hb z0 z1 z2 z3 z4 z5 z6 z7; obtain ⟨z0, z1, -⟩ := blk2 K6.out.p2; obtain ⟨z2, z3, -⟩ := blk2 K6.out.p3; obtain ⟨z4, z5, -⟩ := blk2 K6.out.p5; obtain ⟨z6, z7, -⟩ := blk2 K6.out.p6))
    all_goals
      go_wp2_with fail
      go_meet
      exact ⟨rfl, K6⟩
  case rest =>
    obtain ⟨rfl, KC⟩ := hcut
    clear H1 H2 H3 H4 H5 H6 K
    obtain ⟨z6, z7, -⟩ := blk2 KC.out.p6
    go_wp2_with fail
    refine (HSP.out _ KC.out).mono ?_
    rintro e w8 ⟨⟨v, rfl⟩, hb⟩
    have hsz := HSZ.out
    have k2 := blk_under KC.out.p2 hb (by omega)
    have k5 := blk_under KC.out.p5 hb (by omega)
    have HC8 := Aside0.mk (H8.out w8 (KC.out.b.trans (hb.mono (by omega))) (KC.out.bo.trans (hb.mono (by omega))))
    have HB8 := Aside0.mk (KC.out.b.trans (hb.mono (show w.heap.size ≤ _ by omega)))
    obtain ⟨z0, z1, -⟩ := blk2 k2
    obtain ⟨z4, z5, -⟩ := blk2 k5
    clear k2 k5 hsz hb z6 z7 HSP H8 HSZ
    go_wp2_with fail
    refine HC8.out.mono ?_
    rintro e w9 ⟨rfl, hb⟩
    have HB9 := Aside0.mk (below_then HB8.out HB8.out.size hb)
    clear hb HC8 z0 z1 z4 z5
    go_wp2_with fail
    go_ret
    exact ⟨rfl, HB9.out⟩
theorem tellsP_calls (A0 B0 A1 B1 : Option Addr) (c0 d0 c1 d1 : Nat) (t t' : List S78) (f f' : List S55) (w : World) (hT : Tab w) (ht : Kd.C k78 w A0 t.length t) (hct : t.length ≤ c0) (hf : Kd.C k55 w B0 f.length f) (hcf : f.length ≤ d0) (ht' : Kd.C k78 w A1 t'.length t') (hct' : t'.length ≤ c1) (hf' : Kd.C k55 w B1 f'.length f') (hcf' : f'.length ≤ d1) (hS : SaneP f) (hS' : SaneP f') :
    Calls Tryd.prog 7 #[.agg #[.slice A0 t.length c0, .slice B0 f.length d0], .agg #[.slice A1 t'.length c1, .slice B1 f'.length d1]] w fun e w' => e = .returned (.bool true) ∧ Below w.heap.size w w' := by
  obtain ⟨K1, b, hK1, hb⟩ := greatP_some t f hS
  obtain ⟨K2, b', hK2, hb'⟩ := greatP_some t' f' hS'
  have hg := hK1 K1 (Nat.le_refl _)
  have hg' := hK2 K2 (Nat.le_refl _)
  cases h : b || b'
  · rw [Bool.or_eq_false_iff] at h
    obtain ⟨rfl, rfl⟩ := h
    exact tellsP_small A0 B0 A1 B1 c0 d0 c1 d1 t t' f f' w hT ht hct hf hcf ht' hct' hf' hcf' K1 K2 hg hg' (hb rfl) hS
  · exact tellsP_great A0 B0 A1 B1 c0 d0 c1 d1 t t' f f' w ht hct hf hcf ht' hct' hf' hcf' K1 K2 b b' hg hg' h
/-- The law's answer; the programs are sane. -/
def fescuelaw06_ShapeTells.f (_ : Nat) (_ : List S78) (f : List S55) (_ : List S78) (f' : List S55) : Prop := SaneP f ∧ SaneP f'
theorem fescuelaw06_ShapeTells.calls (k : Nat) (A0 : Option Addr) (c0 : Nat) (t : List S78) (B0 : Option Addr) (d0 : Nat) (f : List S55) (A1 : Option Addr) (c1 : Nat) (t' : List S78) (B1 : Option Addr) (d1 : Nat) (f' : List S55) (r : Bool) (w : World) (ht : Kd.C k78 w A0 t.length t) (hct : t.length ≤ c0) (hf : Kd.C k55 w B0 f.length f) (hcf : f.length ≤ d0) (ht' : Kd.C k78 w A1 t'.length t') (hct' : t'.length ≤ c1) (hf' : Kd.C k55 w B1 f'.length f') (hcf' : f'.length ≤ d1) (hT : Tab w) (h : fescuelaw06_ShapeTells.f k t f t' f' ∧ r = true) :
    Calls Tryd.prog 7 #[.agg #[.slice A0 t.length c0, .slice B0 f.length d0], .agg #[.slice A1 t'.length c1, .slice B1 f'.length d1]] w fun e w' => e = .returned (.bool r) ∧ Below w.heap.size w w' := by
  obtain ⟨⟨hS, hS'⟩, rfl⟩ := h
  exact tellsP_calls A0 B0 A1 B1 c0 d0 c1 d1 t t' f f' w hT ht hct hf hcf ht' hct' hf' hcf' hS hS'
end Go.Proofs.YtfjmpfecnemoiaaDoor.Q
