/-
  types.may: whether a type may be, those of lower numbers having so many cells; and how many it has.
-/
import Derived.Test.YtfjmpfecnemoiaaDoorQy16
import Derived.Test.YtfjmpfecnemoiaaDoorQThere
import Derived.Test.YtfjmpfecnemoiaaDoorQBits
import Derived.Test.YtfjmpfecnemoiaaDoorQx6
import Derived.Test.YtfjmpfecnemoiaaDoorQx16
namespace Go.Proofs.YtfjmpfecnemoiaaDoor.Q
open Go.RowKit Go.Proofs.YtfjmpfecnemoiaaDoorW.PrintWords Go.Proofs.YtfjmpfecnemoiaaDoorW.PrintLast Go.Proofs.YtfjmpfecnemoiaaDoorW.PrintMore
set_option linter.unusedVariables false
set_option linter.unusedSimpArgs false
set_option maxRecDepth 100000

/-- The two variables in memory: the table's box, the type's. -/
structure MaySt (w : World) (A : Option Addr) (n c : Nat) (x : S78) (A3 : Option Addr) (c3 gx : Nat) (W : World) : Prop where
  below : Below w.heap.size w W
  bt : W.heap[w.heap.size]? = some (.cells #[.slice A n c] 32 (0, 0))
  bx : W.heap[gx]? = some (.cells #[.int .u8 x.f0, .int .i64 x.f1, .int .i64 x.f2, .slice A3 x.f3.length c3] 78 (0, 0))
theorem MaySt.step {w : World} {A : Option Addr} {n c : Nat} {x : S78} {A3 : Option Addr} {c3 gx : Nat} {W W' : World} (h : MaySt w A n c x A3 c3 gx W) (hb : Below W.heap.size W W') : MaySt w A n c x A3 c3 gx W' :=
  ⟨below_then h.below h.below.size hb, blk_below h.bt hb, blk_below h.bx hb⟩
theorem MaySt.cells {w : World} {A : Option Addr} {n c : Nat} {x : S78} {A3 : Option Addr} {c3 gx : Nat} {W : World} (h : MaySt w A n c x A3 c3 gx W) :
    W.cell? ⟨w.heap.size, 0, none⟩ = some (.slice A n c) ∧ W.cell? ⟨gx, 0, none⟩ = some (.int .u8 x.f0) ∧ W.cell? ⟨gx, 1, none⟩ = some (.int .i64 x.f1) ∧ W.cell? ⟨gx, 2, none⟩ = some (.int .i64 x.f2) ∧ W.cell? ⟨gx, 3, none⟩ = some (.slice A3 x.f3.length c3) ∧ w.heap.size < W.heap.size ∧ gx < W.heap.size :=
  ⟨(blk_cell h.bt 0).trans rfl, (blk_cell h.bx 0).trans rfl, (blk_cell h.bx 1).trans rfl, (blk_cell h.bx 2).trans rfl, (blk_cell h.bx 3).trans rfl, blk_lt h.bt, blk_lt h.bx⟩

def sumW (l : List Int) : Int := l.foldl (fun a x => wrap64 (a + x)) 0
def isScalar (x : S78) : Bool := decide (1 ≤ x.f0) && decide (x.f0 ≤ 3)

/-- What it answers. -/
def mayOf (l0 : List S78) (a1 : Int) (l2 : List Int) (p : Bool) : Option (Int × Bool) :=
  let x := rd_T78 l0 a1
  if x.f0 = 1 then some (1, p)
  else if x.f0 = 2 then some (1, p && there l0.length [x.f1])
  else if x.f0 = 3 then some (1, p && decide (x.f3.length ≤ 4) && there l0.length (x.f1 :: x.f3) && !(x.f1 :: x.f3).any fun n => !isScalar (rd_T78 l0 n))
  else if x.f0 = 4 then (if p && there a1 x.f3 then some (sumW (x.f3.map (rd l2)), decide (0 < x.f3.length) && decide (x.f3.length ≤ 8) && decide (sumW (x.f3.map (rd l2)) ≤ 32)) else some (0, false))
  else if x.f0 = 5 then (if p && there a1 [x.f1] && decide (1 ≤ x.f2) && decide (x.f2 ≤ 16) then some (wrap64 (x.f2 * rd l2 x.f1), decide (wrap64 (x.f2 * rd l2 x.f1) ≤ 32)) else some (0, false))
  else some (1, false)
def types_may.f (l0 : List S78) (a1 : Int) (l2 : List Int) : Option (Int × Bool) :=
  if 0 ≤ a1 then (if a1 < (l0.length : Int) then (if a1 ≤ (l2.length : Int) then (if (rd_T78 l0 a1).f3.length < 1099511627776 then
    (types_plain.f (rd_T78 l0 a1).f0 (rd_T78 l0 a1).f1 (rd_T78 l0 a1).f2 (rd_T78 l0 a1).f3).bind (mayOf l0 a1 l2) else none) else none) else none) else none

theorem C_one (W : World) (v : Int) : Kd.C (Kd.int .i64) (W.alloc (.cells #[.int .i64 v] 3)) (some ⟨W.heap.size, 0, none⟩) [v].length [v] := by
  obtain ⟨A, c, e, h⟩ := own_reads (own_lit W 0 3 .i64 [v] (Nat.zero_le _) (by simp))
  injection e with e _ _
  subst e
  exact Kd.C_of_reads (d := (0 : Int)) (h1 := fun _ => rfl) h

set_option maxHeartbeats 2000000 in
theorem may_1 (A0 : Option Addr) (c0 : Nat) (l0 : List S78) (a1 : Int) (V2 : Value) (p : Bool) (w : World) (hr0 : Kd.C k78 w A0 l0.length l0) (h0 : 0 ≤ a1) (h1 : a1 < (l0.length : Int))
    (hp : types_plain.f (rd_T78 l0 a1).f0 (rd_T78 l0 a1).f1 (rd_T78 l0 a1).f2 (rd_T78 l0 a1).f3 = some p) (hk : (rd_T78 l0 a1).f0 = 1) (res : Value) (hres : res = .tuple #[.int .i64 1, .bool p]) :
    Calls Tryd.prog 70 #[.slice A0 l0.length c0, .int .i64 a1, V2] w fun e w' => e = .returned res ∧ Below w.heap.size w w' := by
  have hu78 := Tryd.underlying78
  have HR0 := Aside0.mk hr0
  obtain ⟨ad, A3, c3, e, hx0, hx1, hx2, hx3, hl3, hr3⟩ := at_T78B hr0 a1 h0 h1
  cases e
  have hplain := fun (W : World) (hb : Below w.heap.size w W) => types_plain.calls _ _ _ A3 c3 _ p W (hr3 W hb) hl3 hp
  generalize hX : rd_T78 l0 a1 = x at *
  have k1 : (x.f0 == 1) = true := beq_iff_eq.mpr hk
  clear hk
  have HRES := Aside0.mk hres
  have HP := Aside0.mk hplain
  have HR3 := Aside0.mk hr3
  have HX := Aside0.mk (And.intro hx0 (And.intro hx1 (And.intro hx2 hx3)))
  clear hr0 hr3 hl3 hp hplain hX hres hx0 hx1 hx2 hx3
  go_enter Tryd.func70, Tryd.ntmps70
  go_wp2_with ((with_reducible refine gate_dst (N := 3) rfl ?_); refine box_event ?hg (N := 3) ?hd (cs := #[.slice (some ad) l0.length c0]) (t := 32) ?hr ?_; (case hd => rfl); (case hg => rfl); (case hr => go_simp); intro gb hg w1 hbox hb; subst hg; have hx0 := HX.out.1 w1 hb; have hx1 := HX.out.2.1 w1 hb; have hx2 := HX.out.2.2.1 w1 hb; have hx3 := HX.out.2.2.2 w1 hb; have ht0 : w1.cell? ⟨w.heap.size, 0, none⟩ = some (.slice (some ad) l0.length c0) := (blk_cell hbox 0).trans rfl; have HBX := Aside0.mk hbox; have HB1 := Aside0.mk hb; clear hbox hb)
  have hM : MaySt w (some ad) l0.length c0 x A3 c3 w1.heap.size (w1.alloc (.cells #[.int .u8 x.f0, .int .i64 x.f1, .int .i64 x.f2, .slice A3 x.f3.length c3] 78)) :=
    ⟨below_alloc HB1.out _, blk_alloc HBX.out _, blk_new _ _⟩
  refine (HP.out _ hM.below).mono ?_
  rintro e w' ⟨rfl, hb⟩
  have hM' := hM.step hb
  clear hM hb HP
  obtain ⟨d0, d1, d2, d3, d4, d5, d6⟩ := hM'.cells
  have HM := Aside0.mk hM'
  clear hM' hx0 hx1 hx2 hx3 ht0 HBX HB1 HX
  generalize w1.heap.size = gx at *
  cases p
  all_goals
    go_wp2_with fail
    go_ret2
    exact ⟨by rw [HRES.out]; rfl, HM.out.below⟩
set_option maxHeartbeats 2000000 in
theorem may_2 (A0 : Option Addr) (c0 : Nat) (l0 : List S78) (a1 : Int) (V2 : Value) (p : Bool) (w : World) (hr0 : Kd.C k78 w A0 l0.length l0) (h0 : 0 ≤ a1) (h1 : a1 < (l0.length : Int))
    (hp : types_plain.f (rd_T78 l0 a1).f0 (rd_T78 l0 a1).f1 (rd_T78 l0 a1).f2 (rd_T78 l0 a1).f3 = some p) (hk : (rd_T78 l0 a1).f0 = 2) (res : Value) (hres : res = .tuple #[.int .i64 1, .bool (p && there l0.length [(rd_T78 l0 a1).f1])]) :
    Calls Tryd.prog 70 #[.slice A0 l0.length c0, .int .i64 a1, V2] w fun e w' => e = .returned res ∧ Below w.heap.size w w' := by
  have hu78 := Tryd.underlying78
  have HR0 := Aside0.mk hr0
  obtain ⟨ad, A3, c3, e, hx0, hx1, hx2, hx3, hl3, hr3⟩ := at_T78B hr0 a1 h0 h1
  cases e
  have hplain := fun (W : World) (hb : Below w.heap.size w W) => types_plain.calls _ _ _ A3 c3 _ p W (hr3 W hb) hl3 hp
  generalize hX : rd_T78 l0 a1 = x at *
  have k1 : (x.f0 == 1) = false := by rw [hk]; rfl
  have k2 : (x.f0 == 2) = true := beq_iff_eq.mpr hk
  clear hk
  have HRES := Aside0.mk hres
  have HP := Aside0.mk hplain
  have HR3 := Aside0.mk hr3
  have HX := Aside0.mk (And.intro hx0 (And.intro hx1 (And.intro hx2 hx3)))
  clear hr0 hr3 hl3 hp hplain hX hres hx0 hx1 hx2 hx3
  go_enter Tryd.func70, Tryd.ntmps70
  go_wp2_with ((with_reducible refine gate_dst (N := 3) rfl ?_); refine box_event ?hg (N := 3) ?hd (cs := #[.slice (some ad) l0.length c0]) (t := 32) ?hr ?_; (case hd => rfl); (case hg => rfl); (case hr => go_simp); intro gb hg w1 hbox hb; subst hg; have hx0 := HX.out.1 w1 hb; have hx1 := HX.out.2.1 w1 hb; have hx2 := HX.out.2.2.1 w1 hb; have hx3 := HX.out.2.2.2 w1 hb; have ht0 : w1.cell? ⟨w.heap.size, 0, none⟩ = some (.slice (some ad) l0.length c0) := (blk_cell hbox 0).trans rfl; have HBX := Aside0.mk hbox; have HB1 := Aside0.mk hb; clear hbox hb)
  have hM : MaySt w (some ad) l0.length c0 x A3 c3 w1.heap.size (w1.alloc (.cells #[.int .u8 x.f0, .int .i64 x.f1, .int .i64 x.f2, .slice A3 x.f3.length c3] 78)) :=
    ⟨below_alloc HB1.out _, blk_alloc HBX.out _, blk_new _ _⟩
  refine (HP.out _ hM.below).mono ?_
  rintro e w' ⟨rfl, hb⟩
  have hM' := hM.step hb
  clear hM hb HP
  obtain ⟨d0, d1, d2, d3, d4, d5, d6⟩ := hM'.cells
  have HM := Aside0.mk hM'
  clear hM' hx0 hx1 hx2 hx3 ht0 HBX HB1 HX
  generalize w1.heap.size = gx at *
  cases p
  · go_wp2_with fail
    go_ret2
    exact ⟨by rw [HRES.out]; rfl, HM.out.below⟩
  · have hthere := there_calls0 (l0.length : Int) _ 1 [x.f1] _ (C_one w' x.f1)
    cases hq : there (l0.length : Int) [x.f1]
    all_goals
      rw [hq] at hthere
      have HQ := Aside0.mk hq
      clear hq
      go_wp2_with fail
      refine hthere.mono ?_
      rintro e w2 ⟨rfl, hb⟩
      have hM' := HM.out.step (below_then (below_alloc (Below.refl _ _) _) (by simp) hb)
      clear HM hb d0 d1 d2 d3 d4 d5 d6 hthere
      obtain ⟨d0, d1, d2, d3, d4, d5, d6⟩ := hM'.cells
      have HM := Aside0.mk hM'
      clear hM'
      go_wp2_with fail
      go_ret2
      exact ⟨by rw [HRES.out, HQ.out]; rfl, HM.out.below⟩
set_option maxHeartbeats 2000000 in
theorem may_0 (A0 : Option Addr) (c0 : Nat) (l0 : List S78) (a1 : Int) (V2 : Value) (p : Bool) (w : World) (hr0 : Kd.C k78 w A0 l0.length l0) (h0 : 0 ≤ a1) (h1 : a1 < (l0.length : Int))
    (hp : types_plain.f (rd_T78 l0 a1).f0 (rd_T78 l0 a1).f1 (rd_T78 l0 a1).f2 (rd_T78 l0 a1).f3 = some p) (k1 : ((rd_T78 l0 a1).f0 == 1) = false) (k2 : ((rd_T78 l0 a1).f0 == 2) = false) (k3 : ((rd_T78 l0 a1).f0 == 3) = false) (k4 : ((rd_T78 l0 a1).f0 == 4) = false) (k5 : ((rd_T78 l0 a1).f0 == 5) = false) (res : Value) (hres : res = .tuple #[.int .i64 1, .bool false]) :
    Calls Tryd.prog 70 #[.slice A0 l0.length c0, .int .i64 a1, V2] w fun e w' => e = .returned res ∧ Below w.heap.size w w' := by
  have hu78 := Tryd.underlying78
  have HR0 := Aside0.mk hr0
  obtain ⟨ad, A3, c3, e, hx0, hx1, hx2, hx3, hl3, hr3⟩ := at_T78B hr0 a1 h0 h1
  cases e
  have hplain := fun (W : World) (hb : Below w.heap.size w W) => types_plain.calls _ _ _ A3 c3 _ p W (hr3 W hb) hl3 hp
  generalize hX : rd_T78 l0 a1 = x at *

  have HRES := Aside0.mk hres
  have HP := Aside0.mk hplain
  have HR3 := Aside0.mk hr3
  have HX := Aside0.mk (And.intro hx0 (And.intro hx1 (And.intro hx2 hx3)))
  clear hr0 hr3 hl3 hp hplain hX hres hx0 hx1 hx2 hx3
  go_enter Tryd.func70, Tryd.ntmps70
  go_wp2_with ((with_reducible refine gate_dst (N := 3) rfl ?_); refine box_event ?hg (N := 3) ?hd (cs := #[.slice (some ad) l0.length c0]) (t := 32) ?hr ?_; (case hd => rfl); (case hg => rfl); (case hr => go_simp); intro gb hg w1 hbox hb; subst hg; have hx0 := HX.out.1 w1 hb; have hx1 := HX.out.2.1 w1 hb; have hx2 := HX.out.2.2.1 w1 hb; have hx3 := HX.out.2.2.2 w1 hb; have ht0 : w1.cell? ⟨w.heap.size, 0, none⟩ = some (.slice (some ad) l0.length c0) := (blk_cell hbox 0).trans rfl; have HBX := Aside0.mk hbox; have HB1 := Aside0.mk hb; clear hbox hb)
  have hM : MaySt w (some ad) l0.length c0 x A3 c3 w1.heap.size (w1.alloc (.cells #[.int .u8 x.f0, .int .i64 x.f1, .int .i64 x.f2, .slice A3 x.f3.length c3] 78)) :=
    ⟨below_alloc HB1.out _, blk_alloc HBX.out _, blk_new _ _⟩
  refine (HP.out _ hM.below).mono ?_
  rintro e w' ⟨rfl, hb⟩
  have hM' := hM.step hb
  clear hM hb HP
  obtain ⟨d0, d1, d2, d3, d4, d5, d6⟩ := hM'.cells
  have HM := Aside0.mk hM'
  clear hM' hx0 hx1 hx2 hx3 ht0 HBX HB1 HX
  generalize w1.heap.size = gx at *
  cases p
  all_goals
    go_wp2_with fail
    go_ret2
    exact ⟨by rw [HRES.out]; rfl, HM.out.below⟩

theorem scalar_some (x : S78) : types_scalar.f x.f0 x.f1 x.f2 x.f3 = some (isScalar x) := by unfold types_scalar.f isScalar; by_cases h : 1 ≤ x.f0 <;> simp [h]
theorem may1_calls (A0 : Option Addr) (c0 : Nat) (l0 : List S78) (n : Int) (b : Nat) (W : World) (hr : Kd.C k78 W A0 l0.length l0) (h0 : 0 ≤ n) (h1 : n < (l0.length : Int)) (hc : W.cell? ⟨b, 0, none⟩ = some (.slice A0 l0.length c0)) :
    Calls Tryd.prog 88 #[.int .i64 n, .pointer (some ⟨b, 0, none⟩)] W fun e w' => e = .returned (.bool (!isScalar (rd_T78 l0 n))) ∧ Below W.heap.size W w' := by
  have hu78 := Tryd.underlying78
  obtain ⟨ad, A3, c3, e, hx0, hx1, hx2, hx3, hl3, hr3⟩ := at_T78 hr n h0 h1
  cases e
  generalize hX : rd_T78 l0 n = x at *
  have hs := types_scalar.calls _ _ _ A3 c3 _ (isScalar x) W hr3 hl3 (scalar_some x)
  have HS := Aside0.mk hs
  clear hr hr3 hl3 hs hX
  go_enter Tryd.func88, Tryd.ntmps88
  go_wp2_with fail
  refine HS.out.mono ?_
  rintro e w' ⟨rfl, hb⟩
  clear HS
  have HB := Aside0.mk hb
  clear hb
  go_wp2_with fail
  go_ret
  exact ⟨rfl, HB.out⟩
set_option maxHeartbeats 2000000 in
theorem may_3 (A0 : Option Addr) (c0 : Nat) (l0 : List S78) (a1 : Int) (V2 : Value) (p : Bool) (w : World) (hr0 : Kd.C k78 w A0 l0.length l0) (h0 : 0 ≤ a1) (h1 : a1 < (l0.length : Int))
    (hp : types_plain.f (rd_T78 l0 a1).f0 (rd_T78 l0 a1).f1 (rd_T78 l0 a1).f2 (rd_T78 l0 a1).f3 = some p) (hk : (rd_T78 l0 a1).f0 = 3) (hlim : (rd_T78 l0 a1).f3.length < 1099511627776) (res : Value) (hres : res = .tuple #[.int .i64 1, .bool (p && decide ((rd_T78 l0 a1).f3.length ≤ 4) && there l0.length ((rd_T78 l0 a1).f1 :: (rd_T78 l0 a1).f3) && !((rd_T78 l0 a1).f1 :: (rd_T78 l0 a1).f3).any fun n => !isScalar (rd_T78 l0 n))]) :
    Calls Tryd.prog 70 #[.slice A0 l0.length c0, .int .i64 a1, V2] w fun e w' => e = .returned res ∧ Below w.heap.size w w' := by
  have hu78 := Tryd.underlying78
  have HR0 := Aside0.mk hr0
  obtain ⟨ad, A3, c3, e, hx0, hx1, hx2, hx3, hl3, hr3⟩ := at_T78B hr0 a1 h0 h1
  cases e
  have hplain := fun (W : World) (hb : Below w.heap.size w W) => types_plain.calls _ _ _ A3 c3 _ p W (hr3 W hb) hl3 hp
  generalize hX : rd_T78 l0 a1 = x at *
  have k1 : (x.f0 == 1) = false := by rw [hk]; rfl
  have k2 : (x.f0 == 2) = false := by rw [hk]; rfl
  have k3 : (x.f0 == 3) = true := beq_iff_eq.mpr hk
  clear hk
  have HRES := Aside0.mk hres
  have HP := Aside0.mk hplain
  have HR3 := Aside0.mk hr3
  have HX := Aside0.mk (And.intro hx0 (And.intro hx1 (And.intro hx2 hx3)))
  clear hr0 hr3 hl3 hp hplain hX hres hx0 hx1 hx2 hx3
  go_enter Tryd.func70, Tryd.ntmps70
  go_wp2_with ((with_reducible refine gate_dst (N := 3) rfl ?_); refine box_event ?hg (N := 3) ?hd (cs := #[.slice (some ad) l0.length c0]) (t := 32) ?hr ?_; (case hd => rfl); (case hg => rfl); (case hr => go_simp); intro gb hg w1 hbox hb; subst hg; have hx0 := HX.out.1 w1 hb; have hx1 := HX.out.2.1 w1 hb; have hx2 := HX.out.2.2.1 w1 hb; have hx3 := HX.out.2.2.2 w1 hb; have ht0 : w1.cell? ⟨w.heap.size, 0, none⟩ = some (.slice (some ad) l0.length c0) := (blk_cell hbox 0).trans rfl; have HBX := Aside0.mk hbox; have HB1 := Aside0.mk hb; clear hbox hb)
  have hM : MaySt w (some ad) l0.length c0 x A3 c3 w1.heap.size (w1.alloc (.cells #[.int .u8 x.f0, .int .i64 x.f1, .int .i64 x.f2, .slice A3 x.f3.length c3] 78)) :=
    ⟨below_alloc HB1.out _, blk_alloc HBX.out _, blk_new _ _⟩
  refine (HP.out _ hM.below).mono ?_
  rintro e w' ⟨rfl, hb⟩
  have hM' := hM.step hb
  clear hM hb HP
  obtain ⟨d0, d1, d2, d3, d4, d5, d6⟩ := hM'.cells
  have HM := Aside0.mk hM'
  clear hM' hx0 hx1 hx2 hx3 ht0 HBX HB1 HX
  generalize w1.heap.size = gx at *
  have HQ3 := Aside0.mk (HR3.out w' HM.out.below)
  go_wp2_with (at_builtin; refine Kd.R_append_row (Value.int .i64) (0 : Int) (h1 := fun _ => rfl) (w0 := w'.alloc (.cells #[.int .i64 x.f1] 3)) w'.heap.size rfl (.tmp 40) (.tmp 42) 22 3 (.int .i64 0) 8 rfl Tryd.underlying22 info3 rfl (by decide) _ [x.f1] x.f3 A3 x.f3.length c3 (fun _ => True) rfl rfl (fun _ _ => trivial) ?hO ?hR ?hB ?hs ?hl ?_)
  case hO => exact Kd.R_of_own (own_lit w' w'.heap.size 3 .i64 [x.f1] (Nat.le_refl _) (by simp)) (fun _ _ => trivial)
  case hR => exact Kd.C_alloc HQ3.out _
  case hB => exact Below.refl _ _
  case hs => simp
  case hl => simp; omega
  intro v1 w2 hown hB _ _
  obtain ⟨A1, c1, hv1, hl1, hr1⟩ := Kd.R_reads hown
  clear hown
  obtain ⟨L, hL⟩ : ∃ L, x.f1 :: x.f3 = L := ⟨_, rfl⟩
  rw [hL] at hv1 hl1 hr1
  subst hv1
  have hM' := HM.out.step (((Below.refl _ _).alloc (Nat.le_refl _) _).trans hB)
  clear HM hB d0 d1 d2 d3 d4 d5 d6 HQ3
  obtain ⟨d0, d1, d2, d3, d4, d5, d6⟩ := hM'.cells
  have HM := Aside0.mk hM'
  clear hM'
  have HLL := Aside0.mk hL
  have HL1 := Aside0.mk hl1
  have HR1 := Aside0.mk hr1
  clear hL hl1 hr1
  cases p
  · go_wp2_with fail
    go_ret2
    exact ⟨by rw [HRES.out]; simp, HM.out.below⟩
  by_cases h4 : (x.f3.length : Int) ≤ 4
  · have hthere := there_calls0 (l0.length : Int) A1 c1 L w2 HR1.out
    cases hq : there (l0.length : Int) L
    · rw [hq] at hthere
      have HQ := Aside0.mk hq
      clear hq
      go_wp2_with fail
      refine hthere.mono ?_
      rintro e w3 ⟨rfl, hb⟩
      have hM' := HM.out.step hb
      clear HM hb d0 d1 d2 d3 d4 d5 d6 hthere
      obtain ⟨d0, d1, d2, d3, d4, d5, d6⟩ := hM'.cells
      have HM := Aside0.mk hM'
      clear hM'
      go_wp2_with fail
      go_ret2
      exact ⟨by rw [HRES.out, HLL.out, HQ.out]; simp, HM.out.below⟩
    · rw [hq] at hthere
      have HQ := Aside0.mk hq
      clear hq
      go_wp2_with fail
      refine hthere.mono ?_
      rintro e w3 ⟨rfl, hb⟩
      have hcont := containsFunc_calls 88 #[.pointer (some ⟨w.heap.size, 0, none⟩)] (enters_of Tryd.func88 (by kernel_rfl) rfl) (fun n => !isScalar (rd_T78 l0 n)) A1 c1 L w3 (Kd.C_below HR1.out hb)
        (fun W n hbW hn => may1_calls _ c0 l0 n w.heap.size W (Kd.C_below HR0.out (below_then HM.out.below HM.out.below.size (below_then hb hb.size hbW))) (by have := List.all_eq_true.1 HQ.out n hn; simp at this; omega) (by have := List.all_eq_true.1 HQ.out n hn; simp at this; omega) ((blk_cell (blk_below (blk_below HM.out.bt hb) hbW) 0).trans rfl))
      have HCONT := Aside0.mk hcont
      have hM' := HM.out.step hb
      clear HM hb d0 d1 d2 d3 d4 d5 d6 hthere hcont
      obtain ⟨d0, d1, d2, d3, d4, d5, d6⟩ := hM'.cells
      have HM := Aside0.mk hM'
      clear hM'
      go_wp2_with fail
      refine HCONT.out.mono ?_
      rintro e w4 ⟨rfl, hb⟩
      have hM' := HM.out.step hb
      clear HM hb d0 d1 d2 d3 d4 d5 d6 HCONT
      obtain ⟨d0, d1, d2, d3, d4, d5, d6⟩ := hM'.cells
      have HM := Aside0.mk hM'
      clear hM'
      cases hq : L.any fun n => !isScalar (rd_T78 l0 n)
      all_goals
        have HQ2 := Aside0.mk hq
        clear hq
        go_wp2_with fail
        go_ret2
        exact ⟨by rw [HRES.out, HLL.out, HQ.out, HQ2.out]; first | (simp; done) | (simp; omega), HM.out.below⟩
  · go_wp2_with fail
    go_ret2
    exact ⟨by rw [HRES.out, show decide (x.f3.length ≤ 4) = false from by simp; omega]; simp, HM.out.below⟩

set_option maxHeartbeats 2000000 in
theorem may_5 (A0 : Option Addr) (c0 : Nat) (l0 : List S78) (a1 : Int) (A2 : Option Addr) (c2 : Nat) (l2 : List Int) (p : Bool) (w : World) (hr2 : Kd.C (Kd.int .i64) w A2 l2.length l2) (hk2 : a1 ≤ (l2.length : Int)) (hr0 : Kd.C k78 w A0 l0.length l0) (h0 : 0 ≤ a1) (h1 : a1 < (l0.length : Int))
    (hp : types_plain.f (rd_T78 l0 a1).f0 (rd_T78 l0 a1).f1 (rd_T78 l0 a1).f2 (rd_T78 l0 a1).f3 = some p) (hk : (rd_T78 l0 a1).f0 = 5) (res : Value) (hres : res = .tuple #[.int .i64 (if p && there a1 [(rd_T78 l0 a1).f1] && decide (1 ≤ (rd_T78 l0 a1).f2) && decide ((rd_T78 l0 a1).f2 ≤ 16) then wrap64 ((rd_T78 l0 a1).f2 * rd l2 (rd_T78 l0 a1).f1) else 0), .bool ((p && there a1 [(rd_T78 l0 a1).f1] && decide (1 ≤ (rd_T78 l0 a1).f2) && decide ((rd_T78 l0 a1).f2 ≤ 16)) && decide (wrap64 ((rd_T78 l0 a1).f2 * rd l2 (rd_T78 l0 a1).f1) ≤ 32))]) :
    Calls Tryd.prog 70 #[.slice A0 l0.length c0, .int .i64 a1, .slice A2 l2.length c2] w fun e w' => e = .returned res ∧ Below w.heap.size w w' := by
  have hu78 := Tryd.underlying78
  have HR0 := Aside0.mk hr0
  obtain ⟨ad, A3, c3, e, hx0, hx1, hx2, hx3, hl3, hr3⟩ := at_T78B hr0 a1 h0 h1
  cases e
  have hplain := fun (W : World) (hb : Below w.heap.size w W) => types_plain.calls _ _ _ A3 c3 _ p W (hr3 W hb) hl3 hp
  generalize hX : rd_T78 l0 a1 = x at *
  have k1 : (x.f0 == 1) = false := by rw [hk]; rfl
  have k2 : (x.f0 == 2) = false := by rw [hk]; rfl
  have k3 : (x.f0 == 3) = false := by rw [hk]; rfl
  have k4 : (x.f0 == 4) = false := by rw [hk]; rfl
  have k5 : (x.f0 == 5) = true := beq_iff_eq.mpr hk
  clear hk
  have HR2 := Aside0.mk hr2
  clear hr2
  have HRES := Aside0.mk hres
  have HP := Aside0.mk hplain
  have HR3 := Aside0.mk hr3
  have HX := Aside0.mk (And.intro hx0 (And.intro hx1 (And.intro hx2 hx3)))
  clear hr0 hr3 hl3 hp hplain hX hres hx0 hx1 hx2 hx3
  go_enter Tryd.func70, Tryd.ntmps70
  go_wp2_with ((with_reducible refine gate_dst (N := 3) rfl ?_); refine box_event ?hg (N := 3) ?hd (cs := #[.slice (some ad) l0.length c0]) (t := 32) ?hr ?_; (case hd => rfl); (case hg => rfl); (case hr => go_simp); intro gb hg w1 hbox hb; subst hg; have hx0 := HX.out.1 w1 hb; have hx1 := HX.out.2.1 w1 hb; have hx2 := HX.out.2.2.1 w1 hb; have hx3 := HX.out.2.2.2 w1 hb; have ht0 : w1.cell? ⟨w.heap.size, 0, none⟩ = some (.slice (some ad) l0.length c0) := (blk_cell hbox 0).trans rfl; have HBX := Aside0.mk hbox; have HB1 := Aside0.mk hb; clear hbox hb)
  have hM : MaySt w (some ad) l0.length c0 x A3 c3 w1.heap.size (w1.alloc (.cells #[.int .u8 x.f0, .int .i64 x.f1, .int .i64 x.f2, .slice A3 x.f3.length c3] 78)) :=
    ⟨below_alloc HB1.out _, blk_alloc HBX.out _, blk_new _ _⟩
  refine (HP.out _ hM.below).mono ?_
  rintro e w' ⟨rfl, hb⟩
  have hM' := hM.step hb
  clear hM hb HP
  obtain ⟨d0, d1, d2, d3, d4, d5, d6⟩ := hM'.cells
  have HM := Aside0.mk hM'
  clear hM' hx0 hx1 hx2 hx3 ht0 HBX HB1 HX
  generalize w1.heap.size = gx at *
  cases p
  · go_wp2_with fail
    go_ret2
    exact ⟨by rw [HRES.out]; simp, HM.out.below⟩
  · have hthere := there_calls0 a1 _ 1 [x.f1] _ (C_one w' x.f1)
    cases hq : there a1 [x.f1]
    · rw [hq] at hthere
      have HQ := Aside0.mk hq
      clear hq
      go_wp2_with fail
      refine hthere.mono ?_
      rintro e w2 ⟨rfl, hb⟩
      replace hb := below_then (below_alloc (Below.refl _ _) _) (by simp) hb
      have hM' := HM.out.step hb
      clear HM hb d0 d1 d2 d3 d4 d5 d6 hthere
      obtain ⟨d0, d1, d2, d3, d4, d5, d6⟩ := hM'.cells
      have HM := Aside0.mk hM'
      clear hM'
      go_wp2_with fail
      go_ret2
      exact ⟨by rw [HRES.out, HQ.out]; simp, HM.out.below⟩
    · rw [hq] at hthere
      have HQ := Aside0.mk hq
      have hf1 : 0 ≤ x.f1 := by simp [there] at hq; omega
      have hf2 : x.f1 < (l2.length : Int) := by simp [there] at hq; omega
      clear hq
      by_cases hm1 : 1 ≤ x.f2
      · have hm1d : decide (1 ≤ x.f2) = true := decide_eq_true hm1
        clear hm1
        by_cases hm2 : x.f2 ≤ 16
        · have hm2d : decide (x.f2 ≤ 16) = true := decide_eq_true hm2
          clear hm2
          go_wp2_with fail
          refine hthere.mono ?_
          rintro e w2 ⟨rfl, hb⟩
          replace hb := below_then (below_alloc (Below.refl _ _) _) (by simp) hb
          have hM' := HM.out.step hb
          clear HM hb d0 d1 d2 d3 d4 d5 d6 hthere
          obtain ⟨d0, d1, d2, d3, d4, d5, d6⟩ := hM'.cells
          have HM := Aside0.mk hM'
          clear hM'
          obtain ⟨ad2, e2, hx⟩ := Kd.at_int (Kd.C_below HR2.out HM.out.below) x.f1 hf1 hf2
          cases e2
          have hmx : wrap64 (x.f2 * rd l2 x.f1) = wrap64 (x.f2 * rd l2 x.f1) := rfl
          clear hmx
          go_wp2_with fail
          go_quiet (fail)
          go_wp2_with fail
          go_ret2
          exact ⟨by rw [HRES.out, HQ.out, hm1d, hm2d]; simp, pw_below_drewN HM.out.below _⟩
        · have hm2d : decide (x.f2 ≤ 16) = false := decide_eq_false hm2
          clear hm2
          go_wp2_with fail
          refine hthere.mono ?_
          rintro e w2 ⟨rfl, hb⟩
          replace hb := below_then (below_alloc (Below.refl _ _) _) (by simp) hb
          have hM' := HM.out.step hb
          clear HM hb d0 d1 d2 d3 d4 d5 d6 hthere
          obtain ⟨d0, d1, d2, d3, d4, d5, d6⟩ := hM'.cells
          have HM := Aside0.mk hM'
          clear hM'
          go_wp2_with fail
          go_ret2
          exact ⟨by rw [HRES.out, HQ.out, hm1d, hm2d]; simp, HM.out.below⟩
      · have hm1d : decide (1 ≤ x.f2) = false := decide_eq_false hm1
        clear hm1
        go_wp2_with fail
        refine hthere.mono ?_
        rintro e w2 ⟨rfl, hb⟩
        replace hb := below_then (below_alloc (Below.refl _ _) _) (by simp) hb
        have hM' := HM.out.step hb
        clear HM hb d0 d1 d2 d3 d4 d5 d6 hthere
        obtain ⟨d0, d1, d2, d3, d4, d5, d6⟩ := hM'.cells
        have HM := Aside0.mk hM'
        clear hM'
        go_wp2_with fail
        go_ret2
        exact ⟨by rw [HRES.out, HQ.out, hm1d]; simp, HM.out.below⟩

theorem sum_l0 (L : List Int) (hL : L.length < 4611686018427387904) (d : Nat) : ∀ (k i : Nat) (acc : Int), i + d = L.length → d < k → types_sum.l0 k acc L (L.length : Int) (i : Int) = some ((L.drop i).foldl (fun a x => wrap64 (a + x)) acc) := by
  induction d with
  | zero =>
    intro k i acc hi hk
    obtain ⟨k, rfl⟩ : ∃ m, k = m + 1 := ⟨k - 1, by omega⟩
    simp only [types_sum.l0]
    rw [if_neg (by omega), List.drop_eq_nil_of_le (by omega)]
    rfl
  | succ d ih =>
    intro k i acc hi hk
    obtain ⟨k, rfl⟩ : ∃ m, k = m + 1 := ⟨k - 1, by omega⟩
    simp only [types_sum.l0]
    rw [if_pos (by omega), if_pos (by omega), if_pos (by omega), List.drop_eq_getElem_cons (by omega), List.foldl_cons, ← ih k (i + 1) _ (by omega) (by omega)]
    rw [show wrap64 ((i : Int) + 1) = ((i + 1 : Nat) : Int) from by unfold wrap64; omega, rd_at (by omega)]
theorem sum_some (L : List Int) (hL : L.length < 4611686018427387904) : types_sum.f (L.length + 1) L = some (sumW L) := sum_l0 L hL L.length _ 0 0 (by omega) (by omega)
set_option maxHeartbeats 2000000 in
theorem may_4 (A0 : Option Addr) (c0 : Nat) (l0 : List S78) (a1 : Int) (A2 : Option Addr) (c2 : Nat) (l2 : List Int) (p : Bool) (w : World) (hr2 : Kd.C (Kd.int .i64) w A2 l2.length l2) (hk2 : a1 ≤ (l2.length : Int)) (hr0 : Kd.C k78 w A0 l0.length l0) (h0 : 0 ≤ a1) (h1 : a1 < (l0.length : Int))
    (hp : types_plain.f (rd_T78 l0 a1).f0 (rd_T78 l0 a1).f1 (rd_T78 l0 a1).f2 (rd_T78 l0 a1).f3 = some p) (hk : (rd_T78 l0 a1).f0 = 4) (hlim : (rd_T78 l0 a1).f3.length < 1099511627776) (res : Value) (hres : res = .tuple #[.int .i64 (if p && there a1 (rd_T78 l0 a1).f3 then sumW ((rd_T78 l0 a1).f3.map (rd l2)) else 0), .bool ((p && there a1 (rd_T78 l0 a1).f3) && (decide (0 < (rd_T78 l0 a1).f3.length) && decide ((rd_T78 l0 a1).f3.length ≤ 8) && decide (sumW ((rd_T78 l0 a1).f3.map (rd l2)) ≤ 32)))]) :
    Calls Tryd.prog 70 #[.slice A0 l0.length c0, .int .i64 a1, .slice A2 l2.length c2] w fun e w' => e = .returned res ∧ Below w.heap.size w w' := by
  have hu78 := Tryd.underlying78
  have HR0 := Aside0.mk hr0
  obtain ⟨ad, A3, c3, e, hx0, hx1, hx2, hx3, hl3, hr3⟩ := at_T78B hr0 a1 h0 h1
  cases e
  have hplain := fun (W : World) (hb : Below w.heap.size w W) => types_plain.calls _ _ _ A3 c3 _ p W (hr3 W hb) hl3 hp
  generalize hX : rd_T78 l0 a1 = x at *
  have k1 : (x.f0 == 1) = false := by rw [hk]; rfl
  have k2 : (x.f0 == 2) = false := by rw [hk]; rfl
  have k3 : (x.f0 == 3) = false := by rw [hk]; rfl
  have k4 : (x.f0 == 4) = true := beq_iff_eq.mpr hk
  clear hk
  have HR2 := Aside0.mk hr2
  clear hr2
  have HRES := Aside0.mk hres
  have HP := Aside0.mk hplain
  have HR3 := Aside0.mk hr3
  have HX := Aside0.mk (And.intro hx0 (And.intro hx1 (And.intro hx2 hx3)))
  clear hr0 hr3 hl3 hp hplain hX hres hx0 hx1 hx2 hx3
  go_enter Tryd.func70, Tryd.ntmps70
  go_wp2_with ((with_reducible refine gate_dst (N := 3) rfl ?_); refine box_event ?hg (N := 3) ?hd (cs := #[.slice (some ad) l0.length c0]) (t := 32) ?hr ?_; (case hd => rfl); (case hg => rfl); (case hr => go_simp); intro gb hg w1 hbox hb; subst hg; have hx0 := HX.out.1 w1 hb; have hx1 := HX.out.2.1 w1 hb; have hx2 := HX.out.2.2.1 w1 hb; have hx3 := HX.out.2.2.2 w1 hb; have ht0 : w1.cell? ⟨w.heap.size, 0, none⟩ = some (.slice (some ad) l0.length c0) := (blk_cell hbox 0).trans rfl; have HBX := Aside0.mk hbox; have HB1 := Aside0.mk hb; clear hbox hb)
  have hM : MaySt w (some ad) l0.length c0 x A3 c3 w1.heap.size (w1.alloc (.cells #[.int .u8 x.f0, .int .i64 x.f1, .int .i64 x.f2, .slice A3 x.f3.length c3] 78)) :=
    ⟨below_alloc HB1.out _, blk_alloc HBX.out _, blk_new _ _⟩
  refine (HP.out _ hM.below).mono ?_
  rintro e w' ⟨rfl, hb⟩
  have hM' := hM.step hb
  clear hM hb HP
  obtain ⟨d0, d1, d2, d3, d4, d5, d6⟩ := hM'.cells
  have HM := Aside0.mk hM'
  clear hM' hx0 hx1 hx2 hx3 ht0 HBX HB1 HX
  generalize w1.heap.size = gx at *
  cases p
  · go_wp2_with fail
    go_ret2
    exact ⟨by rw [HRES.out]; simp, HM.out.below⟩
  · have hthere := there_calls0 a1 A3 c3 x.f3 w' (HR3.out w' HM.out.below)
    cases hq : there a1 x.f3
    · rw [hq] at hthere
      have HQ := Aside0.mk hq
      clear hq
      go_wp2_with fail
      refine hthere.mono ?_
      rintro e w2 ⟨rfl, hb⟩
      have hM' := HM.out.step hb
      clear HM hb d0 d1 d2 d3 d4 d5 d6 hthere
      obtain ⟨d0, d1, d2, d3, d4, d5, d6⟩ := hM'.cells
      have HM := Aside0.mk hM'
      clear hM'
      go_wp2_with fail
      go_ret2
      exact ⟨by rw [HRES.out, HQ.out]; simp, HM.out.below⟩
    · rw [hq] at hthere
      have HQ := Aside0.mk hq
      clear hq
      go_wp2_with fail
      refine hthere.mono ?_
      rintro e w2 ⟨rfl, hb⟩
      have hM' := HM.out.step hb
      clear HM hb d0 d1 d2 d3 d4 d5 d6 hthere
      obtain ⟨d0, d1, d2, d3, d4, d5, d6⟩ := hM'.cells
      have HM := Aside0.mk hM'
      clear hM'
      go_wp2_with fail
      go_loopg [12, 14, 77] x.f3.length (fun gg v12 v14 v77 Wr => ∃ j : Nat, j ≤ x.f3.length ∧ x.f3.length - j ≤ gg ∧ v77 = .int .i64 j ∧ Aside0 (Wr.ownsRow w2.heap.size 3 1 v12 ((x.f3.take j).map (rd l2)).length (nums .i64 ((x.f3.take j).map (rd l2)))) ∧ Aside0 (Below w2.heap.size w2 Wr))
      case atStart => exact ⟨0, Nat.zero_le _, by omega, rfl, ⟨own_nil _ _ _ _⟩, ⟨Below.refl _ _⟩⟩
      case round =>
        obtain ⟨j, hj, hg, rfl, HO, HB⟩ := hrel
        by_cases hlt : j < x.f3.length
        · have hltz : (j : Int) < (x.f3.length : Int) := by omega
          obtain ⟨ad3, e3, hx3⟩ := Kd.at_int (HR3.out wr (below_then HM.out.below HM.out.below.size HB.out)) (j : Int) (by omega) hltz
          rw [Int.toNat_natCast, rd_at hlt] at hx3
          cases e3
          have hmem := List.all_eq_true.1 HQ.out x.f3[j] (List.getElem_mem hlt)
          have hn0 : 0 ≤ x.f3[j] := by simp at hmem; omega
          have hn1 : x.f3[j] < (l2.length : Int) := by simp at hmem; omega
          obtain ⟨ad2, e2, hx2⟩ := Kd.at_int (Kd.C_below HR2.out (below_then HM.out.below HM.out.below.size HB.out)) x.f3[j] hn0 hn1
          cases e2
          have HT := Aside0.mk (show (x.f3.take (j + 1)).map (rd l2) = (x.f3.take j).map (rd l2) ++ [rd l2 x.f3[j]] from by rw [List.take_succ_eq_append_getElem hlt, List.map_append]; rfl)
          have hlen : ((x.f3.take j).map (rd l2)).length ≤ j := by simp; omega
          clear hmem d0 d1 d2 d3 d4
          generalize x.f3[j] = n at *
          generalize (x.f3.take j).map (rd l2) = xs at *
          go_wp2_with (at_builtin; refine print_append_num (w0 := w2) w2.heap.size rfl (.tmp 81) (.tmp 86) 22 3 .i64 8 rfl Tryd.underlying22 info3 (by decide) _ xs (rd l2 n) rfl ?hx HO.out HB.out HB.out.size ?hl ?_)
          case hx => go_simp
          case hl => omega
          intro v1 w3 hown hB _ _
          have HO1 := Aside0.mk hown
          have HB1 := Aside0.mk hB
          clear hown hB hx3 hx2 HO HB hlen
          go_wp2_with fail
          go_roundg (x.f3.length - (j + 1))
          case measure => omega
          case rel => exact ⟨j + 1, by omega, by omega, by go_num, ⟨by rw [HT.out]; simpa using HO1.out⟩, HB1⟩
        · have hltz : ¬ (j : Int) < (x.f3.length : Int) := by omega
          have HL := Aside0.mk (show (x.f3.take j).map (rd l2) = x.f3.map (rd l2) from by rw [List.take_of_length_le (by omega)])
          have HO1 := Aside0.mk (show wr.ownsRow w2.heap.size 3 1 u12 (x.f3.map (rd l2)).length (nums .i64 (x.f3.map (rd l2))) from HL.out ▸ HO.out)
          have HN := Aside0.mk (show (x.f3.map (rd l2)).length = x.f3.length from by simp)
          have HLIM := Aside0.mk hlim
          clear HL HO hlt hj hg hlim
          obtain ⟨A4, c4, e4, hrd⟩ := own_reads HO1.out
          have hcap : (x.f3.map (rd l2)).length ≤ c4 := by
            rcases HO1.out.2 with ⟨h5, h6⟩ | ⟨g6, cap6, cur6, h6, _, _, h7, _⟩
            · omega
            · rw [e4] at h6; injection h6 with _ _ h6; omega
          have hC := Kd.C_of_reads (d := (0 : Int)) (h1 := fun _ => rfl) hrd
          have hsum := types_sum.calls _ A4 c4 (x.f3.map (rd l2)) (sumW (x.f3.map (rd l2))) wr hC hcap (sum_some _ (by rw [HN.out]; have := HLIM.out; omega))
          have HSUM := Aside0.mk hsum
          have HMB := Aside0.mk (below_then HM.out.below HM.out.below.size HB.out)
          subst e4
          rw [HN.out] at HSUM
          clear hC hsum hcap hrd HO1 HB HM d0 d1 d2 d3 d4 d5 d6
          generalize hS : sumW (x.f3.map (rd l2)) = S at *
          clear hS
          by_cases h8 : 0 < x.f3.length
          · have h8d : decide (0 < x.f3.length) = true := decide_eq_true h8
            by_cases h9 : x.f3.length ≤ 8
            · have h9d : decide (x.f3.length ≤ 8) = true := decide_eq_true h9
              have H9 := Aside0.mk (And.intro h8d h9d)
              clear h8d h9d
              go_wp2_with fail
              refine HSUM.out.mono ?_
              rintro e w4 ⟨rfl, ⟨m4, rfl⟩⟩
              clear HSUM
              go_wp2_with fail
              go_ret2
              exact ⟨by rw [HRES.out, HQ.out, H9.out.1, H9.out.2]; simp, pw_below_drewN HMB.out _⟩
            · have h9d : decide (x.f3.length ≤ 8) = false := decide_eq_false h9
              have H9 := Aside0.mk (And.intro h8d h9d)
              clear h8d h9d
              go_wp2_with fail
              refine HSUM.out.mono ?_
              rintro e w4 ⟨rfl, ⟨m4, rfl⟩⟩
              clear HSUM
              go_wp2_with fail
              go_ret2
              exact ⟨by rw [HRES.out, HQ.out, H9.out.1, H9.out.2]; simp, pw_below_drewN HMB.out _⟩
          · have h8d : decide (0 < x.f3.length) = false := decide_eq_false h8
            have H8 := Aside0.mk h8d
            clear h8d
            go_wp2_with fail
            refine HSUM.out.mono ?_
            rintro e w4 ⟨rfl, ⟨m4, rfl⟩⟩
            clear HSUM
            go_wp2_with fail
            go_ret2
            exact ⟨by rw [HRES.out, HQ.out, H8.out]; simp, pw_below_drewN HMB.out _⟩

theorem types_may.calls (A0 : Option Addr) (c0 : Nat) (l0 : List S78) (a1 : Int) (A2 : Option Addr) (c2 : Nat) (l2 : List Int) (r1 : Int) (r2 : Bool) (w : World) (hr0 : Kd.C k78 w A0 l0.length l0) (hc0 : l0.length ≤ c0) (hr2 : Kd.C (Kd.int .i64) w A2 l2.length l2) (hc2 : l2.length ≤ c2) (h : types_may.f l0 a1 l2 = some (r1, r2)) :
    Calls Tryd.prog 70 #[.slice A0 l0.length c0, .int .i64 a1, .slice A2 l2.length c2] w fun e w' => e = .returned (.tuple #[.int .i64 r1, .bool r2]) ∧ Below w.heap.size w w' := by
  unfold types_may.f at h
  by_cases h0 : 0 ≤ a1
  · rw [if_pos h0] at h
    by_cases h1 : a1 < (l0.length : Int)
    · rw [if_pos h1] at h
      by_cases hk2 : a1 ≤ (l2.length : Int)
      · rw [if_pos hk2] at h
        by_cases hlim : (rd_T78 l0 a1).f3.length < 1099511627776
        · rw [if_pos hlim] at h
          obtain ⟨p, hp, h⟩ := Option.bind_eq_some_iff.1 h
          simp only [mayOf] at h
          by_cases k1 : (rd_T78 l0 a1).f0 = 1
          · rw [if_pos k1] at h
            injection h with h
            refine may_1 A0 c0 l0 a1 _ p w hr0 h0 h1 hp k1 _ ?_
            rw [← (Prod.mk.inj h).1, ← (Prod.mk.inj h).2]
          rw [if_neg k1] at h
          by_cases k2 : (rd_T78 l0 a1).f0 = 2
          · rw [if_pos k2] at h
            injection h with h
            refine may_2 A0 c0 l0 a1 _ p w hr0 h0 h1 hp k2 _ ?_
            rw [← (Prod.mk.inj h).1, ← (Prod.mk.inj h).2]
          rw [if_neg k2] at h
          by_cases k3 : (rd_T78 l0 a1).f0 = 3
          · rw [if_pos k3] at h
            injection h with h
            refine may_3 A0 c0 l0 a1 _ p w hr0 h0 h1 hp k3 hlim _ ?_
            rw [← (Prod.mk.inj h).1, ← (Prod.mk.inj h).2]
          rw [if_neg k3] at h
          by_cases k4 : (rd_T78 l0 a1).f0 = 4
          · rw [if_pos k4] at h
            refine may_4 A0 c0 l0 a1 A2 c2 l2 p w hr2 hk2 hr0 h0 h1 hp k4 hlim _ ?_
            cases hb : p && there a1 (rd_T78 l0 a1).f3
            · rw [hb] at h
              injection h with h
              rw [← (Prod.mk.inj h).1, ← (Prod.mk.inj h).2]
              simp
            · rw [hb] at h
              injection h with h
              rw [← (Prod.mk.inj h).1, ← (Prod.mk.inj h).2]
              simp
          rw [if_neg k4] at h
          by_cases k5 : (rd_T78 l0 a1).f0 = 5
          · rw [if_pos k5] at h
            refine may_5 A0 c0 l0 a1 A2 c2 l2 p w hr2 hk2 hr0 h0 h1 hp k5 _ ?_
            cases hb : p && there a1 [(rd_T78 l0 a1).f1] && decide (1 ≤ (rd_T78 l0 a1).f2) && decide ((rd_T78 l0 a1).f2 ≤ 16)
            · rw [hb] at h
              injection h with h
              rw [← (Prod.mk.inj h).1, ← (Prod.mk.inj h).2]
              simp
            · rw [hb] at h
              injection h with h
              rw [← (Prod.mk.inj h).1, ← (Prod.mk.inj h).2]
              simp
          rw [if_neg k5] at h
          injection h with h
          refine may_0 A0 c0 l0 a1 _ p w hr0 h0 h1 hp (beq_eq_false_iff_ne.mpr k1) (beq_eq_false_iff_ne.mpr k2) (beq_eq_false_iff_ne.mpr k3) (beq_eq_false_iff_ne.mpr k4) (beq_eq_false_iff_ne.mpr k5) _ ?_
          rw [← (Prod.mk.inj h).1, ← (Prod.mk.inj h).2]
        · rw [if_neg hlim] at h; cases h
      · rw [if_neg hk2] at h; cases h
    · rw [if_neg h1] at h; cases h
  · rw [if_neg h0] at h; cases h

end Go.Proofs.YtfjmpfecnemoiaaDoor.Q
