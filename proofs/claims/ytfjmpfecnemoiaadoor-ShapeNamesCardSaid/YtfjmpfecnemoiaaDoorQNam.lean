/-
  The walk of the law ShapeNames: the chapter's examples, one by one.
-/
import Derived.Test.YtfjmpfecnemoiaaDoorU4
import Derived.Test.YtfjmpfecnemoiaaDoorQOdd
import Derived.Test.YtfjmpfecnemoiaaDoorQCheck
import Derived.Test.YtfjmpfecnemoiaaDoorQz24
namespace Go.Proofs.YtfjmpfecnemoiaaDoor.Q
open Go.RowKit Go.Proofs.YtfjmpfecnemoiaaDoorW.PrintWords Go.Proofs.YtfjmpfecnemoiaaDoorW.PrintLast Go.Proofs.YtfjmpfecnemoiaaDoorW.PrintMore
set_option linter.unusedVariables false
set_option linter.unusedSimpArgs false
set_option maxRecDepth 100000

/-! ### what is computed at the examples -/
/-- May the chapter's program not be, with this second instruction? -/
def OddNo (x : S24) : Prop := shape_Check.f 40 chapT [⟨1, oddBs x 0⟩] = some 60
theorem odd1 : OddNo ⟨0, 0, 0, 0, 0, [], []⟩ := by unfold OddNo; decide +kernel
theorem odd2 : OddNo ⟨23, 0, 0, 0, 0, [], []⟩ := by unfold OddNo; decide +kernel
theorem odd3 : OddNo ⟨4, 0, 2, 0, 0, [], []⟩ := by unfold OddNo; decide +kernel
theorem odd4 : OddNo ⟨1, 0, 1, 0, 0, [], []⟩ := by unfold OddNo; decide +kernel
theorem odd5 : OddNo ⟨18, 0, 0, 0, 1, [], []⟩ := by unfold OddNo; decide +kernel
theorem odd6 : OddNo ⟨14, 0, 0, 0, 8, [], []⟩ := by unfold OddNo; decide +kernel
theorem odd7 : OddNo ⟨22, 0, 0, 0, 0, [], []⟩ := by unfold OddNo; decide +kernel
theorem odd8 : OddNo ⟨22, 0, 0, 0, 0, [0], []⟩ := by unfold OddNo; decide +kernel
theorem odd9 : OddNo ⟨21, 1, 0, 0, 0, [], []⟩ := by unfold OddNo; decide +kernel
theorem odd10 : OddNo ⟨4, 2, 0, 0, 0, [], []⟩ := by unfold OddNo; decide +kernel
theorem odd11 : OddNo ⟨18, 0, 0, 0, 0, [0, 0, 0, 0, 0], []⟩ := by unfold OddNo; decide +kernel
theorem alive_40 : fescuelaw06_alive.f 40 = some true := by decide +kernel
theorem chkP_0 : shape_Check.f 40 chapT [⟨0, oddBs chapB 0⟩] = some 60 := by decide +kernel
theorem chkQ_0 : shape_Check.f 40 chapT [⟨1, oddBs chapB 1⟩] = some 60 := by decide +kernel
theorem chkR_0 : shape_Check.f 40 chapT [⟨1, []⟩] = some 60 := by decide +kernel
theorem chkE_0 : shape_Check.f 40 [] [] = some 60 := by decide +kernel
theorem chk17 : shape_Check.f 40 (List.replicate 17 z78) [] = some 4 := by decide +kernel
theorem regs_1 : shape_Regs.f 40 chapT [⟨1, oddBs chapB 0⟩] 1 = some (0, 2) := by decide +kernel
theorem place_2 : shape_Place.f 40 chapT [⟨1, oddBs chapB 0⟩] 0 2 = some (0, 0, 2) := by decide +kernel
theorem reg_11 : shape_Reg.f 40 chapT [⟨1, oddBs chapB 0⟩] 0 1 1 = some (0, 2) := by decide +kernel

theorem odd_run (x : S24) (hx : OddNo x) (A5 A6 : Option Addr) (c5 c6 : Nat) (w : World) (hT : Tab w) (l5 : x.f5.length ≤ c5) (r5 : (Kd.int .i64).C w A5 x.f5.length x.f5) (l6 : x.f6.length ≤ c6) (r6 : (Kd.int .i64).C w A6 x.f6.length x.f6) :
    Calls Tryd.prog 24 #[.agg #[.int .u8 x.f0, .int .i64 x.f1, .int .i64 x.f2, .int .i64 x.f3, .int .i64 x.f4, .slice A5 x.f5.length c5, .slice A6 x.f6.length c6]] w fun e w' => e = .returned (.bool true) ∧ Below w.heap.size w w' :=
  odd_walk x A5 A6 c5 c6 w fun g W hb hc => shape_Check.calls 40 (some ⟨g + 5, 0, none⟩) 2 chapT (some ⟨g + 7, 0, none⟩) 1 [⟨1, oddBs x 0⟩] 60 W hc.types (Nat.le_refl _) (hc.funcs rfl (hc.blocks l5 (Kd.C_below r5 hb) l6 (Kd.C_below r6 hb))) (Nat.le_refl _) (Tab_below hT hb) hx
/-- One without lists. -/
theorem odd_bare (a b c d e : Int) (hx : OddNo ⟨a, b, c, d, e, [], []⟩) (w : World) (hT : Tab w) :
    Calls Tryd.prog 24 #[.agg #[.int .u8 a, .int .i64 b, .int .i64 c, .int .i64 d, .int .i64 e, .slice none 0 0, .slice none 0 0]] w fun e w' => e = .returned (.bool true) ∧ Below w.heap.size w w' :=
  odd_run ⟨a, b, c, d, e, [], []⟩ hx none none 0 0 w hT (Nat.le_refl _) (Kd.C_nil _ _) (Nat.le_refl _) (Kd.C_nil _ _)
theorem mk5 : ∀ W : World, (Instr.makeSlice 22 (.int .i64 5) (.int .i64 5)).run Tryd.prog W = .ok (.slice (some ⟨W.heap.size, 0, none⟩) 5 5) (W.alloc (.cells #[.int .i64 0, .int .i64 0, .int .i64 0, .int .i64 0, .int .i64 0] 3)) := fun W =>
  (print_make_int 22 3 (.int .i64 0) 8 Tryd.underlying22 info3 rfl (by decide) 5 (by decide) (by decide) W).trans (by rw [show madeCells #[Value.int .i64 0] (Int.toNat 5) = #[.int .i64 0, .int .i64 0, .int .i64 0, .int .i64 0, .int .i64 0] from by kernel_rfl]; rfl)
/-- The cells of seventeen types. -/
def c17 : Array Value := madeCells (Value.agg #[(.int .u8 0), (.int .i64 0), (.int .i64 0), (.slice none 0 0)]).cells (17 * 4)
theorem mk17 : ∀ W : World, (Instr.makeSlice 32 (.int .i64 17) (.int .i64 17)).run Tryd.prog W = .ok (.slice (some ⟨W.heap.size, 0, none⟩) 17 17) (W.alloc (.cells c17 78)) := fun W => by
  obtain ⟨i0, hi, hzz⟩ := Option.map_eq_some_iff.1 info78
  simp only [Prod.mk.injEq] at hzz
  obtain ⟨hz0, hz1, hz2⟩ := hzz
  have hr := run_make (P := Tryd.prog) W 32 78 i0 _ Tryd.underlying32 hi hz0 .i64 .i64 17 17 (by decide) (by decide) (by rw [hz2]; decide) (by decide)
  rw [hz1] at hr
  exact hr
theorem reads17 {W : World} {g : Nat} (h : W.heap[g]? = some (.cells c17 78 (0, 0))) : Kd.C k78 W (some ⟨g, 0, none⟩) 17 (List.replicate 17 z78) :=
  C_of_blk k78 (xs := List.replicate 17 z78) (inner := c17.toList) (by simpa using h) (by simp) (Kd.reps_made (z := .agg #[(.int .u8 0), (.int .i64 0), (.int .i64 0), (.slice none 0 0)]) rfl (by decide) (k78_mk W z78 (Nat.le_refl _) (Kd.C_nil _ _)) 17)

theorem Chap.far {g : Nat} {c c6 c7 : Array Value} {W : World} (h : Chap g c c6 c7 W) {p : Addr} (hp : p.block < g + 1 ∨ g + 8 ≤ p.block) (u : Value) : Chap g c c6 c7 (W.setCell p u) :=
  ⟨blk_far h.b1 (by omega) u, blk_far h.b3 (by omega) u, blk_far h.b5 (by omega) u, blk_far h.b6 (by omega) u, blk_far h.b7 (by omega) u⟩
theorem Chap.set6 {g : Nat} {c c6 c7 c' : Array Value} {W : World} (h : Chap g c c6 c7 W) (i : Nat) (u : Value) (e : c6.setIfInBounds i u = c') : Chap g c c' c7 (W.setCell ⟨g + 6, i, none⟩ u) :=
  ⟨blk_far h.b1 (show g + 1 ≠ g + 6 by omega) u, blk_far h.b3 (show g + 3 ≠ g + 6 by omega) u, blk_far h.b5 (show g + 5 ≠ g + 6 by omega) u, blk_put h.b6 i u e, blk_far h.b7 (show g + 7 ≠ g + 6 by omega) u⟩
theorem Chap.set7 {g : Nat} {c c6 c7 c' : Array Value} {W : World} (h : Chap g c c6 c7 W) (i : Nat) (u : Value) (e : c7.setIfInBounds i u = c') : Chap g c c6 c' (W.setCell ⟨g + 7, i, none⟩ u) :=
  ⟨blk_far h.b1 (show g + 1 ≠ g + 7 by omega) u, blk_far h.b3 (show g + 3 ≠ g + 7 by omega) u, blk_far h.b5 (show g + 5 ≠ g + 7 by omega) u, blk_far h.b6 (show g + 6 ≠ g + 7 by omega) u, blk_put h.b7 i u e⟩
abbrev box2 (g : Nat) : Obj := .cells #[.slice (some ⟨g + 5, 0, none⟩) 2 2, .slice (some ⟨g + 7, 0, none⟩) 1 1] 35
/-- Three programs of the chapter, and where they are held. -/
structure Three (w : World) (g0 g1 g2 P : Nat) (s0 t1 : Int) (c2 : Array Value) (W : World) : Prop where
  below : Below w.heap.size w W
  ge : w.heap.size ≤ g0 ∧ g0 + 8 ≤ g1 ∧ g1 + 8 ≤ g2 ∧ g2 + 8 ≤ P
  c0 : Chap g0 ch3 (ch6 g0 0) (ch7 g0 s0) W
  c1 : Chap g1 ch3 (ch6 g1 t1) (ch7 g1 1) W
  c2 : Chap g2 ch3 (ch6 g2 0) c2 W
  p0 : W.heap[P]? = some (box2 g0)
  p1 : W.heap[P + 1]? = some (box2 g1)
  p2 : W.heap[P + 1 + 1]? = some (box2 g2)
theorem Three.step {w W W1 : World} {g0 g1 g2 P : Nat} {s0 t1 : Int} {c2 : Array Value} (h : Three w g0 g1 g2 P s0 t1 c2 W) (hb : Below W.heap.size W W1) : Three w g0 g1 g2 P s0 t1 c2 W1 :=
  ⟨below_then h.below h.below.size hb, h.ge, h.c0.below hb, h.c1.below hb, h.c2.below hb, blk_below h.p0 hb, blk_below h.p1 hb, blk_below h.p2 hb⟩
theorem Three.sig {w W : World} {g0 g1 g2 P : Nat} {s0 t1 : Int} {c2 : Array Value} (h : Three w g0 g1 g2 P s0 t1 c2 W) (x : Int) : Three w g0 g1 g2 P x t1 c2 (W.setCell ⟨g0 + 7, 0, none⟩ (.int .i64 x)) := by
  have hg := h.ge
  exact ⟨h.below.setCell (by show w.heap.size ≤ g0 + 7; omega) _, hg, h.c0.set7 0 _ rfl, h.c1.far (.inl (by show g0 + 7 < g1 + 1; omega)) _, h.c2.far (.inl (by show g0 + 7 < g2 + 1; omega)) _, blk_far h.p0 (by show P ≠ g0 + 7; omega) _, blk_far h.p1 (by show P + 1 ≠ g0 + 7; omega) _, blk_far h.p2 (by show P + 1 + 1 ≠ g0 + 7; omega) _⟩
theorem Three.jump {w W : World} {g0 g1 g2 P : Nat} {s0 t1 : Int} {c2 : Array Value} (h : Three w g0 g1 g2 P s0 t1 c2 W) (x : Int) : Three w g0 g1 g2 P s0 x c2 (W.setCell ⟨g1 + 6, 8, none⟩ (.int .i64 x)) := by
  have hg := h.ge
  exact ⟨h.below.setCell (by show w.heap.size ≤ g1 + 6; omega) _, hg, h.c0.far (.inr (by show g0 + 8 ≤ g1 + 6; omega)) _, h.c1.set6 8 _ rfl, h.c2.far (.inl (by show g1 + 6 < g2 + 1; omega)) _, blk_far h.p0 (by show P ≠ g1 + 6; omega) _, blk_far h.p1 (by show P + 1 ≠ g1 + 6; omega) _, blk_far h.p2 (by show P + 1 + 1 ≠ g1 + 6; omega) _⟩
theorem Three.none_ {w W : World} {g0 g1 g2 P : Nat} {s0 t1 : Int} (h : Three w g0 g1 g2 P s0 t1 (ch7 g2 1) W) : Three w g0 g1 g2 P s0 t1 #[.int .i64 1, .slice none 0 0] (W.setCell ⟨g2 + 7, 1, none⟩ (.slice none 0 0)) := by
  have hg := h.ge
  exact ⟨h.below.setCell (by show w.heap.size ≤ g2 + 7; omega) _, hg, h.c0.far (.inr (by show g0 + 8 ≤ g2 + 7; omega)) _, h.c1.far (.inr (by show g1 + 8 ≤ g2 + 7; omega)) _, h.c2.set7 1 _ rfl, blk_far h.p0 (by show P ≠ g2 + 7; omega) _, blk_far h.p1 (by show P + 1 ≠ g2 + 7; omega) _, blk_far h.p2 (by show P + 1 + 1 ≠ g2 + 7; omega) _⟩
set_option maxHeartbeats 16000000 in
theorem names_walk (w : World) (hT : Tab w) : Calls Tryd.prog 5 #[] w fun e w' => e = .returned (.bool true) ∧ Below w.heap.size w w' := by
  have hu35 := Tryd.underlying35
  have hu24 := Tryd.underlying24
  have hu26 := Tryd.underlying26
  have hu58 := Tryd.underlying58
  have hu78 := Tryd.underlying78
  have hu55 := Tryd.underlying55
  have hm5 := mk5
  have hm17 := mk17
  have HT := Aside0.mk (fun (W : World) (hb : Below w.heap.size w W) => Tab_below hT hb)
  have HO := Aside0.mk (fun (a b c d e : Int) (hx : OddNo ⟨a, b, c, d, e, [], []⟩) (W : World) (hb : Below w.heap.size w W) => odd_bare a b c d e hx W (Tab_below hT hb))
  clear hT
  go_enter Tryd.func5, Tryd.ntmps5
  go_upto_region 1 with fail
  go_cut [1] (fun s1 wx => s1 = .bool true ∧ Aside0 (Below w.heap.size w wx))
  case first =>
    go_wp2_with fail
    refine (HO.out 0 0 0 0 0 odd1 _ (Below.refl _ _)).mono ?_
    rintro e w1 ⟨rfl, hb⟩
    have HB1 := Aside0.mk (below_then (Below.refl _ _) (Nat.le_refl _) hb)
    clear hb
    go_wp2_with fail
    refine (HO.out 23 0 0 0 0 odd2 _ HB1.out).mono ?_
    rintro e w2 ⟨rfl, hb⟩
    have HB2 := Aside0.mk (below_then HB1.out HB1.out.size hb)
    clear hb HB1
    go_wp2_with fail
    refine (HO.out 4 0 2 0 0 odd3 _ HB2.out).mono ?_
    rintro e w3 ⟨rfl, hb⟩
    have HB3 := Aside0.mk (below_then HB2.out HB2.out.size hb)
    clear hb HB2
    go_wp2_with fail
    refine (HO.out 1 0 1 0 0 odd4 _ HB3.out).mono ?_
    rintro e w4 ⟨rfl, hb⟩
    have HB4 := Aside0.mk (below_then HB3.out HB3.out.size hb)
    clear hb HB3
    go_wp2_with fail
    refine (HO.out 18 0 0 0 1 odd5 _ HB4.out).mono ?_
    rintro e w5 ⟨rfl, hb⟩
    have HB5 := Aside0.mk (below_then HB4.out HB4.out.size hb)
    clear hb HB4
    go_wp2_with fail
    refine (HO.out 14 0 0 0 8 odd6 _ HB5.out).mono ?_
    rintro e w6 ⟨rfl, hb⟩
    have HB6 := Aside0.mk (below_then HB5.out HB5.out.size hb)
    clear hb HB5
    go_wp2_with fail
    refine (HO.out 22 0 0 0 0 odd7 _ HB6.out).mono ?_
    rintro e w7 ⟨rfl, hb⟩
    have HB7 := Aside0.mk (below_then HB6.out HB6.out.size hb)
    clear hb HB6
    go_wp2_with fail
    have hb7 := below_alloc HB7.out (.cells #[.int .i64 0] 3)
    refine (odd_run ⟨22, 0, 0, 0, 0, [0], []⟩ odd8 (some ⟨w7.heap.size, 0, none⟩) none 1 0 _ (HT.out _ hb7) (Nat.le_refl _) (C_of_blk (Kd.int .i64) (xs := [0]) (inner := [.int .i64 0]) (blk_new w7 (.cells #[.int .i64 0] 3)) (by decide) (Reps_one rfl rfl)) (Nat.le_refl _) (Kd.C_nil _ _)).mono ?_
    rintro e w8 ⟨rfl, hb⟩
    have HB8 := Aside0.mk (below_then hb7 hb7.size hb)
    clear hb hb7 HB7
    go_wp2_with fail
    refine (HO.out 21 1 0 0 0 odd9 _ HB8.out).mono ?_
    rintro e w9 ⟨rfl, hb⟩
    have HB9 := Aside0.mk (below_then HB8.out HB8.out.size hb)
    clear hb HB8
    go_wp2_with fail
    refine (HO.out 4 2 0 0 0 odd10 _ HB9.out).mono ?_
    rintro e w10 ⟨rfl, hb⟩
    have HB10 := Aside0.mk (below_then HB9.out HB9.out.size hb)
    clear hb HB9
    go_wp2_with fail
    have hb10 := below_alloc HB10.out (.cells #[.int .i64 0, .int .i64 0, .int .i64 0, .int .i64 0, .int .i64 0] 3)
    refine (odd_run ⟨18, 0, 0, 0, 0, [0, 0, 0, 0, 0], []⟩ odd11 (some ⟨w10.heap.size, 0, none⟩) none 5 0 _ (HT.out _ hb10) (Nat.le_refl _) (C_of_blk (Kd.int .i64) (xs := [0, 0, 0, 0, 0]) (inner := [.int .i64 0, .int .i64 0, .int .i64 0, .int .i64 0, .int .i64 0]) (blk_new w10 (.cells #[.int .i64 0, .int .i64 0, .int .i64 0, .int .i64 0, .int .i64 0] 3)) (by decide) (Kd.reps_scalar (enc := Value.int .i64) [0, 0, 0, 0, 0])) (Nat.le_refl _) (Kd.C_nil _ _)).mono ?_
    rintro e w11 ⟨rfl, hb⟩
    have HB11 := Aside0.mk (below_then hb10 hb10.size hb)
    clear hb hb10 HB10
    go_wp2_with fail
    go_meet
    exact ⟨rfl, HB11⟩
  case rest =>
    obtain ⟨rfl, HB0⟩ := hcut
    clear HO hm5
    go_upto_region 2 with fail
    go_cut [2, 3, 4] (fun s2 s3 s4 wx => ∃ g0 g1 g2 P, s2 = .pointer (some ⟨P, 0, none⟩) ∧ s3 = .pointer (some ⟨P + 1, 0, none⟩) ∧ s4 = .pointer (some ⟨P + 1 + 1, 0, none⟩) ∧ Aside0 (Three w g0 g1 g2 P 1 0 (ch7 g2 1) wx))
    case first =>
      go_wp2_with fail
      refine (chap_blocks _).mono ?_
      rintro e w1 ⟨rfl, h1, b1⟩
      have HC1 := Aside0.mk h1
      have HB1 := Aside0.mk b1
      clear h1 b1
      go_wp2_with fail
      refine (chap_blocks _).mono ?_
      rintro e w2 ⟨rfl, h2, b2⟩
      have HC2 := Aside0.mk h2
      have HB2 := Aside0.mk b2
      clear h2 b2
      go_wp2_with fail
      refine (chap_blocks _).mono ?_
      rintro e w3 ⟨rfl, h3, b3⟩
      have HC3 := Aside0.mk h3
      have HB3 := Aside0.mk b3
      clear h3 b3
      go_wp2_with fail
      go_meet
      have hbw := below_then (below_then (below_then HB0.out HB0.out.size HB1.out) (Nat.le_trans HB0.out.size HB1.out.size) HB2.out) (Nat.le_trans (Nat.le_trans HB0.out.size HB1.out.size) HB2.out.size) HB3.out
      have h0 := HB0.out.size
      have h1 := blk_lt HC1.out.b7
      have h2 := blk_lt HC2.out.b7
      have h3 := blk_lt HC3.out.b7
      have hb3 := fun (x y z : Obj) => below_alloc (below_alloc (below_alloc (Below.refl w3.heap.size w3) x) y) z
      refine ⟨wc.heap.size, w1.heap.size, w2.heap.size, w3.heap.size, rfl, rfl, rfl, ⟨below_alloc (below_alloc (below_alloc hbw _) _) _, by omega, ((HC1.out.below HB2.out).below HB3.out).below (hb3 _ _ _), (HC2.out.below HB3.out).below (hb3 _ _ _), HC3.out.below (hb3 _ _ _), blk_alloc (blk_alloc (blk_new w3 _) _) _, blk_alloc (blk_at (size_at rfl _) _) _, blk_at (size_at (size_at rfl _) _) _⟩⟩
    case rest =>
      obtain ⟨g0, g1, g2, P, rfl, rfl, rfl, H3⟩ := hcut
      clear HB0
      go_upto_region 3 with fail
      go_cut [2] (fun s2 wx => s2 = .pointer (some ⟨P, 0, none⟩) ∧ Aside0 (Three w g0 g1 g2 P 0 0 (ch7 g2 1) wx))
      case first =>
        obtain ⟨p0, p1, -⟩ := blk2 H3.out.p0
        obtain ⟨y0, y1, f0, f1⟩ := blk2 H3.out.c0.b7
        go_wp2_with fail
        go_meet
        exact ⟨rfl, ⟨H3.out.sig 0⟩⟩
      case rest =>
        obtain ⟨rfl, H3⟩ := hcut
        go_upto_region 4 with fail
        go_cut [2] (fun s2 wx => s2 = .pointer (some ⟨P, 0, none⟩) ∧ Aside0 (Three w g0 g1 g2 P 0 1 (ch7 g2 1) wx))
        case first =>
          obtain ⟨p0, p1, -⟩ := blk2 H3.out.p1
          obtain ⟨y0, y1, -⟩ := blk2 H3.out.c1.b7
          have z8 := (blk_cell H3.out.c1.b6 8).trans (rfl : _ = some (Value.int .i64 0))
          have f8 := blk_frozen H3.out.c1.b6 8
          go_wp2_with fail
          go_meet
          exact ⟨rfl, ⟨H3.out.jump 1⟩⟩
        case rest =>
          obtain ⟨rfl, H3⟩ := hcut
          go_upto_region 5 with fail
          go_cut [2] (fun s2 wx => s2 = .pointer (some ⟨P, 0, none⟩) ∧ Aside0 (Three w g0 g1 g2 P 0 1 #[.int .i64 1, .slice none 0 0] wx))
          case first =>
            obtain ⟨p0, p1, -⟩ := blk2 H3.out.p2
            obtain ⟨y0, y1, f0, f1⟩ := blk2 H3.out.c2.b7
            go_wp2_with fail
            go_meet
            exact ⟨rfl, ⟨H3.out.none_⟩⟩
          case rest =>
            obtain ⟨rfl, H3⟩ := hcut
            go_wp2_with fail
            refine (chap_blocks _).mono ?_
            rintro e w1 ⟨rfl, hc, hb⟩
            have K1 := Aside0.mk (H3.out.step hb)
            have HC := Aside0.mk (shape_Regs.calls 40 (some ⟨wc.heap.size + 5, 0, none⟩) 2 chapT (some ⟨wc.heap.size + 7, 0, none⟩) 1 [⟨1, oddBs chapB 0⟩] 1 0 2 w1 hc.types (Nat.le_refl _) (hc.funcs rfl hc.blocks0) (Nat.le_refl _) (HT.out _ K1.out.below) regs_1)
            clear hb hc
            go_wp2_with fail
            refine HC.out.mono ?_
            rintro e w2 ⟨rfl, hb⟩
            have K2 := Aside0.mk (K1.out.step hb)
            clear hb HC
            go_wp2_with fail
            refine (chap_blocks _).mono ?_
            rintro e w3 ⟨rfl, hc, hb⟩
            have K3 := Aside0.mk (K2.out.step hb)
            have HC := Aside0.mk (shape_Place.calls 40 (some ⟨w2.heap.size + 5, 0, none⟩) 2 chapT (some ⟨w2.heap.size + 7, 0, none⟩) 1 [⟨1, oddBs chapB 0⟩] 0 2 0 0 2 w3 hc.types (Nat.le_refl _) (hc.funcs rfl hc.blocks0) (Nat.le_refl _) (HT.out _ K3.out.below) place_2)
            clear hb hc
            go_wp2_with fail
            refine HC.out.mono ?_
            rintro e w4 ⟨rfl, hb⟩
            have K4 := Aside0.mk (K3.out.step hb)
            clear hb HC
            clear K3
            go_wp2_with fail
            refine (chap_blocks _).mono ?_
            rintro e w5 ⟨rfl, hc, hb⟩
            have K5 := Aside0.mk (K4.out.step hb)
            have HC := Aside0.mk (shape_Reg.calls 40 (some ⟨w4.heap.size + 5, 0, none⟩) 2 chapT (some ⟨w4.heap.size + 7, 0, none⟩) 1 [⟨1, oddBs chapB 0⟩] 0 1 1 0 2 w5 hc.types (Nat.le_refl _) (hc.funcs rfl hc.blocks0) (Nat.le_refl _) (HT.out _ K5.out.below) reg_11)
            clear hb hc
            go_wp2_with fail
            refine HC.out.mono ?_
            rintro e w6 ⟨rfl, hb⟩
            have K6 := Aside0.mk (K5.out.step hb)
            clear hb HC
            clear K5
            go_wp2_with fail
            refine (fescuelaw06_alive.calls 40 true _ (HT.out _ K6.out.below) alive_40).mono ?_
            rintro e w7 ⟨rfl, hb⟩
            have K7 := Aside0.mk (K6.out.step hb)
            clear hb K6
            obtain ⟨p0, p1, -⟩ := blk2 K7.out.p0
            go_wp2_with fail
            refine (shape_Check.calls 40 (some ⟨g0 + 5, 0, none⟩) 2 chapT (some ⟨g0 + 7, 0, none⟩) 1 [⟨0, oddBs chapB 0⟩] 60 _ K7.out.c0.types (Nat.le_refl _) (K7.out.c0.funcs rfl K7.out.c0.blocks0) (Nat.le_refl _) (HT.out _ K7.out.below) chkP_0).mono ?_
            rintro e w8 ⟨rfl, hb⟩
            have K8 := Aside0.mk (K7.out.step hb)
            clear hb K7 p0 p1
            obtain ⟨p0, p1, -⟩ := blk2 K8.out.p1
            go_wp2_with fail
            refine (shape_Check.calls 40 (some ⟨g1 + 5, 0, none⟩) 2 chapT (some ⟨g1 + 7, 0, none⟩) 1 [⟨1, oddBs chapB 1⟩] 60 _ K8.out.c1.types (Nat.le_refl _) (K8.out.c1.funcs rfl K8.out.c1.blocks0) (Nat.le_refl _) (HT.out _ K8.out.below) chkQ_0).mono ?_
            rintro e w9 ⟨rfl, hb⟩
            have K9 := Aside0.mk (K8.out.step hb)
            clear hb K8 p0 p1
            obtain ⟨p0, p1, -⟩ := blk2 K9.out.p2
            go_wp2_with fail
            refine (shape_Check.calls 40 (some ⟨g2 + 5, 0, none⟩) 2 chapT (some ⟨g2 + 7, 0, none⟩) 1 [⟨1, []⟩] 60 _ K9.out.c2.types (Nat.le_refl _) K9.out.c2.bare (Nat.le_refl _) (HT.out _ K9.out.below) chkR_0).mono ?_
            rintro e w10 ⟨rfl, hb⟩
            have K10 := Aside0.mk (K9.out.step hb)
            clear hb K9 p0 p1
            go_wp2_with fail
            refine (shape_Check.calls 40 none 0 [] none 0 [] 60 _ (Kd.C_nil _ _) (Nat.le_refl _) (Kd.C_nil _ _) (Nat.le_refl _) (HT.out _ K10.out.below) chkE_0).mono ?_
            rintro e w11 ⟨rfl, hb⟩
            have K11 := Aside0.mk (K10.out.step hb)
            clear hb K10
            go_wp2_with fail
            have K := Aside0.mk (K11.out.step (below_alloc (Below.refl w11.heap.size w11) (.cells c17 78)))
            refine (shape_Check.calls 40 (some ⟨w11.heap.size, 0, none⟩) 17 (List.replicate 17 z78) none 0 [] 4 _ (reads17 (blk_new w11 (.cells c17 78))) (by simp) (Kd.C_nil _ _) (Nat.le_refl _) (HT.out _ K.out.below) chk17).mono ?_
            rintro e w12 ⟨rfl, hb⟩
            have K12 := Aside0.mk (K.out.step hb)
            clear hb K K11
            go_wp2_with fail
            go_ret
            exact ⟨rfl, K12.out.below⟩
/-- The law's answer. -/
def fescuelaw06_ShapeNames.f (_ : Nat) : Option Bool := some true
theorem fescuelaw06_ShapeNames.calls (k : Nat) (r : Bool) (w : World) (hT : Tab w) (h : fescuelaw06_ShapeNames.f k = some r) :
    Calls Tryd.prog 5 #[] w fun e w' => e = .returned (.bool r) ∧ Below w.heap.size w w' := by
  obtain rfl := Option.some.inj h
  exact names_walk w hT
end Go.Proofs.YtfjmpfecnemoiaaDoor.Q
