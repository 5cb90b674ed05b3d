/-
  fescuelaw06.odd: what shape.Check answers of the chapter's program with another instruction in the place of its second one.
-/
import Derived.Test.YtfjmpfecnemoiaaDoorQChap
import Derived.StillTailTactics
namespace Go.Proofs.YtfjmpfecnemoiaaDoor.Q
open Go.RowKit Go.Proofs.YtfjmpfecnemoiaaDoorW.PrintWords Go.Proofs.YtfjmpfecnemoiaaDoorW.PrintLast Go.Proofs.YtfjmpfecnemoiaaDoorW.PrintMore
set_option linter.unusedVariables false
set_option linter.unusedSimpArgs false
set_option maxRecDepth 100000

/-- A block whose cells read as a row's elements. -/
theorem C_of_blk {α : Type} (d : Kd α) {e : Nat} {w : World} {g : Nat} {xs : List α} {inner : List Value} (hb : w.heap[g]? = some (.cells inner.toArray e (0, 0))) (hm : xs.length ≤ 1000) (hrep : Reps (d.K w) d.sz xs inner) : d.C w (some ⟨g, 0, none⟩) xs.length xs := by
  refine ⟨rfl, by omega, fun _ => ⟨_, rfl, fun j p hj => ⟨(inner.drop (j * d.sz)).take d.sz, ?_, hrep.2 j p hj, fun i u hu => ?_⟩⟩⟩
  · have hl := (List.getElem?_eq_some_iff.1 hj).1
    have h1 : j * d.sz + d.sz ≤ inner.length := by rw [hrep.1, ← Nat.succ_mul]; exact Nat.mul_le_mul_right _ hl
    rw [List.length_take, List.length_drop]
    omega
  · rw [add_plain, blk_cell hb]
    rw [List.getElem?_take] at hu
    split at hu
    · rw [List.getElem?_drop] at hu
      simpa using hu
    · cases hu

/-- The blocks of the chapter's program, from g on; the cells of its second instruction, of its blocks, of its function. -/
structure Chap (g : Nat) (c c6 c7 : Array Value) (W : World) : Prop where
  b1 : W.heap[g + 1]? = some (.cells #[.int .u8 1, .int .i64 0, .int .i64 0, .int .i64 0, .int .i64 5, .slice none 0 0, .slice none 0 0] 24 (0, 0))
  b3 : W.heap[g + 3]? = some (.cells c 24 (0, 0))
  b5 : W.heap[g + 5]? = some (.cells #[.int .u8 1, .int .i64 0, .int .i64 0, .slice none 0 0, .int .u8 3, .int .i64 0, .int .i64 0, .slice none 0 0] 78 (0, 0))
  b6 : W.heap[g + 6]? = some (.cells c6 58 (0, 0))
  b7 : W.heap[g + 7]? = some (.cells c7 55 (0, 0))
abbrev ch3 : Array Value := #[.int .u8 4, .int .i64 0, .int .i64 0, .int .i64 0, .int .i64 0, .slice none 0 0, .slice none 0 0]
abbrev ch6 (g : Nat) (tt : Int) : Array Value := #[.slice (some ⟨g + 1, 0, none⟩) 1 1, .int .u8 1, .int .i64 0, .int .i64 1, .int .i64 0, .slice (some ⟨g + 3, 0, none⟩) 1 1, .int .u8 3, .int .i64 1, .int .i64 tt, .int .i64 0]
abbrev ch7 (g : Nat) (sig : Int) : Array Value := #[.int .i64 sig, .slice (some ⟨g + 6, 0, none⟩) 2 2]
theorem Chap.below {g : Nat} {c c6 c7 : Array Value} {W W1 : World} (h : Chap g c c6 c7 W) (hb : Below W.heap.size W W1) : Chap g c c6 c7 W1 := ⟨blk_below h.b1 hb, blk_below h.b3 hb, blk_below h.b5 hb, blk_below h.b6 hb, blk_below h.b7 hb⟩

set_option maxHeartbeats 2000000 in
theorem chap_blocks (w : World) : Calls Tryd.prog 25 #[] w fun e w' => e = .returned (.agg #[.slice (some ⟨w.heap.size + 5, 0, none⟩) 2 2, .slice (some ⟨w.heap.size + 7, 0, none⟩) 1 1]) ∧ Chap w.heap.size ch3 (ch6 w.heap.size 0) (ch7 w.heap.size 1) w' ∧ Below w.heap.size w w' := by
  have hu35 := Tryd.underlying35
  have hu24 := Tryd.underlying24
  have hu26 := Tryd.underlying26
  have hu58 := Tryd.underlying58
  have hu78 := Tryd.underlying78
  have hu55 := Tryd.underlying55
  go_enter Tryd.func25, Tryd.ntmps25
  go_wp2
  have s0 : w.heap.size = w.heap.size := rfl
  refine bodyPost_ret (results_cell_row rfl _ _ w.heap.size 35 #[.slice (some ⟨w.heap.size + 1 + 1 + 1 + 1 + 1, 0, none⟩) 2 2, .slice (some ⟨w.heap.size + 1 + 1 + 1 + 1 + 1 + 1 + 1, 0, none⟩) 1 1] (0, 0) _ rfl (blk_alloc (blk_alloc (blk_alloc (blk_alloc (blk_alloc (blk_alloc (blk_alloc (blk_at rfl _) _) _) _) _) _) _) _) Tryd.underlying35 rfl (by kernel_rfl)) rfl ?_
  have b1 := fun (o0 o1 o2 o3 o4 o5 o6 o7 : Obj) => (blk_alloc (blk_alloc (blk_alloc (blk_alloc (blk_alloc (blk_alloc (blk_at (size_at s0 o0) o1) o2) o3) o4) o5) o6) o7)
  have b3 := fun (o0 o1 o2 o3 o4 o5 o6 o7 : Obj) => (blk_alloc (blk_alloc (blk_alloc (blk_alloc (blk_at (size_at (size_at (size_at s0 o0) o1) o2) o3) o4) o5) o6) o7)
  have b5 := fun (o0 o1 o2 o3 o4 o5 o6 o7 : Obj) => (blk_alloc (blk_alloc (blk_at (size_at (size_at (size_at (size_at (size_at s0 o0) o1) o2) o3) o4) o5) o6) o7)
  have b6 := fun (o0 o1 o2 o3 o4 o5 o6 o7 : Obj) => (blk_alloc (blk_at (size_at (size_at (size_at (size_at (size_at (size_at s0 o0) o1) o2) o3) o4) o5) o6) o7)
  have b7 := fun (o0 o1 o2 o3 o4 o5 o6 o7 : Obj) => (blk_at (size_at (size_at (size_at (size_at (size_at (size_at (size_at s0 o0) o1) o2) o3) o4) o5) o6) o7)
  exact ⟨rfl, ⟨b1 _ _ _ _ _ _ _ _, b3 _ _ _ _ _ _ _ _, b5 _ _ _ _ _ _ _ _, b6 _ _ _ _ _ _ _ _, b7 _ _ _ _ _ _ _ _⟩, below_alloc (below_alloc (below_alloc (below_alloc (below_alloc (below_alloc (below_alloc (below_alloc (Below.refl _ _) _) _) _) _) _) _) _) _⟩

/-- The chapter's program with another second instruction, another jump of its last block. -/
abbrev oddBs (x : S24) (tt : Int) : List S58 := [⟨[chapA], ⟨1, 0, 1, 0⟩⟩, ⟨[x], ⟨3, 1, tt, 0⟩⟩]
abbrev insC (x : S24) (A5 : Option Addr) (c5 : Nat) (A6 : Option Addr) (c6 : Nat) : Array Value := #[.int .u8 x.f0, .int .i64 x.f1, .int .i64 x.f2, .int .i64 x.f3, .int .i64 x.f4, .slice A5 x.f5.length c5, .slice A6 x.f6.length c6]
theorem Chap.types {g : Nat} {c c6 c7 : Array Value} {W : World} (h : Chap g c c6 c7 W) : Kd.C k78 W (some ⟨g + 5, 0, none⟩) 2 chapT :=
  C_of_blk k78 (xs := chapT) (inner := [.int .u8 1, .int .i64 0, .int .i64 0, .slice none 0 0] ++ [.int .u8 3, .int .i64 0, .int .i64 0, .slice none 0 0]) h.b5 (by decide) (Reps_two (k78_mk W ⟨1, 0, 0, []⟩ (Nat.le_refl _) (Kd.C_nil _ _)) rfl (k78_mk W ⟨3, 0, 0, []⟩ (Nat.le_refl _) (Kd.C_nil _ _)) rfl)
theorem Chap.blocks {g : Nat} {x : S24} {tt : Int} {A5 A6 : Option Addr} {c5 c6 : Nat} {c7 : Array Value} {W : World} (h : Chap g (insC x A5 c5 A6 c6) (ch6 g tt) c7 W)
    (l5 : x.f5.length ≤ c5) (r5 : (Kd.int .i64).C W A5 x.f5.length x.f5) (l6 : x.f6.length ≤ c6) (r6 : (Kd.int .i64).C W A6 x.f6.length x.f6) : Kd.C k58 W (some ⟨g + 6, 0, none⟩) 2 (oddBs x tt) :=
  C_of_blk k58 (xs := oddBs x tt) (inner := [.slice (some ⟨g + 1, 0, none⟩) 1 1, .int .u8 1, .int .i64 0, .int .i64 1, .int .i64 0] ++ [.slice (some ⟨g + 3, 0, none⟩) 1 1, .int .u8 3, .int .i64 1, .int .i64 tt, .int .i64 0]) h.b6 (by show 2 ≤ 1000; omega)
    (Reps_two (k58_mk W ⟨[chapA], ⟨1, 0, 1, 0⟩⟩ (Nat.le_refl _) (C_of_blk k24 (xs := [chapA]) (inner := [.int .u8 1, .int .i64 0, .int .i64 0, .int .i64 0, .int .i64 5, .slice none 0 0, .slice none 0 0]) h.b1 (by decide) (Reps_one (k24_mk W chapA (Nat.le_refl _) (Kd.C_nil _ _) (Nat.le_refl _) (Kd.C_nil _ _)) rfl))) rfl
      (k58_mk W ⟨[x], ⟨3, 1, tt, 0⟩⟩ (Nat.le_refl _) (C_of_blk k24 (xs := [x]) (inner := [.int .u8 x.f0, .int .i64 x.f1, .int .i64 x.f2, .int .i64 x.f3, .int .i64 x.f4, .slice A5 x.f5.length c5, .slice A6 x.f6.length c6]) h.b3 (by show 1 ≤ 1000; omega) (Reps_one (k24_mk W x l5 r5 l6 r6) rfl))) rfl)
theorem Chap.blocks0 {g : Nat} {tt : Int} {c7 : Array Value} {W : World} (h : Chap g ch3 (ch6 g tt) c7 W) : Kd.C k58 W (some ⟨g + 6, 0, none⟩) 2 (oddBs chapB tt) :=
  h.blocks (x := chapB) (Nat.le_refl _) (Kd.C_nil _ _) (Nat.le_refl _) (Kd.C_nil _ _)
theorem Chap.funcs {g : Nat} {sig : Int} {c c6 : Array Value} {W : World} {bs : List S58} (h : Chap g c c6 (ch7 g sig) W) (hl : bs.length = 2) (hb : Kd.C k58 W (some ⟨g + 6, 0, none⟩) 2 bs) : Kd.C k55 W (some ⟨g + 7, 0, none⟩) 1 [⟨sig, bs⟩] :=
  C_of_blk k55 (xs := [⟨sig, bs⟩]) (inner := [.int .i64 sig, .slice (some ⟨g + 6, 0, none⟩) 2 2]) h.b7 (by show 1 ≤ 1000; omega) (Reps_one (by
    have := k55_mk W ⟨sig, bs⟩ (A1 := some ⟨g + 6, 0, none⟩) (c1 := 2) (by rw [hl]; exact Nat.le_refl _) (by rw [hl]; exact hb)
    rwa [hl] at this) rfl)
theorem Chap.bare {g : Nat} {sig : Int} {c c6 : Array Value} {W : World} (h : Chap g c c6 #[.int .i64 sig, .slice none 0 0] W) : Kd.C k55 W (some ⟨g + 7, 0, none⟩) 1 [⟨sig, []⟩] :=
  C_of_blk k55 (xs := [⟨sig, []⟩]) (inner := [.int .i64 sig, .slice none 0 0]) h.b7 (by show 1 ≤ 1000; omega) (Reps_one (k55_mk W ⟨sig, []⟩ (Nat.le_refl _) (Kd.C_nil _ _)) rfl)

/-- Seven cells written, one behind the other. -/
theorem set7 {W : World} {g t : Nat} {a0 a1 a2 a3 a4 a5 a6 v0 v1 v2 v3 v4 v5 v6 : Value} (h : W.heap[g]? = some (.cells #[a0, a1, a2, a3, a4, a5, a6] t (0, 0))) : (((((((W.setCell ⟨g, 0, none⟩ v0).setCell ⟨g, 1, none⟩ v1).setCell ⟨g, 2, none⟩ v2).setCell ⟨g, 3, none⟩ v3).setCell ⟨g, 4, none⟩ v4).setCell ⟨g, 5, none⟩ v5).setCell ⟨g, 6, none⟩ v6).drew.heap[g]? = some (.cells #[v0, v1, v2, v3, v4, v5, v6] t (0, 0)) := by
  have h0 : (W.setCell ⟨g, 0, none⟩ v0).heap[g]? = some (.cells #[v0, a1, a2, a3, a4, a5, a6] t (0, 0)) := blk_put h 0 v0 rfl
  have h1 : ((W.setCell ⟨g, 0, none⟩ v0).setCell ⟨g, 1, none⟩ v1).heap[g]? = some (.cells #[v0, v1, a2, a3, a4, a5, a6] t (0, 0)) := blk_put h0 1 v1 rfl
  have h2 : (((W.setCell ⟨g, 0, none⟩ v0).setCell ⟨g, 1, none⟩ v1).setCell ⟨g, 2, none⟩ v2).heap[g]? = some (.cells #[v0, v1, v2, a3, a4, a5, a6] t (0, 0)) := blk_put h1 2 v2 rfl
  have h3 : ((((W.setCell ⟨g, 0, none⟩ v0).setCell ⟨g, 1, none⟩ v1).setCell ⟨g, 2, none⟩ v2).setCell ⟨g, 3, none⟩ v3).heap[g]? = some (.cells #[v0, v1, v2, v3, a4, a5, a6] t (0, 0)) := blk_put h2 3 v3 rfl
  have h4 : (((((W.setCell ⟨g, 0, none⟩ v0).setCell ⟨g, 1, none⟩ v1).setCell ⟨g, 2, none⟩ v2).setCell ⟨g, 3, none⟩ v3).setCell ⟨g, 4, none⟩ v4).heap[g]? = some (.cells #[v0, v1, v2, v3, v4, a5, a6] t (0, 0)) := blk_put h3 4 v4 rfl
  have h5 : ((((((W.setCell ⟨g, 0, none⟩ v0).setCell ⟨g, 1, none⟩ v1).setCell ⟨g, 2, none⟩ v2).setCell ⟨g, 3, none⟩ v3).setCell ⟨g, 4, none⟩ v4).setCell ⟨g, 5, none⟩ v5).heap[g]? = some (.cells #[v0, v1, v2, v3, v4, v5, a6] t (0, 0)) := blk_put h4 5 v5 rfl
  have h6 : (((((((W.setCell ⟨g, 0, none⟩ v0).setCell ⟨g, 1, none⟩ v1).setCell ⟨g, 2, none⟩ v2).setCell ⟨g, 3, none⟩ v3).setCell ⟨g, 4, none⟩ v4).setCell ⟨g, 5, none⟩ v5).setCell ⟨g, 6, none⟩ v6).heap[g]? = some (.cells #[v0, v1, v2, v3, v4, v5, v6] t (0, 0)) := blk_put h5 6 v6 rfl
  exact blk_drew h6
theorem far7 {W : World} {g k t : Nat} {cs : Array Value} {v0 v1 v2 v3 v4 v5 v6 : Value} (hk : k ≠ g) (h : W.heap[k]? = some (.cells cs t (0, 0))) : (((((((W.setCell ⟨g, 0, none⟩ v0).setCell ⟨g, 1, none⟩ v1).setCell ⟨g, 2, none⟩ v2).setCell ⟨g, 3, none⟩ v3).setCell ⟨g, 4, none⟩ v4).setCell ⟨g, 5, none⟩ v5).setCell ⟨g, 6, none⟩ v6).drew.heap[k]? = some (.cells cs t (0, 0)) := blk_drew (blk_far (blk_far (blk_far (blk_far (blk_far (blk_far (blk_far h (p := ⟨g, 0, none⟩) hk v0) (p := ⟨g, 1, none⟩) hk v1) (p := ⟨g, 2, none⟩) hk v2) (p := ⟨g, 3, none⟩) hk v3) (p := ⟨g, 4, none⟩) hk v4) (p := ⟨g, 5, none⟩) hk v5) (p := ⟨g, 6, none⟩) hk v6)
theorem below7 {w W : World} {g : Nat} {v0 v1 v2 v3 v4 v5 v6 : Value} (hg : w.heap.size ≤ g) (h : Below w.heap.size w W) : Below w.heap.size w (((((((W.setCell ⟨g, 0, none⟩ v0).setCell ⟨g, 1, none⟩ v1).setCell ⟨g, 2, none⟩ v2).setCell ⟨g, 3, none⟩ v3).setCell ⟨g, 4, none⟩ v4).setCell ⟨g, 5, none⟩ v5).setCell ⟨g, 6, none⟩ v6).drew := (((((((h.setCell (p := ⟨g, 0, none⟩) hg v0).setCell (p := ⟨g, 1, none⟩) hg v1).setCell (p := ⟨g, 2, none⟩) hg v2).setCell (p := ⟨g, 3, none⟩) hg v3).setCell (p := ⟨g, 4, none⟩) hg v4).setCell (p := ⟨g, 5, none⟩) hg v5).setCell (p := ⟨g, 6, none⟩) hg v6).drew

set_option maxHeartbeats 4000000 in
theorem odd_walk (x : S24) (A5 A6 : Option Addr) (c5 c6 : Nat) (w : World) (hk : ∀ (g : Nat) (W : World), Below w.heap.size w W → Chap g (insC x A5 c5 A6 c6) (ch6 g 0) (ch7 g 1) W →
      Calls Tryd.prog 27 #[.agg #[.slice (some ⟨g + 5, 0, none⟩) 2 2, .slice (some ⟨g + 7, 0, none⟩) 1 1]] W fun e w' => e = .returned (.int .i64 60) ∧ Below W.heap.size W w') :
    Calls Tryd.prog 24 #[.agg #[.int .u8 x.f0, .int .i64 x.f1, .int .i64 x.f2, .int .i64 x.f3, .int .i64 x.f4, .slice A5 x.f5.length c5, .slice A6 x.f6.length c6]] w fun e w' => e = .returned (.bool true) ∧ Below w.heap.size w w' := by
  have hu35 := Tryd.underlying35
  have hu24 := Tryd.underlying24
  have hu58 := Tryd.underlying58
  have hu55 := Tryd.underlying55
  have HK := Aside0.mk hk
  clear hk
  go_enter Tryd.func24, Tryd.ntmps24
  go_wp2_with fail
  refine (chap_blocks _).mono ?_
  rintro e w1 ⟨rfl, hch, hb⟩
  rw [show (w.alloc (.cells #[.int .u8 x.f0, .int .i64 x.f1, .int .i64 x.f2, .int .i64 x.f3, .int .i64 x.f4, .slice A5 x.f5.length c5, .slice A6 x.f6.length c6] 24)).heap.size = w.heap.size + 1 from by simp] at hch ⊢
  have hx := blk_below (blk_new w (.cells #[.int .u8 x.f0, .int .i64 x.f1, .int .i64 x.f2, .int .i64 x.f3, .int .i64 x.f4, .slice A5 x.f5.length c5, .slice A6 x.f6.length c6] 24)) hb
  have hB := below_alloc (below_then (below_alloc (Below.refl w.heap.size w) _) (by simp) hb) (.cells #[.slice (some ⟨w.heap.size + 1 + 5, 0, none⟩) 2 2, .slice (some ⟨w.heap.size + 1 + 7, 0, none⟩) 1 1] 35)
  have hp := blk_new w1 (.cells #[.slice (some ⟨w.heap.size + 1 + 5, 0, none⟩) 2 2, .slice (some ⟨w.heap.size + 1 + 7, 0, none⟩) 1 1] 35)
  replace hx := blk_alloc hx (.cells #[.slice (some ⟨w.heap.size + 1 + 5, 0, none⟩) 2 2, .slice (some ⟨w.heap.size + 1 + 7, 0, none⟩) 1 1] 35)
  replace hch := hch.below (below_alloc (Below.refl w1.heap.size w1) (.cells #[.slice (some ⟨w.heap.size + 1 + 5, 0, none⟩) 2 2, .slice (some ⟨w.heap.size + 1 + 7, 0, none⟩) 1 1] 35))
  clear hb
  go_upto_region 2 with fail
  generalize w1.alloc (.cells #[.slice (some ⟨w.heap.size + 1 + 5, 0, none⟩) 2 2, .slice (some ⟨w.heap.size + 1 + 7, 0, none⟩) 1 1] 35) = W2 at *
  generalize hg : w.heap.size + 1 = g at *
  generalize w1.heap.size = P at *
  have HB := Aside0.mk hB
  have HP := Aside0.mk hp
  have HG := Aside0.mk hg
  have HCH := Aside0.mk hch
  obtain ⟨x0, x1, x2, x3, x4, x5, x6, -⟩ := blk7 hx
  obtain ⟨p0, p1, -⟩ := blk2 hp
  obtain ⟨z0, z1, z2, z3, z4, z5, z6, q0, q1, q2, q3, q4, q5, q6⟩ := blk7 hch.b3
  have y7 := (blk_cell hch.b7 1).trans (rfl : _ = some (Value.slice (some ⟨g + 6, 0, none⟩) 2 2))
  have y6 := (blk_cell hch.b6 5).trans (rfl : _ = some (Value.slice (some ⟨g + 3, 0, none⟩) 1 1))
  clear hx hch hB hp hg
  go_cut [3] (fun s3 wx => s3 = .pointer (some ⟨P, 0, none⟩) ∧ Aside0 (Below w.heap.size w wx) ∧ Aside0 (wx.heap[P]? = some (.cells #[.slice (some ⟨g + 5, 0, none⟩) 2 2, .slice (some ⟨g + 7, 0, none⟩) 1 1] 35 (0, 0))) ∧ Aside0 (Chap g (insC x A5 c5 A6 c6) (ch6 g 0) (ch7 g 1) wx))
  case first =>
    go_still_tail 10, (by kernel_rfl)
    change wpList _ _ _ _ _ W2.drew
    go_wp2_with fail
    go_meet
    have hP : P ≠ g + 3 := fun e => by
      have h1 := HP.out
      rw [e, HCH.out.b3] at h1
      injection h1 with h1
      injection h1 with _ h1
      exact absurd h1 (by decide)
    exact ⟨rfl, ⟨below7 (by have := HG.out; omega) HB.out⟩, ⟨far7 hP HP.out⟩, ⟨far7 (by omega) HCH.out.b1, set7 HCH.out.b3, far7 (by omega) HCH.out.b5, far7 (by omega) HCH.out.b6, far7 (by omega) HCH.out.b7⟩⟩
  case rest =>
    clear x0 x1 x2 x3 x4 x5 x6 p0 p1 y7 y6 z0 z1 z2 z3 z4 z5 z6 q0 q1 q2 q3 q4 q5 q6
    obtain ⟨rfl, HB2, HP2, HC2⟩ := hcut
    obtain ⟨p0, p1, -⟩ := blk2 HP2.out
    go_wp2_with fail
    refine (HK.out g _ HB2.out HC2.out).mono ?_
    rintro e w3 ⟨rfl, hb3⟩
    have HB3 := Aside0.mk (below_then HB2.out HB2.out.size hb3)
    clear hb3 p0 p1 HK HC2
    go_wp2_with fail
    go_ret
    exact ⟨rfl, HB3.out⟩
end Go.Proofs.YtfjmpfecnemoiaaDoor.Q
