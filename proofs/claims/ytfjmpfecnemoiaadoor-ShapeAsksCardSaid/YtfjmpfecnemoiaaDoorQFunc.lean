/-
  The closures of shape.function and shape.Check, whatever the predicates within.
-/
import Derived.Test.YtfjmpfecnemoiaaDoorQCont
import Derived.Test.YtfjmpfecnemoiaaDoorQAll
import Derived.Test.YtfjmpfecnemoiaaDoorQx6
import Derived.Test.YtfjmpfecnemoiaaDoorQx16
import Derived.Laws.EntriesVeiled
import Derived.Test.YtfjmpfecnemoiaaDoorQBlk
namespace Go.Proofs.YtfjmpfecnemoiaaDoor.Q
open Go.RowKit Go.Proofs.YtfjmpfecnemoiaaDoorW.PrintWords Go.Proofs.YtfjmpfecnemoiaaDoorW.PrintLast Go.Proofs.YtfjmpfecnemoiaaDoorW.PrintMore
set_option linter.unusedVariables false
set_option linter.unusedSimpArgs false
set_option maxRecDepth 100000

section
theorem end_total (a0 a1 a2 a3 s0 s1 s2 s3 : Int) : ∃ b, shape_end.f a0 a1 a2 a3 s0 s1 s2 s3 = some b := by
  refine Option.isSome_iff_exists.1 ?_
  simp only [shape_end.f, below_some, Option.bind_some]
  repeat' split
  all_goals rfl
/-- May an end be? -/
def endB (s0 s1 s2 s3 : Int) (x : S26) : Bool := (shape_end.f x.f0 x.f1 x.f2 x.f3 s0 s1 s2 s3).getD false
theorem end_some (s0 s1 s2 s3 : Int) (x : S26) : shape_end.f x.f0 x.f1 x.f2 x.f3 s0 s1 s2 s3 = some (endB s0 s1 s2 s3 x) := by
  obtain ⟨b, hb⟩ := end_total x.f0 x.f1 x.f2 x.f3 s0 s1 s2 s3
  unfold endB
  rw [hb]
  rfl
/-- How many instructions there are. -/
def manyW (L : List S58) : Int := L.foldl (fun a b => wrap64 (a + (b.f0.length : Int))) 0
theorem wrapN {n : Nat} (h : n < 9223372036854775807) : wrap64 ((n : Int) + 1) = ((n + 1 : Nat) : Int) := by unfold wrap64; omega
theorem many_l0 (L : List S58) (hL : L.length ≤ 9223372036854775807) (d : Nat) : ∀ (k i : Nat) (s : Int), i + d = L.length → d < k → shape_many.l0 k s L (L.length : Int) (i : Int) = some ((L.drop i).foldl (fun a b => wrap64 (a + (b.f0.length : Int))) s) := by
  induction d with
  | zero =>
    intro k i s hi hk
    obtain ⟨k, rfl⟩ : ∃ m, k = m + 1 := ⟨k - 1, by omega⟩
    rw [shape_many.l0, if_neg (by omega), List.drop_eq_nil_of_le (by omega)]
    rfl
  | succ d ih =>
    intro k i s hi hk
    obtain ⟨k, rfl⟩ : ∃ m, k = m + 1 := ⟨k - 1, by omega⟩
    rw [shape_many.l0, if_pos (by omega), if_pos (by omega), if_pos (by omega), wrapN (by omega), ih k (i + 1) _ (by omega) (by omega), List.drop_eq_getElem_cons (show i < L.length by omega), rdT58_at (show i < L.length by omega)]
    rfl
theorem many_some (f : Int) (L : List S58) (hL : L.length ≤ 9223372036854775807) (k : Nat) (hk : L.length < k) : shape_many.f k f L = some (manyW L) := by
  unfold shape_many.f manyW
  exact many_l0 L hL L.length k 0 0 (by omega) hk
end

theorem Pred24.step {g : Nat} {lb : Array Value} {p : S24 → Bool} {xs : List S24} {W W1 : World} (h : Pred24 g lb p xs W) (hb : Below W.heap.size W W1) : Pred24 g lb p xs W1 :=
  fun W' x A5 c5 A6 c6 hb' hm => h W' x A5 c5 A6 c6 (below_then hb hb.size hb') hm
theorem Pred58.step {g : Nat} {lb : Array Value} {p : S58 → Bool} {xs : List S58} {W W1 : World} (h : Pred58 g lb p xs W) (hb : Below W.heap.size W W1) : Pred58 g lb p xs W1 :=
  fun W' x A0 c0 hb' hm => h W' x A0 c0 (below_then hb hb.size hb') hm
theorem Pred55.step {g : Nat} {lb : Array Value} {p : S55 → Bool} {xs : List S55} {W W1 : World} (h : Pred55 g lb p xs W) (hb : Below W.heap.size W W1) : Pred55 g lb p xs W1 :=
  fun W' x A1 c1 hb' hm => h W' x A1 c1 (below_then hb hb.size hb') hm

set_option maxHeartbeats 2000000 in
theorem blk_calls (bo bs : Nat) (s0 s1 s2 s3 : Int) (p : S24 → Bool) (y : S58) (A0 : Option Addr) (c0 : Nat) (W : World) (ho : W.cell? ⟨bo, 0, none⟩ = some (.func (.func 72) #[] #[.pointer (some ⟨bs, 0, none⟩)]))
    (d0 : W.cell? ⟨bs, 0, none⟩ = some (.int .i64 s0)) (d1 : W.cell? ⟨bs, 1, none⟩ = some (.int .i64 s1)) (d2 : W.cell? ⟨bs, 2, none⟩ = some (.int .i64 s2)) (d3 : W.cell? ⟨bs, 3, none⟩ = some (.int .i64 s3))
    (hc0 : y.f0.length ≤ c0) (hr0 : k24.C W A0 y.f0.length y.f0) (hodd : Pred24 72 #[.pointer (some ⟨bs, 0, none⟩)] p y.f0 W) :
    Calls Tryd.prog 75 #[.agg #[.slice A0 y.f0.length c0, .int .u8 y.f1.f0, .int .i64 y.f1.f1, .int .i64 y.f1.f2, .int .i64 y.f1.f3], .pointer (some ⟨bo, 0, none⟩), .pointer (some ⟨bs, 0, none⟩)] W fun e w' => e = .returned (.bool (y.f0.any p || !endB s0 s1 s2 s3 y.f1)) ∧ Below W.heap.size W w' := by
  have hu58 := Tryd.underlying58
  have hu26 := Tryd.underlying26
  have hu101 := Tryd.underlying101
  have hcont := fun (W' : World) (hb : Below W.heap.size W W') => contains24_calls 72 #[.pointer (some ⟨bs, 0, none⟩)] (enters_of Tryd.func72 (by kernel_rfl) rfl) p A0 c0 y.f0 W' (Kd.C_below hr0 hb) (hodd.step hb)
  have hend := fun (W' : World) => shape_end.calls y.f1.f0 y.f1.f1 y.f1.f2 y.f1.f3 s0 s1 s2 s3 _ W' (end_some s0 s1 s2 s3 y.f1)
  have HC := Aside0.mk hcont
  have HE := Aside0.mk hend
  have hblk := World.block_lt_of_cell? W _ ho
  have hbls := World.block_lt_of_cell? W _ d0
  clear hcont hend hr0 hodd hc0
  cases hq : y.f0.any p
  · cases he : endB s0 s1 s2 s3 y.f1
    all_goals
      have HQ := Aside0.mk hq
      have HX := Aside0.mk he
      clear hq he
      go_enter Tryd.func75, Tryd.ntmps75
      go_wp2_with fail
      refine (HC.out _ (below_alloc (Below.refl _ _) _)).mono ?_
      rw [HQ.out]
      rintro e w' ⟨rfl, hb⟩
      have HB := Aside0.mk (below_then (below_alloc (Below.refl W.heap.size W) _) (by simp) hb)
      obtain ⟨e0, e1, e2, e3, e4, _, _, _, _, _⟩ := blk5 (blk_below (blk_new W (.cells #[.slice A0 y.f0.length c0, .int .u8 y.f1.f0, .int .i64 y.f1.f1, .int .i64 y.f1.f2, .int .i64 y.f1.f3] 58)) hb)
      have g0 := (HB.out.cell (p := ⟨bs, 0, none⟩) hbls).trans d0
      have g1 := (HB.out.cell (p := ⟨bs, 1, none⟩) hbls).trans d1
      have g2 := (HB.out.cell (p := ⟨bs, 2, none⟩) hbls).trans d2
      have g3 := (HB.out.cell (p := ⟨bs, 3, none⟩) hbls).trans d3
      clear hb ho d0 d1 d2 d3 hblk hbls HC
      go_wp2_with fail
      refine (HE.out _).mono ?_
      rw [HX.out]
      rintro e w2 ⟨rfl, hb⟩
      have HB2 := Aside0.mk (below_then HB.out HB.out.size hb)
      clear hb g0 g1 g2 g3 e0 e1 e2 e3 e4
      go_wp2_with fail
      go_ret
      exact ⟨rfl, HB2.out⟩
  · have HQ := Aside0.mk hq
    clear hq
    go_enter Tryd.func75, Tryd.ntmps75
    go_wp2_with fail
    refine (HC.out _ (below_alloc (Below.refl _ _) _)).mono ?_
    rw [HQ.out]
    rintro e w' ⟨rfl, hb⟩
    have HB := Aside0.mk (below_then (below_alloc (Below.refl W.heap.size W) _) (by simp) hb)
    clear hb ho d0 d1 d2 d3 hblk hbls
    go_wp2_with fail
    go_ret
    exact ⟨rfl, HB.out⟩
end Go.Proofs.YtfjmpfecnemoiaaDoor.Q
