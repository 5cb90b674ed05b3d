/-
  shape.Same: whether two programs are the same.
-/
import Derived.Test.YtfjmpfecnemoiaaDoorQEqF
import Derived.Test.YtfjmpfecnemoiaaDoorQSame
import Derived.Test.YtfjmpfecnemoiaaDoorQx1
import Derived.Deep.DeepCutAuto
namespace Go.Proofs.YtfjmpfecnemoiaaDoor.Q
open Go.RowKit Go.Proofs.YtfjmpfecnemoiaaDoorW.PrintWords Go.Proofs.YtfjmpfecnemoiaaDoorW.PrintLast Go.Proofs.YtfjmpfecnemoiaaDoorW.PrintMore
set_option linter.unusedVariables false
set_option linter.unusedSimpArgs false
set_option maxRecDepth 100000

/-- Two lists of numbers; two instructions, ends, blocks, functions, programs. -/
def sameN (L M : List Int) : Bool := L == M
def sameX (x y : S24) : Bool := x.f0 == y.f0 && (x.f1 == y.f1 && (x.f2 == y.f2 && (x.f3 == y.f3 && (x.f4 == y.f4 && (sameN x.f5 y.f5 && sameN x.f6 y.f6)))))
def sameE (x y : S26) : Bool := x.f0 == y.f0 && (x.f1 == y.f1 && (x.f2 == y.f2 && x.f3 == y.f3))
def sameK (x y : S58) : Bool := sameE x.f1 y.f1 && all2 sameX x.f0 y.f0
def sameF (x y : S55) : Bool := x.f0 == y.f0 && all2 sameK x.f1 y.f1
def sameP (t : List S78) (f : List S55) (t' : List S78) (f' : List S55) : Bool := sameL t t' && all2 sameF f f'
theorem sameL_self : ∀ t : List S78, sameL t t = true
  | [] => rfl
  | x :: t => by rw [sameL, sameL_self t]; unfold sameT; simp
theorem sameX_self (x : S24) : sameX x x = true := by unfold sameX sameN; simp
theorem sameK_self (x : S58) : sameK x x = true := by unfold sameK sameE; rw [all2_self _ sameX_self]; simp
theorem sameF_self (x : S55) : sameF x x = true := by unfold sameF; rw [all2_self _ sameK_self]; simp
theorem sameP_self (t : List S78) (f : List S55) : sameP t f t f = true := by unfold sameP; rw [sameL_self, all2_self _ sameF_self]; rfl

theorem blkAt {W : World} {n : Nat} (h : W.heap.size = n) (o : Obj) : (W.alloc o).heap[n]? = some o := h ▸ blk_new W o
theorem sizeAt {W : World} {n : Nat} (h : W.heap.size = n) (o : Obj) : (W.alloc o).heap.size = n + 1 := by simp [h]
theorem eqn_calls (L M : List Int) (A B : Option Addr) (c d : Nat) (W : World) (hr : (Kd.int .i64).C W A L.length L) (hc : L.length ≤ c) (hr' : (Kd.int .i64).C W B M.length M) (hc' : M.length ≤ d) :
    Calls Tryd.prog 60 #[.slice A L.length c, .slice B M.length d] W fun e w' => e = .returned (.bool (sameN L M)) ∧ Drawn0 W w' :=
  slices_Equal_int_int.calls _ A c L B d M (sameN L M) W hr hc hr' hc' (equal_some _ _ hr.2.1)

set_option maxHeartbeats 4000000 in
theorem same59 (x y : S24) (A5 A6 B5 B6 : Option Addr) (c5 c6 d5 d6 : Nat) (W : World) (l5 : x.f5.length ≤ c5) (r5 : (Kd.int .i64).C W A5 x.f5.length x.f5) (l6 : x.f6.length ≤ c6) (r6 : (Kd.int .i64).C W A6 x.f6.length x.f6)
    (m5 : y.f5.length ≤ d5) (s5 : (Kd.int .i64).C W B5 y.f5.length y.f5) (m6 : y.f6.length ≤ d6) (s6 : (Kd.int .i64).C W B6 y.f6.length y.f6) :
    Calls Tryd.prog 59 #[.agg #[.int .u8 x.f0, .int .i64 x.f1, .int .i64 x.f2, .int .i64 x.f3, .int .i64 x.f4, .slice A5 x.f5.length c5, .slice A6 x.f6.length c6], .agg #[.int .u8 y.f0, .int .i64 y.f1, .int .i64 y.f2, .int .i64 y.f3, .int .i64 y.f4, .slice B5 y.f5.length d5, .slice B6 y.f6.length d6]] W fun e w' => e = .returned (.bool (sameX x y)) ∧ Below W.heap.size W w' := by
  have hu24 := Tryd.underlying24
  have HC5 := Aside0.mk (fun (V : World) (hb : Below W.heap.size W V) => eqn_calls x.f5 y.f5 A5 B5 c5 d5 V (Kd.C_below r5 hb) l5 (Kd.C_below s5 hb) m5)
  have HC6 := Aside0.mk (fun (V : World) (hb : Below W.heap.size W V) => eqn_calls x.f6 y.f6 A6 B6 c6 d6 V (Kd.C_below r6 hb) l6 (Kd.C_below s6 hb) m6)
  clear l5 r5 l6 r6 m5 s5 m6 s6
  go_enter Tryd.func59, Tryd.ntmps59
  go_upto_region 1 with fail
  go_cut [0, 1, 4] (fun _ _ s4 wx => ∃ q, s4 = .bool q ∧ Aside0 (q = sameX x y) ∧ Aside0 (Below W.heap.size W wx))
  case first =>
    go_wp2_with (first | (go_at_call_of 60 (Value.slice A5 x.f5.length c5); refine (HC5.out _ (below_alloc (below_alloc (Below.refl _ _) _) _)).mono ?_; rintro e w' ⟨rfl, ⟨m, rfl⟩⟩) | (go_at_call_of 60 (Value.slice A6 x.f6.length c6); refine (HC6.out _ (by first | exact below_alloc (below_alloc (Below.refl _ _) _) _ | exact pw_below_drewN (below_alloc (below_alloc (Below.refl _ _) _) _) _)).mono ?_; rintro e w' ⟨rfl, ⟨m, rfl⟩⟩))
    all_goals
      go_meet
      refine ⟨_, rfl, ⟨?_⟩, ⟨?_⟩⟩
      · simp [sameX, *]
      · first | exact below_alloc (below_alloc (Below.refl _ _) _) _ | exact pw_below_drewN (below_alloc (below_alloc (Below.refl _ _) _) _) _ | exact pw_below_drewN (pw_below_drewN (below_alloc (below_alloc (Below.refl _ _) _) _) _) _
  case rest =>
    obtain ⟨q, rfl, HQ, HB⟩ := hcut
    go_wp2_with fail
    go_ret
    exact ⟨by rw [HQ.out]; rfl, HB.out⟩
theorem eqE (d : Nat) (w : World) (x y : S26) :
    (Op.equalIn (d + 2) 26 (.agg #[.int .u8 x.f0, .int .i64 x.f1, .int .i64 x.f2, .int .i64 x.f3]) (.agg #[.int .u8 y.f0, .int .i64 y.f1, .int .i64 y.f2, .int .i64 y.f3])).run Tryd.prog w = .ok (sameE x y) w := eqA26 d w x.f0 y.f0 x.f1 y.f1 x.f2 y.f2 x.f3 y.f3
theorem pair59 (l m : List S24) (w : World) : Pair24 59 #[] sameX l m w :=
  fun W x y A5 c5 A6 c6 B5 d5 B6 d6 _ _ _ l5 r5 l6 r6 m5 s5 m6 s6 => same59 x y A5 A6 B5 B6 c5 c6 d5 d6 W l5 r5 l6 r6 m5 s5 m6 s6
section
attribute [local go_sem high] eqE
set_option maxHeartbeats 4000000 in
theorem same61 (bi : Nat) (x y : S58) (A0 B0 : Option Addr) (c0 d0 : Nat) (W : World) (hci : W.cell? ⟨bi, 0, none⟩ = some (.func (.func 59) #[] #[])) (l0 : x.f0.length ≤ c0) (r0 : k24.C W A0 x.f0.length x.f0) (m0 : y.f0.length ≤ d0) (s0 : k24.C W B0 y.f0.length y.f0) :
    Calls Tryd.prog 61 #[.agg #[.slice A0 x.f0.length c0, .int .u8 x.f1.f0, .int .i64 x.f1.f1, .int .i64 x.f1.f2, .int .i64 x.f1.f3], .agg #[.slice B0 y.f0.length d0, .int .u8 y.f1.f0, .int .i64 y.f1.f1, .int .i64 y.f1.f2, .int .i64 y.f1.f3], .pointer (some ⟨bi, 0, none⟩)] W fun e w' => e = .returned (.bool (sameK x y)) ∧ Below W.heap.size W w' := by
  have hu58 := Tryd.underlying58
  have hu26 := Tryd.underlying26
  have HC := Aside0.mk (fun (V : World) (hb : Below W.heap.size W V) => equal24_calls 59 #[] (enters_of Tryd.func59 (by kernel_rfl) rfl) sameX A0 B0 c0 d0 x.f0 y.f0 V (Kd.C_below r0 hb) (Kd.C_below s0 hb) (pair59 _ _ _))
  have hblk := World.block_lt_of_cell? W _ hci
  clear l0 r0 m0 s0
  cases hE : sameE x.f1 y.f1
  · have HF := Aside0.mk (show sameK x y = false from by unfold sameK; rw [hE]; rfl)
    clear HC
    go_enter Tryd.func61, Tryd.ntmps61
    go_wp2_with fail
    go_ret
    exact ⟨by rw [HF.out]; rfl, below_alloc (below_alloc (Below.refl _ _) _) _⟩
  · have HF := Aside0.mk (show sameK x y = all2 sameX x.f0 y.f0 from by unfold sameK; rw [hE]; rfl)
    go_enter Tryd.func61, Tryd.ntmps61
    go_wp2_with fail
    refine (HC.out _ (below_alloc (below_alloc (Below.refl _ _) _) _)).mono ?_
    rintro e w' ⟨rfl, hb⟩
    have HB := Aside0.mk (below_then (below_alloc (below_alloc (Below.refl W.heap.size W) _) _) (by simp; omega) hb)
    clear HC hb hci hblk
    rw [← HF.out]
    go_wp2_with fail
    go_ret
    exact ⟨rfl, HB.out⟩
theorem pair61 (bi : Nat) (l m : List S58) (w : World) (hci : w.cell? ⟨bi, 0, none⟩ = some (.func (.func 59) #[] #[])) : Pair58 61 #[.pointer (some ⟨bi, 0, none⟩)] sameK l m w :=
  fun W x y A0 c0 B0 d0 hb _ _ l0 r0 m0 s0 => same61 bi x y A0 B0 c0 d0 W (pw_cell_below hb hci) l0 r0 m0 s0
set_option maxHeartbeats 4000000 in
theorem same63 (bi bj : Nat) (x y : S55) (A1 B1 : Option Addr) (c1 d1 : Nat) (W : World) (hci : W.cell? ⟨bi, 0, none⟩ = some (.func (.func 59) #[] #[])) (hcj : W.cell? ⟨bj, 0, none⟩ = some (.func (.func 61) #[] #[.pointer (some ⟨bi, 0, none⟩)])) (l1 : x.f1.length ≤ c1) (r1 : k58.C W A1 x.f1.length x.f1) (m1 : y.f1.length ≤ d1) (s1 : k58.C W B1 y.f1.length y.f1) :
    Calls Tryd.prog 63 #[.agg #[.int .i64 x.f0, .slice A1 x.f1.length c1], .agg #[.int .i64 y.f0, .slice B1 y.f1.length d1], .pointer (some ⟨bj, 0, none⟩)] W fun e w' => e = .returned (.bool (sameF x y)) ∧ Below W.heap.size W w' := by
  have hu55 := Tryd.underlying55
  have HC := Aside0.mk (fun (V : World) (hb : Below W.heap.size W V) => equal58_calls 61 #[.pointer (some ⟨bi, 0, none⟩)] (enters_of Tryd.func61 (by kernel_rfl) rfl) sameK A1 B1 c1 d1 x.f1 y.f1 V (Kd.C_below r1 hb) (Kd.C_below s1 hb) (pair61 bi _ _ _ (pw_cell_below hb hci)))
  have hblk := World.block_lt_of_cell? W _ hcj
  clear l1 r1 m1 s1 hci
  cases hE : x.f0 == y.f0
  · have HF := Aside0.mk (show sameF x y = false from by unfold sameF; rw [hE]; rfl)
    clear HC
    go_enter Tryd.func63, Tryd.ntmps63
    go_wp2_with fail
    go_ret
    exact ⟨by rw [HF.out]; rfl, below_alloc (below_alloc (Below.refl _ _) _) _⟩
  · have HF := Aside0.mk (show sameF x y = all2 sameK x.f1 y.f1 from by unfold sameF; rw [hE]; rfl)
    go_enter Tryd.func63, Tryd.ntmps63
    go_wp2_with fail
    refine (HC.out _ (below_alloc (below_alloc (Below.refl _ _) _) _)).mono ?_
    rintro e w' ⟨rfl, hb⟩
    have HB := Aside0.mk (below_then (below_alloc (below_alloc (Below.refl W.heap.size W) _) _) (by simp; omega) hb)
    clear HC hb hcj hblk
    rw [← HF.out]
    go_wp2_with fail
    go_ret
    exact ⟨rfl, HB.out⟩
theorem pair63 (bi bj : Nat) (l m : List S55) (w : World) (hci : w.cell? ⟨bi, 0, none⟩ = some (.func (.func 59) #[] #[])) (hcj : w.cell? ⟨bj, 0, none⟩ = some (.func (.func 61) #[] #[.pointer (some ⟨bi, 0, none⟩)])) : Pair55 63 #[.pointer (some ⟨bj, 0, none⟩)] sameF l m w :=
  fun W x y A1 c1 B1 d1 hb _ _ l1 r1 m1 s1 => same63 bi bj x y A1 B1 c1 d1 W (pw_cell_below hb hci) (pw_cell_below hb hcj) l1 r1 m1 s1
end
set_option maxHeartbeats 4000000 in
theorem sameP_calls (A0 B0 A1 B1 : Option Addr) (c0 d0 c1 d1 : Nat) (t t' : List S78) (f f' : List S55) (w : World) (ht : Kd.C k78 w A0 t.length t) (hct : t.length ≤ c0) (hf : Kd.C k55 w B0 f.length f) (hcf : f.length ≤ d0) (ht' : Kd.C k78 w A1 t'.length t') (hct' : t'.length ≤ c1) (hf' : Kd.C k55 w B1 f'.length f') (hcf' : f'.length ≤ d1) :
    Calls Tryd.prog 30 #[.agg #[.slice A0 t.length c0, .slice B0 f.length d0], .agg #[.slice A1 t'.length c1, .slice B1 f'.length d1]] w fun e w' => e = .returned (.bool (sameP t f t' f')) ∧ Below w.heap.size w w' := by
  have hu35 := Tryd.underlying35
  have HT := Aside0.mk (fun (V : World) (hb : Below w.heap.size w V) => types_Same.calls A0 c0 t A1 c1 t' (sameL t t') V (Kd.C_below ht hb) hct (Kd.C_below ht' hb) hct' rfl)
  have HF := Aside0.mk (fun (bi bj : Nat) (V : World) (hb : Below w.heap.size w V) (hci : V.cell? ⟨bi, 0, none⟩ = some (.func (.func 59) #[] #[])) (hcj : V.cell? ⟨bj, 0, none⟩ = some (.func (.func 61) #[] #[.pointer (some ⟨bi, 0, none⟩)])) =>
    equal55_calls 63 #[.pointer (some ⟨bj, 0, none⟩)] (enters_of Tryd.func63 (by kernel_rfl) rfl) sameF B0 B1 d0 d1 f f' V (Kd.C_below hf hb) (Kd.C_below hf' hb) (pair63 bi bj _ _ _ hci hcj))
  clear ht hct hf hcf ht' hct' hf' hcf'
  go_enter Tryd.func30, Tryd.ntmps30
  go_wp2_with fail
  refine (HT.out _ (below_alloc (below_alloc (below_alloc (below_alloc (Below.refl _ _) _) _) _) _)).mono ?_
  rintro e w' ⟨rfl, hb⟩
  have b0 := fun (o0 o1 o2 o3 : Obj) => blk_alloc (blk_alloc (blk_alloc (blkAt (show w.heap.size = w.heap.size from rfl) o0) o1) o2) o3
  have b1 := fun (o0 o1 o2 o3 : Obj) => blk_alloc (blk_alloc (blkAt (sizeAt (show w.heap.size = w.heap.size from rfl) o0) o1) o2) o3
  have b2 := fun (o0 o1 o2 o3 : Obj) => blk_alloc (blkAt (sizeAt (sizeAt (show w.heap.size = w.heap.size from rfl) o0) o1) o2) o3
  have b3 := fun (o0 o1 o2 o3 : Obj) => blkAt (sizeAt (sizeAt (sizeAt (show w.heap.size = w.heap.size from rfl) o0) o1) o2) o3
  obtain ⟨p0, p1, -⟩ := blk2 (blk_below (b0 _ _ _ _) hb)
  obtain ⟨q0, q1, -⟩ := blk2 (blk_below (b1 _ _ _ _) hb)
  have f2 := (blk_cell (blk_below (b2 _ _ _ _) hb) 0).trans rfl
  have f3 := (blk_cell (blk_below (b3 _ _ _ _) hb) 0).trans rfl
  have HB := Aside0.mk (below_then (below_alloc (below_alloc (below_alloc (below_alloc (Below.refl w.heap.size w) _) _) _) _) (by simp; omega) hb)
  have HFC := Aside0.mk (HF.out _ _ _ HB.out f2 f3)
  clear b0 b1 b2 b3 hb HT HF f2 f3
  cases hE : sameL t t'
  · have HV := Aside0.mk (show sameP t f t' f' = false from by unfold sameP; rw [hE]; rfl)
    clear HFC
    go_wp2_with fail
    go_ret
    exact ⟨by rw [HV.out]; rfl, HB.out⟩
  · have HV := Aside0.mk (show sameP t f t' f' = all2 sameF f f' from by unfold sameP; rw [hE]; rfl)
    go_wp2_with fail
    refine HFC.out.mono ?_
    rintro e w2 ⟨rfl, hb⟩
    have HB2 := Aside0.mk (below_then HB.out HB.out.size hb)
    clear hb HFC p0 p1 q0 q1
    rw [← HV.out]
    go_wp2_with fail
    go_ret
    exact ⟨rfl, HB2.out⟩
end Go.Proofs.YtfjmpfecnemoiaaDoor.Q
