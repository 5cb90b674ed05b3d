/-
  slices.EqualFunc at instructions, blocks and functions: what it answers, whatever the function value that compares two of them (one that only makes memory of its own).
-/
import Derived.Test.YtfjmpfecnemoiaaDoorQCont
import Derived.Test.YtfjmpfecnemoiaaDoorQBlk
namespace Go.Proofs.YtfjmpfecnemoiaaDoor.Q
open Go.RowKit Go.Proofs.YtfjmpfecnemoiaaDoorW.PrintWords Go.Proofs.YtfjmpfecnemoiaaDoorW.PrintLast Go.Proofs.YtfjmpfecnemoiaaDoorW.PrintMore
set_option linter.unusedVariables false
set_option linter.unusedSimpArgs false
set_option maxRecDepth 100000

def all2 {α : Type} (p : α → α → Bool) : List α → List α → Bool
  | [], [] => true
  | x :: xs, y :: ys => p x y && all2 p xs ys
  | _, _ => false
theorem all2_len {α : Type} (p : α → α → Bool) : ∀ (l m : List α), l.length ≠ m.length → all2 p l m = false
  | [], [], h => absurd rfl h
  | [], _ :: _, _ => rfl
  | _ :: _, [], _ => rfl
  | x :: xs, y :: ys, h => by rw [all2, all2_len p xs ys (by simpa using h), Bool.and_false]
theorem all2_self {α : Type} (p : α → α → Bool) (hp : ∀ x, p x x = true) : ∀ l : List α, all2 p l l = true
  | [] => rfl
  | x :: xs => by rw [all2, hp, all2_self p hp xs]; rfl

def Pair24 (g : Nat) (lb : Array Value) (p : S24 → S24 → Bool) (l m : List S24) (w : World) : Prop :=
  ∀ (W : World) (x y : S24) (A5 : Option Addr) (c5 : Nat) (A6 : Option Addr) (c6 : Nat) (B5 : Option Addr) (d5 : Nat) (B6 : Option Addr) (d6 : Nat), Below w.heap.size w W → x ∈ l → y ∈ m → x.f5.length ≤ c5 → (Kd.int .i64).C W A5 x.f5.length x.f5 → x.f6.length ≤ c6 → (Kd.int .i64).C W A6 x.f6.length x.f6 → y.f5.length ≤ d5 → (Kd.int .i64).C W B5 y.f5.length y.f5 → y.f6.length ≤ d6 → (Kd.int .i64).C W B6 y.f6.length y.f6 → Calls Tryd.prog g (#[.agg #[.int .u8 x.f0, .int .i64 x.f1, .int .i64 x.f2, .int .i64 x.f3, .int .i64 x.f4, .slice A5 x.f5.length c5, .slice A6 x.f6.length c6], .agg #[.int .u8 y.f0, .int .i64 y.f1, .int .i64 y.f2, .int .i64 y.f3, .int .i64 y.f4, .slice B5 y.f5.length d5, .slice B6 y.f6.length d6]] ++ lb) W fun e w' => e = .returned (.bool (p x y)) ∧ Below W.heap.size W w'
set_option maxHeartbeats 4000000 in
theorem equal24_calls (g : Nat) (lb : Array Value) (eg : ∀ args w, (callFunc g args).run Tryd.prog w = .ok (.enter g args) w) (p : S24 → S24 → Bool) (A0_ A1_ : Option Addr) (c0_ c1_ : Nat) (l0 l1 : List S24) (w : World) (hr0 : Kd.C k24 w A0_ l0.length l0) (hr1 : Kd.C k24 w A1_ l1.length l1) (hp : Pair24 g lb p l0 l1 w) :
    Calls Tryd.prog 62 #[.slice A0_ l0.length c0_, .slice A1_ l1.length c1_, .func (.func g) #[] lb] w fun e w' => e = .returned (.bool (all2 p l0 l1)) ∧ Below w.heap.size w w' := by
  have hut := Tryd.underlying24
  have HR0 := Aside0.mk hr0
  have HR1 := Aside0.mk hr1
  have HP := Aside0.mk hp
  have hbig : (l0.length : Int) ≤ 9223372036854775807 := by have := hr0.2.1; omega
  generalize hr : all2 p l0 l1 = r
  have HR := Aside0.mk hr
  clear hr0 hr1 hr hp
  by_cases hlen : l0.length = l1.length
  · have hlenb : ((l0.length : Int) != (l1.length : Int)) = false := by rw [hlen]; simp
    have HLEN := Aside0.mk hlen
    clear hlen
    go_enter Tryd.func62, Tryd.ntmps62
    go_wp2_with fail
    go_loopg [17] l0.length (fun gg v17 Wr => ∃ j : Nat, j ≤ l0.length ∧ l0.length - j ≤ gg ∧ v17 = .int .i64 j ∧ Aside0 (all2 p (l0.drop j) (l1.drop j) = r) ∧ Aside0 (Below w.heap.size w Wr))
    case atStart => exact ⟨0, Nat.zero_le _, by omega, rfl, HR, ⟨Below.refl _ _⟩⟩
    case round =>
      obtain ⟨j, hj, hg, rfl, HS, HB⟩ := hrel
      by_cases hlt : j < l0.length
      · have hltz : (j : Int) < (l0.length : Int) := by omega
        have hlt1 : j < l1.length := by have := HLEN.out; omega
        have hltz1 : (j : Int) < (l1.length : Int) := by omega
        obtain ⟨ad, A5, c5, A6, c6, e, hx0, hx1, hx2, hx3, hx4, hx5, hx6, ux0, ux1, ux2, ux3⟩ := at_T24 (Kd.C_below HR0.out HB.out) (j : Int) (by omega) hltz
        obtain ⟨ae, B5, d5, B6, d6, e', hy0, hy1, hy2, hy3, hy4, hy5, hy6, uy0, uy1, uy2, uy3⟩ := at_T24 (Kd.C_below HR1.out HB.out) (j : Int) (by omega) hltz1
        rw [rdT24_at hlt] at hx0 hx1 hx2 hx3 hx4 hx5 hx6 ux0 ux1 ux2 ux3
        rw [rdT24_at hlt1] at hy0 hy1 hy2 hy3 hy4 hy5 hy6 uy0 uy1 uy2 uy3
        have hstep := HS.out
        rw [List.drop_eq_getElem_cons hlt, List.drop_eq_getElem_cons hlt1, all2] at hstep
        have hmx : l0[j] ∈ l0 := List.getElem_mem hlt
        have hmy : l1[j] ∈ l1 := List.getElem_mem hlt1
        cases e
        cases e'
        generalize l0[j] = x at *
        generalize l1[j] = y at *
        simp only [Int.toNat_natCast] at hx0 hx1 hx2 hx3 hx4 hx5 hx6 hy0 hy1 hy2 hy3 hy4 hy5 hy6
        have HCALL := Aside0.mk (fun (W : World) (hb : Below wr.heap.size wr W) => HP.out W x y A5 c5 A6 c6 B5 d5 B6 d6 (below_then HB.out HB.out.size hb) hmx hmy ux0 (Kd.C_below ux1 hb) ux2 (Kd.C_below ux3 hb) uy0 (Kd.C_below uy1 hb) uy2 (Kd.C_below uy3 hb))
        have hblk := World.block_lt_of_cell? wr _ hy0
        have HSTEP := Aside0.mk hstep
        clear hmx hmy hstep ux0 ux1 ux2 ux3 uy0 uy1 uy2 uy3
        cases hq : p x y
        all_goals
          have HQ := Aside0.mk hq
          clear hq
          go_wp2_with fail
          refine (HCALL.out _ (below_alloc (below_alloc (Below.refl _ _) _) _)).mono ?_
          rw [HQ.out]
          rintro e w' ⟨rfl, hb⟩
          have HB2 := Aside0.mk (below_then (below_alloc (below_alloc HB.out _) _) (by have := HB.out.size; simp; omega) hb)
          clear HCALL hb HB hx0 hx1 hx2 hx3 hx4 hx5 hx6 hy0 hy1 hy2 hy3 hy4 hy5 hy6 hblk eg
          go_wp2_with fail
        · go_ret
          exact ⟨by rw [← HSTEP.out, HQ.out]; rfl, HB2.out⟩
        · go_roundg (l0.length - (j + 1))
          case measure => omega
          case rel => exact ⟨j + 1, by omega, by omega, by go_num, ⟨by rw [← HSTEP.out, HQ.out]; rfl⟩, HB2⟩
      · have hltz : ¬ (j : Int) < (l0.length : Int) := by omega
        have HJ := Aside0.mk (show l0.length ≤ j by omega)
        go_wp2_with fail
        go_ret
        exact ⟨by rw [← HS.out, List.drop_eq_nil_of_le HJ.out, List.drop_eq_nil_of_le (by have := HLEN.out; have := HJ.out; omega)]; rfl, HB.out⟩
  · have hlenb : ((l0.length : Int) != (l1.length : Int)) = true := by simp; omega
    have HF := Aside0.mk (show false = r from by rw [← HR.out, all2_len _ _ _ hlen])
    clear hlen
    go_enter Tryd.func62, Tryd.ntmps62
    go_wp2_with fail
    go_ret
    exact ⟨by rw [← HF.out]; rfl, Below.refl _ _⟩

def Pair58 (g : Nat) (lb : Array Value) (p : S58 → S58 → Bool) (l m : List S58) (w : World) : Prop :=
  ∀ (W : World) (x y : S58) (A0 : Option Addr) (c0 : Nat) (B0 : Option Addr) (d0 : Nat), Below w.heap.size w W → x ∈ l → y ∈ m → x.f0.length ≤ c0 → k24.C W A0 x.f0.length x.f0 → y.f0.length ≤ d0 → k24.C W B0 y.f0.length y.f0 → Calls Tryd.prog g (#[.agg #[.slice A0 x.f0.length c0, .int .u8 x.f1.f0, .int .i64 x.f1.f1, .int .i64 x.f1.f2, .int .i64 x.f1.f3], .agg #[.slice B0 y.f0.length d0, .int .u8 y.f1.f0, .int .i64 y.f1.f1, .int .i64 y.f1.f2, .int .i64 y.f1.f3]] ++ lb) W fun e w' => e = .returned (.bool (p x y)) ∧ Below W.heap.size W w'
set_option maxHeartbeats 4000000 in
theorem equal58_calls (g : Nat) (lb : Array Value) (eg : ∀ args w, (callFunc g args).run Tryd.prog w = .ok (.enter g args) w) (p : S58 → S58 → Bool) (A0_ A1_ : Option Addr) (c0_ c1_ : Nat) (l0 l1 : List S58) (w : World) (hr0 : Kd.C k58 w A0_ l0.length l0) (hr1 : Kd.C k58 w A1_ l1.length l1) (hp : Pair58 g lb p l0 l1 w) :
    Calls Tryd.prog 64 #[.slice A0_ l0.length c0_, .slice A1_ l1.length c1_, .func (.func g) #[] lb] w fun e w' => e = .returned (.bool (all2 p l0 l1)) ∧ Below w.heap.size w w' := by
  have hut := Tryd.underlying58
  have HR0 := Aside0.mk hr0
  have HR1 := Aside0.mk hr1
  have HP := Aside0.mk hp
  have hbig : (l0.length : Int) ≤ 9223372036854775807 := by have := hr0.2.1; omega
  generalize hr : all2 p l0 l1 = r
  have HR := Aside0.mk hr
  clear hr0 hr1 hr hp
  by_cases hlen : l0.length = l1.length
  · have hlenb : ((l0.length : Int) != (l1.length : Int)) = false := by rw [hlen]; simp
    have HLEN := Aside0.mk hlen
    clear hlen
    go_enter Tryd.func64, Tryd.ntmps64
    go_wp2_with fail
    go_loopg [17] l0.length (fun gg v17 Wr => ∃ j : Nat, j ≤ l0.length ∧ l0.length - j ≤ gg ∧ v17 = .int .i64 j ∧ Aside0 (all2 p (l0.drop j) (l1.drop j) = r) ∧ Aside0 (Below w.heap.size w Wr))
    case atStart => exact ⟨0, Nat.zero_le _, by omega, rfl, HR, ⟨Below.refl _ _⟩⟩
    case round =>
      obtain ⟨j, hj, hg, rfl, HS, HB⟩ := hrel
      by_cases hlt : j < l0.length
      · have hltz : (j : Int) < (l0.length : Int) := by omega
        have hlt1 : j < l1.length := by have := HLEN.out; omega
        have hltz1 : (j : Int) < (l1.length : Int) := by omega
        obtain ⟨ad, A0, c0, e, hx0, hx1, hx2, hx3, hx4, ux0, ux1⟩ := at_T58 (Kd.C_below HR0.out HB.out) (j : Int) (by omega) hltz
        obtain ⟨ae, B0, d0, e', hy0, hy1, hy2, hy3, hy4, uy0, uy1⟩ := at_T58 (Kd.C_below HR1.out HB.out) (j : Int) (by omega) hltz1
        rw [rdT58_at hlt] at hx0 hx1 hx2 hx3 hx4 ux0 ux1
        rw [rdT58_at hlt1] at hy0 hy1 hy2 hy3 hy4 uy0 uy1
        have hstep := HS.out
        rw [List.drop_eq_getElem_cons hlt, List.drop_eq_getElem_cons hlt1, all2] at hstep
        have hmx : l0[j] ∈ l0 := List.getElem_mem hlt
        have hmy : l1[j] ∈ l1 := List.getElem_mem hlt1
        cases e
        cases e'
        generalize l0[j] = x at *
        generalize l1[j] = y at *
        simp only [Int.toNat_natCast] at hx0 hx1 hx2 hx3 hx4 hy0 hy1 hy2 hy3 hy4
        have HCALL := Aside0.mk (fun (W : World) (hb : Below wr.heap.size wr W) => HP.out W x y A0 c0 B0 d0 (below_then HB.out HB.out.size hb) hmx hmy ux0 (Kd.C_below ux1 hb) uy0 (Kd.C_below uy1 hb))
        have hblk := World.block_lt_of_cell? wr _ hy0
        have HSTEP := Aside0.mk hstep
        clear hmx hmy hstep ux0 ux1 uy0 uy1
        cases hq : p x y
        all_goals
          have HQ := Aside0.mk hq
          clear hq
          go_wp2_with fail
          refine (HCALL.out _ (below_alloc (below_alloc (Below.refl _ _) _) _)).mono ?_
          rw [HQ.out]
          rintro e w' ⟨rfl, hb⟩
          have HB2 := Aside0.mk (below_then (below_alloc (below_alloc HB.out _) _) (by have := HB.out.size; simp; omega) hb)
          clear HCALL hb HB hx0 hx1 hx2 hx3 hx4 hy0 hy1 hy2 hy3 hy4 hblk eg
          go_wp2_with fail
        · go_ret
          exact ⟨by rw [← HSTEP.out, HQ.out]; rfl, HB2.out⟩
        · go_roundg (l0.length - (j + 1))
          case measure => omega
          case rel => exact ⟨j + 1, by omega, by omega, by go_num, ⟨by rw [← HSTEP.out, HQ.out]; rfl⟩, HB2⟩
      · have hltz : ¬ (j : Int) < (l0.length : Int) := by omega
        have HJ := Aside0.mk (show l0.length ≤ j by omega)
        go_wp2_with fail
        go_ret
        exact ⟨by rw [← HS.out, List.drop_eq_nil_of_le HJ.out, List.drop_eq_nil_of_le (by have := HLEN.out; have := HJ.out; omega)]; rfl, HB.out⟩
  · have hlenb : ((l0.length : Int) != (l1.length : Int)) = true := by simp; omega
    have HF := Aside0.mk (show false = r from by rw [← HR.out, all2_len _ _ _ hlen])
    clear hlen
    go_enter Tryd.func64, Tryd.ntmps64
    go_wp2_with fail
    go_ret
    exact ⟨by rw [← HF.out]; rfl, Below.refl _ _⟩

def Pair55 (g : Nat) (lb : Array Value) (p : S55 → S55 → Bool) (l m : List S55) (w : World) : Prop :=
  ∀ (W : World) (x y : S55) (A1 : Option Addr) (c1 : Nat) (B1 : Option Addr) (d1 : Nat), Below w.heap.size w W → x ∈ l → y ∈ m → x.f1.length ≤ c1 → k58.C W A1 x.f1.length x.f1 → y.f1.length ≤ d1 → k58.C W B1 y.f1.length y.f1 → Calls Tryd.prog g (#[.agg #[.int .i64 x.f0, .slice A1 x.f1.length c1], .agg #[.int .i64 y.f0, .slice B1 y.f1.length d1]] ++ lb) W fun e w' => e = .returned (.bool (p x y)) ∧ Below W.heap.size W w'
set_option maxHeartbeats 4000000 in
theorem equal55_calls (g : Nat) (lb : Array Value) (eg : ∀ args w, (callFunc g args).run Tryd.prog w = .ok (.enter g args) w) (p : S55 → S55 → Bool) (A0_ A1_ : Option Addr) (c0_ c1_ : Nat) (l0 l1 : List S55) (w : World) (hr0 : Kd.C k55 w A0_ l0.length l0) (hr1 : Kd.C k55 w A1_ l1.length l1) (hp : Pair55 g lb p l0 l1 w) :
    Calls Tryd.prog 66 #[.slice A0_ l0.length c0_, .slice A1_ l1.length c1_, .func (.func g) #[] lb] w fun e w' => e = .returned (.bool (all2 p l0 l1)) ∧ Below w.heap.size w w' := by
  have hut := Tryd.underlying55
  have HR0 := Aside0.mk hr0
  have HR1 := Aside0.mk hr1
  have HP := Aside0.mk hp
  have hbig : (l0.length : Int) ≤ 9223372036854775807 := by have := hr0.2.1; omega
  generalize hr : all2 p l0 l1 = r
  have HR := Aside0.mk hr
  clear hr0 hr1 hr hp
  by_cases hlen : l0.length = l1.length
  · have hlenb : ((l0.length : Int) != (l1.length : Int)) = false := by rw [hlen]; simp
    have HLEN := Aside0.mk hlen
    clear hlen
    go_enter Tryd.func66, Tryd.ntmps66
    go_wp2_with fail
    go_loopg [17] l0.length (fun gg v17 Wr => ∃ j : Nat, j ≤ l0.length ∧ l0.length - j ≤ gg ∧ v17 = .int .i64 j ∧ Aside0 (all2 p (l0.drop j) (l1.drop j) = r) ∧ Aside0 (Below w.heap.size w Wr))
    case atStart => exact ⟨0, Nat.zero_le _, by omega, rfl, HR, ⟨Below.refl _ _⟩⟩
    case round =>
      obtain ⟨j, hj, hg, rfl, HS, HB⟩ := hrel
      by_cases hlt : j < l0.length
      · have hltz : (j : Int) < (l0.length : Int) := by omega
        have hlt1 : j < l1.length := by have := HLEN.out; omega
        have hltz1 : (j : Int) < (l1.length : Int) := by omega
        obtain ⟨ad, A1, c1, e, hx0, hx1, ux0, ux1⟩ := at_T55 (Kd.C_below HR0.out HB.out) (j : Int) (by omega) hltz
        obtain ⟨ae, B1, d1, e', hy0, hy1, uy0, uy1⟩ := at_T55 (Kd.C_below HR1.out HB.out) (j : Int) (by omega) hltz1
        rw [rdT55_at hlt] at hx0 hx1 ux0 ux1
        rw [rdT55_at hlt1] at hy0 hy1 uy0 uy1
        have hstep := HS.out
        rw [List.drop_eq_getElem_cons hlt, List.drop_eq_getElem_cons hlt1, all2] at hstep
        have hmx : l0[j] ∈ l0 := List.getElem_mem hlt
        have hmy : l1[j] ∈ l1 := List.getElem_mem hlt1
        cases e
        cases e'
        generalize l0[j] = x at *
        generalize l1[j] = y at *
        simp only [Int.toNat_natCast] at hx0 hx1 hy0 hy1
        have HCALL := Aside0.mk (fun (W : World) (hb : Below wr.heap.size wr W) => HP.out W x y A1 c1 B1 d1 (below_then HB.out HB.out.size hb) hmx hmy ux0 (Kd.C_below ux1 hb) uy0 (Kd.C_below uy1 hb))
        have hblk := World.block_lt_of_cell? wr _ hy0
        have HSTEP := Aside0.mk hstep
        clear hmx hmy hstep ux0 ux1 uy0 uy1
        cases hq : p x y
        all_goals
          have HQ := Aside0.mk hq
          clear hq
          go_wp2_with fail
          refine (HCALL.out _ (below_alloc (below_alloc (Below.refl _ _) _) _)).mono ?_
          rw [HQ.out]
          rintro e w' ⟨rfl, hb⟩
          have HB2 := Aside0.mk (below_then (below_alloc (below_alloc HB.out _) _) (by have := HB.out.size; simp; omega) hb)
          clear HCALL hb HB hx0 hx1 hy0 hy1 hblk eg
          go_wp2_with fail
        · go_ret
          exact ⟨by rw [← HSTEP.out, HQ.out]; rfl, HB2.out⟩
        · go_roundg (l0.length - (j + 1))
          case measure => omega
          case rel => exact ⟨j + 1, by omega, by omega, by go_num, ⟨by rw [← HSTEP.out, HQ.out]; rfl⟩, HB2⟩
      · have hltz : ¬ (j : Int) < (l0.length : Int) := by omega
        have HJ := Aside0.mk (show l0.length ≤ j by omega)
        go_wp2_with fail
        go_ret
        exact ⟨by rw [← HS.out, List.drop_eq_nil_of_le HJ.out, List.drop_eq_nil_of_le (by have := HLEN.out; have := HJ.out; omega)]; rfl, HB.out⟩
  · have hlenb : ((l0.length : Int) != (l1.length : Int)) = true := by simp; omega
    have HF := Aside0.mk (show false = r from by rw [← HR.out, all2_len _ _ _ hlen])
    clear hlen
    go_enter Tryd.func66, Tryd.ntmps66
    go_wp2_with fail
    go_ret
    exact ⟨by rw [← HF.out]; rfl, Below.refl _ _⟩
end Go.Proofs.YtfjmpfecnemoiaaDoor.Q
