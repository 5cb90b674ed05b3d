/-
  types.Same: whether two tables are the same.
-/
import Derived.Test.YtfjmpfecnemoiaaDoorQBits
import Derived.Test.YtfjmpfecnemoiaaDoorQy16
namespace Go.Proofs.YtfjmpfecnemoiaaDoor.Q
open Go.RowKit Go.Proofs.YtfjmpfecnemoiaaDoorW.PrintWords Go.Proofs.YtfjmpfecnemoiaaDoorW.PrintLast Go.Proofs.YtfjmpfecnemoiaaDoorW.PrintMore
set_option linter.unusedVariables false
set_option linter.unusedSimpArgs false

theorem equal_l0 (L M : List Int) (hL : L.length ≤ 9223372036854775807) (hM : L.length = M.length) (d : Nat) : ∀ (k i : Nat), i + d = L.length → d < k → slices_Equal_int_int.l0 k L M (L.length : Int) (i : Int) = some (L.drop i == M.drop i) := by
  induction d with
  | zero =>
    intro k i hi hk
    obtain ⟨k, rfl⟩ : ∃ m, k = m + 1 := ⟨k - 1, by omega⟩
    simp only [slices_Equal_int_int.l0]
    rw [if_neg (by omega), List.drop_eq_nil_of_le (by omega), List.drop_eq_nil_of_le (by omega)]
    rfl
  | succ d ih =>
    intro k i hi hk
    obtain ⟨k, rfl⟩ : ∃ m, k = m + 1 := ⟨k - 1, by omega⟩
    simp only [slices_Equal_int_int.l0]
    have eL : L.drop i = L[i] :: L.drop (i + 1) := List.drop_eq_getElem_cons (by omega)
    have eM : M.drop i = M[i] :: M.drop (i + 1) := List.drop_eq_getElem_cons (by omega)
    rw [if_pos (by omega), if_pos (by omega), if_pos (by omega), if_pos (by omega), rd_at (show i < L.length by omega), rd_at (show i < M.length by omega)]
    rw [show wrap64 ((i : Int) + 1) = ((i + 1 : Nat) : Int) from by unfold wrap64; omega, ih k (i + 1) (by omega) (by omega), eL, eM]
    by_cases h : L[i] = M[i]
    · rw [if_pos h, h]
      refine congrArg some ?_
      rw [Bool.eq_iff_iff]
      simp only [beq_iff_eq, List.cons.injEq, true_and]
    · rw [if_neg h]
      refine congrArg some (Eq.symm (beq_eq_false_iff_ne.mpr fun e => h (List.cons.inj e).1))
theorem equal_some (L M : List Int) (hL : L.length ≤ 9223372036854775807) : slices_Equal_int_int.f (L.length + 1) L M = some (L == M) := by
  unfold slices_Equal_int_int.f
  by_cases h : L.length = M.length
  · rw [if_pos (by omega)]
    exact equal_l0 L M hL h L.length _ 0 (by omega) (by omega)
  · rw [if_neg (by omega)]
    have : ¬ L = M := fun e => h (by rw [e])
    simp [this]

def sameT (x y : S78) : Bool := x.f0 == y.f0 && (x.f1 == y.f1 && (x.f2 == y.f2 && x.f3 == y.f3))
def sameL : List S78 → List S78 → Bool
  | [], [] => true
  | x :: xs, y :: ys => sameT x y && sameL xs ys
  | _, _ => false
theorem sameL_len : ∀ (l m : List S78), l.length ≠ m.length → sameL l m = false
  | [], [], h => absurd rfl h
  | [], _ :: _, _ => rfl
  | _ :: _, [], _ => rfl
  | x :: xs, y :: ys, h => by rw [sameL, sameL_len xs ys (by simpa using h), Bool.and_false]

set_option maxHeartbeats 1000000 in
theorem same1_calls (x y : S78) (A3 B3 : Option Addr) (c3 d3 : Nat) (W : World) (hx : (Kd.int .i64).C W A3 x.f3.length x.f3) (hy : (Kd.int .i64).C W B3 y.f3.length y.f3) (hc : x.f3.length ≤ c3) (hd : y.f3.length ≤ d3) (r : Bool) (hr : sameT x y = r) :
    Calls Tryd.prog 84 #[.agg #[.int .u8 x.f0, .int .i64 x.f1, .int .i64 x.f2, .slice A3 x.f3.length c3], .agg #[.int .u8 y.f0, .int .i64 y.f1, .int .i64 y.f2, .slice B3 y.f3.length d3]] W fun e w' => e = .returned (.bool r) ∧ Below W.heap.size W w' := by
  have hu78 := Tryd.underlying78
  have heq := fun (W' : World) (hb : Below W.heap.size W W') => slices_Equal_int_int.calls _ A3 c3 x.f3 B3 d3 y.f3 (x.f3 == y.f3) W' (Kd.C_below hx hb) hc (Kd.C_below hy hb) hd (equal_some _ _ hx.2.1)
  have HEQ := Aside0.mk heq
  have HR := Aside0.mk hr
  clear hx hy hc hd heq hr
  by_cases h0 : x.f0 = y.f0
  · have e0 : (x.f0 == y.f0) = true := beq_iff_eq.mpr h0
    by_cases h1 : x.f1 = y.f1
    · have e1 : (x.f1 == y.f1) = true := beq_iff_eq.mpr h1
      by_cases h2 : x.f2 = y.f2
      · have e2 : (x.f2 == y.f2) = true := beq_iff_eq.mpr h2
        have HF := Aside0.mk (show (x.f3 == y.f3) = r from by rw [← HR.out]; unfold sameT; rw [e0, e1, e2]; simp)
        clear h0 h1 h2
        go_enter Tryd.func84, Tryd.ntmps84
        go_wp2_with fail
        refine (HEQ.out _ (below_alloc (below_alloc (Below.refl _ _) _) _)).mono ?_
        rintro e w' ⟨rfl, ⟨m, rfl⟩⟩
        clear HEQ
        go_wp2_with fail
        go_ret
        exact ⟨by rw [← HF.out]; rfl, pw_below_drewN (below_alloc (below_alloc (Below.refl _ _) _) _) _⟩
      · have e2 : (x.f2 == y.f2) = false := beq_eq_false_iff_ne.mpr h2
        have HF := Aside0.mk (show false = r from by rw [← HR.out]; unfold sameT; rw [e0, e1, e2]; simp)
        clear h0 h1 h2 HEQ
        go_enter Tryd.func84, Tryd.ntmps84
        go_wp2_with fail
        go_ret
        exact ⟨by rw [← HF.out]; rfl, below_alloc (below_alloc (Below.refl _ _) _) _⟩
    · have e1 : (x.f1 == y.f1) = false := beq_eq_false_iff_ne.mpr h1
      have HF := Aside0.mk (show false = r from by rw [← HR.out]; unfold sameT; rw [e0, e1]; simp)
      clear h0 h1 HEQ
      go_enter Tryd.func84, Tryd.ntmps84
      go_wp2_with fail
      go_ret
      exact ⟨by rw [← HF.out]; rfl, below_alloc (below_alloc (Below.refl _ _) _) _⟩
  · have e0 : (x.f0 == y.f0) = false := beq_eq_false_iff_ne.mpr h0
    have HF := Aside0.mk (show false = r from by rw [← HR.out]; unfold sameT; rw [e0]; simp)
    clear h0 HEQ
    go_enter Tryd.func84, Tryd.ntmps84
    go_wp2_with fail
    go_ret
    exact ⟨by rw [← HF.out]; rfl, below_alloc (below_alloc (Below.refl _ _) _) _⟩

theorem rdT_at {xs : List S78} {j : Nat} (h : j < xs.length) : rd_T78 xs (j : Int) = xs[j] := by simp [rd_T78, h]

set_option maxHeartbeats 2000000 in
theorem equalFunc_calls (A0 A1 : Option Addr) (c0 c1 : Nat) (l0 l1 : List S78) (w : World) (hr0 : Kd.C k78 w A0 l0.length l0) (hr1 : Kd.C k78 w A1 l1.length l1) (r : Bool) (hr : sameL l0 l1 = r) :
    Calls Tryd.prog 83 #[.slice A0 l0.length c0, .slice A1 l1.length c1, .func (.func 84) #[] #[]] w fun e w' => e = .returned (.bool r) ∧ Below w.heap.size w w' := by
  have hu78 := Tryd.underlying78
  have HR0 := Aside0.mk hr0
  have HR1 := Aside0.mk hr1
  have HR := Aside0.mk hr
  have hbig : (l0.length : Int) ≤ 9223372036854775807 := by have := hr0.2.1; omega
  clear hr0 hr1 hr
  by_cases hlen : l0.length = l1.length
  · have hlenb : ((l0.length : Int) != (l1.length : Int)) = false := by rw [hlen]; simp
    have HLEN := Aside0.mk hlen
    clear hlen
    go_enter Tryd.func83, Tryd.ntmps83
    go_wp2_with fail
    go_loopg [17] l0.length (fun gg v17 Wr => ∃ j : Nat, j ≤ l0.length ∧ l0.length - j ≤ gg ∧ v17 = .int .i64 j ∧ Aside0 (sameL (l0.drop j) (l1.drop j) = r) ∧ Aside0 (Below w.heap.size w Wr))
    case atStart => exact ⟨0, Nat.zero_le _, by omega, rfl, HR, ⟨Below.refl _ _⟩⟩
    case round =>
      obtain ⟨j, hj, hg, rfl, HS, HB⟩ := hrel
      by_cases hlt : j < l0.length
      · have hltz : (j : Int) < (l0.length : Int) := by omega
        have hltz1 : (j : Int) < (l1.length : Int) := by have := HLEN.out; omega
        obtain ⟨ad, A3, c3, e, hx0, hx1, hx2, hx3, hl3, hr3⟩ := at_T78B HR0.out (j : Int) (by omega) hltz
        obtain ⟨ae, B3, d3, e', hy0, hy1, hy2, hy3, hm3, hs3⟩ := at_T78B HR1.out (j : Int) (by omega) hltz1
        rw [rdT_at hlt] at hx0 hx1 hx2 hx3 hl3 hr3
        rw [rdT_at (show j < l1.length by omega)] at hy0 hy1 hy2 hy3 hm3 hs3
        have hstep := HS.out
        rw [List.drop_eq_getElem_cons hlt, List.drop_eq_getElem_cons (show j < l1.length by omega), sameL] at hstep
        cases e
        cases e'
        generalize l0[j] = x at *
        generalize l1[j]'(by omega) = y at *
        simp only [Int.toNat_natCast] at hx0 hx1 hx2 hx3 hy0 hy1 hy2 hy3
        have hcall := fun (W : World) (hb : Below w.heap.size w W) => same1_calls x y A3 B3 c3 d3 W (hr3 W hb) (hs3 W hb) hl3 hm3 _ rfl
        replace hx0 := hx0 wr HB.out
        replace hx1 := hx1 wr HB.out
        replace hx2 := hx2 wr HB.out
        replace hx3 := hx3 wr HB.out
        replace hy0 := hy0 wr HB.out
        replace hy1 := hy1 wr HB.out
        replace hy2 := hy2 wr HB.out
        replace hy3 := hy3 wr HB.out
        have hblk := World.block_lt_of_cell? wr _ hy0
        have HCALL := Aside0.mk hcall
        have HSTEP := Aside0.mk hstep
        clear hr3 hs3 hl3 hm3 hcall hstep
        cases hq : sameT x y
        all_goals
          have HQ := Aside0.mk hq
          clear hq
          go_wp2_with fail
          refine (HCALL.out _ (below_alloc (below_alloc HB.out _) _)).mono ?_
          rw [HQ.out]
          rintro e w' ⟨rfl, hb⟩
          have HB2 := Aside0.mk (below_then (below_alloc (below_alloc HB.out _) _) (by have := HB.out.size; simp; omega) hb)
          clear HCALL hb HB hx0 hx1 hx2 hx3 hy0 hy1 hy2 hy3 hblk
          go_wp2_with fail
        · go_ret
          exact ⟨by rw [← HSTEP.out, HQ.out]; rfl, HB2.out⟩
        · go_roundg (l0.length - (j + 1))
          case measure => omega
          case rel => exact ⟨j + 1, by omega, by omega, by go_num, ⟨by rw [← HSTEP.out, HQ.out]; rfl⟩, HB2⟩
      · have hltz : ¬ (j : Int) < (l0.length : Int) := by omega
        have HJ := Aside0.mk (show l0.length ≤ j by omega)
        go_wp2_with fail
        go_ret
        exact ⟨by rw [← HS.out, List.drop_eq_nil_of_le HJ.out, List.drop_eq_nil_of_le (by have := HLEN.out; have := HJ.out; omega)]; rfl, HB.out⟩
  · have hlenb : ((l0.length : Int) != (l1.length : Int)) = true := by simp; omega
    have HF := Aside0.mk (show false = r from by rw [← HR.out, sameL_len _ _ hlen])
    clear hlen
    go_enter Tryd.func83, Tryd.ntmps83
    go_wp2_with fail
    go_ret
    exact ⟨by rw [← HF.out]; rfl, Below.refl _ _⟩

def types_Same.f (l0 l1 : List S78) : Option Bool := some (sameL l0 l1)
theorem types_Same.calls (A0 : Option Addr) (c0 : Nat) (l0 : List S78) (A1 : Option Addr) (c1 : Nat) (l1 : List S78) (r : Bool) (w : World) (hr0 : Kd.C k78 w A0 l0.length l0) (hc0 : l0.length ≤ c0) (hr1 : Kd.C k78 w A1 l1.length l1) (hc1 : l1.length ≤ c1) (h : types_Same.f l0 l1 = some r) :
    Calls Tryd.prog 65 #[.slice A0 l0.length c0, .slice A1 l1.length c1] w fun e w' => e = .returned (.bool r) ∧ Below w.heap.size w w' := by
  have HC := Aside0.mk (equalFunc_calls A0 A1 c0 c1 l0 l1 w hr0 hr1 r (Option.some.inj h))
  clear hr0 hr1 h
  go_enter Tryd.func65, Tryd.ntmps65
  go_wp2_with fail
  refine HC.out.mono ?_
  rintro e w' ⟨rfl, hb⟩
  have HB := Aside0.mk hb
  clear HC hb
  go_wp2_with fail
  go_ret
  exact ⟨rfl, HB.out⟩
end Go.Proofs.YtfjmpfecnemoiaaDoor.Q
