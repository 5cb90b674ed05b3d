/-
  fescueref06.sameIns: whether two lists of instructions are the same.
-/
import Derived.Test.YtfjmpfecnemoiaaDoorQx2
import Derived.Test.YtfjmpfecnemoiaaDoorQBlk
import Derived.Test.YtfjmpfecnemoiaaDoorQBits
import Derived.Deep.RegionHeld3
namespace Go.Proofs.YtfjmpfecnemoiaaDoor.Q
open Go.RowKit Go.Proofs.YtfjmpfecnemoiaaDoorW.PrintWords Go.Proofs.YtfjmpfecnemoiaaDoorW.PrintLast Go.Proofs.YtfjmpfecnemoiaaDoorW.PrintMore
set_option linter.unusedVariables false
set_option linter.unusedSimpArgs false
set_option maxRecDepth 100000

/-- Two lists of numbers. -/
def eqI (L M : List Int) : Bool := L == M
theorem eqI_l0 (L M : List Int) (hL : L.length ≤ 9223372036854775807) (hM : L.length = M.length) (d : Nat) : ∀ (k i : Nat), i + d = L.length → d < k → fescueref02_SameInts.l0 k L M (i : Int) = some (L.drop i == M.drop i) := by
  induction d with
  | zero =>
    intro k i hi hk
    obtain ⟨k, rfl⟩ : ∃ m, k = m + 1 := ⟨k - 1, by omega⟩
    simp only [fescueref02_SameInts.l0]
    rw [if_neg (by omega), List.drop_eq_nil_of_le (by omega), List.drop_eq_nil_of_le (by omega)]
    rfl
  | succ d ih =>
    intro k i hi hk
    obtain ⟨k, rfl⟩ : ∃ m, k = m + 1 := ⟨k - 1, by omega⟩
    simp only [fescueref02_SameInts.l0]
    have eL : L.drop i = L[i] :: L.drop (i + 1) := List.drop_eq_getElem_cons (by omega)
    have eM : M.drop i = M[i] :: M.drop (i + 1) := List.drop_eq_getElem_cons (by omega)
    rw [if_pos (by omega), if_pos (by omega), if_pos (by omega), rd_at (show i < L.length by omega), rd_at (show i < M.length by omega)]
    rw [show wrap64 ((i : Int) + 1) = ((i + 1 : Nat) : Int) from by unfold wrap64; omega, ih k (i + 1) (by omega) (by omega), eL, eM]
    by_cases h : L[i] = M[i]
    · rw [if_pos h, h]
      refine congrArg some ?_
      rw [Bool.eq_iff_iff]
      simp only [beq_iff_eq, List.cons.injEq, true_and]
    · rw [if_neg h]
      refine congrArg some (Eq.symm (beq_eq_false_iff_ne.mpr fun e => h (List.cons.inj e).1))
theorem eqI_some (L M : List Int) (hL : L.length ≤ 9223372036854775807) (k : Nat) (hk : L.length < k) : fescueref02_SameInts.f k L M = some (eqI L M) := by
  unfold fescueref02_SameInts.f eqI
  by_cases h : L.length = M.length
  · rw [if_pos (by omega)]
    exact eqI_l0 L M hL h L.length _ 0 (by omega) hk
  · rw [if_neg (by omega)]
    have : ¬ L = M := fun e => h (by rw [e])
    simp [this]
def sameI (x y : S24) : Bool := x.f0 == y.f0 && (x.f1 == y.f1 && (x.f2 == y.f2 && (x.f3 == y.f3 && (x.f4 == y.f4 && (eqI x.f5 y.f5 && eqI x.f6 y.f6)))))
def sameIL : List S24 → List S24 → Bool
  | [], [] => true
  | x :: xs, y :: ys => sameI x y && sameIL xs ys
  | _, _ => false
theorem sameIL_len : ∀ (l m : List S24), l.length ≠ m.length → sameIL l m = false
  | [], [], h => absurd rfl h
  | [], _ :: _, _ => rfl
  | _ :: _, [], _ => rfl
  | x :: xs, y :: ys, h => by rw [sameIL, sameIL_len xs ys (by simpa using h), Bool.and_false]
theorem rdI_at {xs : List S24} {j : Nat} (h : j < xs.length) : rd_T24 xs (j : Int) = xs[j] := by simp [rd_T24, h]

theorem not_true {b : Bool} (h : false = !b) : b = true := by
  cases b
  · cases h
  · rfl
theorem not_false_ {b : Bool} (h : true = !b) : b = false := by
  cases b
  · rfl
  · cases h
theorem blk_two (w : World) (X Y : Obj) : ((w.alloc X).alloc Y).heap[w.heap.size + 1]? = some Y := by
  have h := blk_new (w.alloc X) Y
  rwa [show (w.alloc X).heap.size = w.heap.size + 1 from by simp] at h

set_option maxHeartbeats 4000000 in
theorem sameIns_any (A0 A1 : Option Addr) (c0 c1 : Nat) (l0 l1 : List S24) (w : World) (hr0 : Kd.C k24 w A0 l0.length l0) (hr1 : Kd.C k24 w A1 l1.length l1) (r : Bool) (hr : sameIL l0 l1 = r) :
    Calls Tryd.prog 69 #[.slice A0 l0.length c0, .slice A1 l1.length c1] w fun e w' => e = .returned (.bool r) ∧ Below w.heap.size w w' := by
  have hu24 := Tryd.underlying24
  have HR0 := Aside0.mk hr0
  have HR1 := Aside0.mk hr1
  have HR := Aside0.mk hr
  have hbig : (l0.length : Int) ≤ 9223372036854775807 := by have := hr0.2.1; omega
  clear hr0 hr1 hr
  by_cases hlen : l0.length = l1.length
  · have hlenb : ((l0.length : Int) != (l1.length : Int)) = false := by rw [hlen]; simp
    have HLEN := Aside0.mk hlen
    clear hlen
    go_enter Tryd.func69, Tryd.ntmps69
    go_wp2_with fail
    go_loopg [5] l0.length (fun gg v5 Wr => ∃ j : Nat, j ≤ l0.length ∧ l0.length - j ≤ gg ∧ v5 = .int .i64 j ∧ Aside0 (sameIL (l0.drop j) (l1.drop j) = r) ∧ Aside0 (Below w.heap.size w Wr))
    case atStart => exact ⟨0, Nat.zero_le _, by omega, rfl, HR, ⟨Below.refl _ _⟩⟩
    case round =>
      obtain ⟨j, hj, hg, rfl, HS, HB⟩ := hrel
      by_cases hlt : j < l0.length
      · have hltz : (j : Int) < (l0.length : Int) := by omega
        have hltz1 : (j : Int) < (l1.length : Int) := by have := HLEN.out; omega
        obtain ⟨ad, A5, c5, A6, c6, e, hx0, hx1, hx2, hx3, hx4, hx5, hx6, hl5, hr5, hl6, hr6⟩ := at_T24 (Kd.C_below HR0.out HB.out) (j : Int) (by omega) hltz
        obtain ⟨ae, B5, d5, B6, d6, e', hy0, hy1, hy2, hy3, hy4, hy5, hy6, hm5, hs5, hm6, hs6⟩ := at_T24 (Kd.C_below HR1.out HB.out) (j : Int) (by omega) hltz1
        rw [rdI_at hlt] at hx0 hx1 hx2 hx3 hx4 hx5 hx6 hl5 hr5 hl6 hr6
        rw [rdI_at (show j < l1.length by omega)] at hy0 hy1 hy2 hy3 hy4 hy5 hy6 hm5 hs5 hm6 hs6
        have hstep := HS.out
        rw [List.drop_eq_getElem_cons hlt, List.drop_eq_getElem_cons (show j < l1.length by omega), sameIL] at hstep
        cases e
        cases e'
        generalize l0[j] = x at *
        generalize l1[j]'(by omega) = y at *
        simp only [Int.toNat_natCast] at hx0 hx1 hx2 hx3 hx4 hx5 hx6 hy0 hy1 hy2 hy3 hy4 hy5 hy6
        have HC5 := Aside0.mk (fun (W : World) (hb : Below wr.heap.size wr W) => fescueref02_SameInts.calls (x.f5.length + 1) A5 c5 x.f5 B5 d5 y.f5 (eqI x.f5 y.f5) W (Kd.C_below hr5 hb) hl5 (Kd.C_below hs5 hb) hm5 (eqI_some _ _ hr5.2.1 _ (by omega)))
        have HC6 := Aside0.mk (fun (W : World) (hb : Below wr.heap.size wr W) => fescueref02_SameInts.calls (x.f6.length + 1) A6 c6 x.f6 B6 d6 y.f6 (eqI x.f6 y.f6) W (Kd.C_below hr6 hb) hl6 (Kd.C_below hs6 hb) hm6 (eqI_some _ _ hr6.2.1 _ (by omega)))
        have HSTEP := Aside0.mk hstep
        clear hstep hr5 hr6 hs5 hs6 hl5 hl6 hm5 hm6
        go_upto_region 6 with fail
        go_cut [6, 7] (fun s6 s7 wx => ∃ g6 g7, s6 = .pointer (some ⟨g6, 0, none⟩) ∧ s7 = .pointer (some ⟨g7, 0, none⟩) ∧ Aside0 (wx.heap[g6]? = some (.cells #[.int .u8 x.f0, .int .i64 x.f1, .int .i64 x.f2, .int .i64 x.f3, .int .i64 x.f4, .slice A5 x.f5.length c5, .slice A6 x.f6.length c6] 24 (0, 0))) ∧ Aside0 (wx.heap[g7]? = some (.cells #[.int .u8 y.f0, .int .i64 y.f1, .int .i64 y.f2, .int .i64 y.f3, .int .i64 y.f4, .slice B5 y.f5.length d5, .slice B6 y.f6.length d6] 24 (0, 0))) ∧ Aside0 (Below wr.heap.size wr wx))
        case first =>
          have nx := World.block_lt_of_cell? wr _ hx0
          have ny := World.block_lt_of_cell? wr _ hy0
          have mx := Nat.ne_of_gt nx
          have my := Nat.ne_of_gt ny
          go_region_held3 (fun W => W.cell? (ad.add (j * 7)) = some (.int .u8 x.f0) ∧ W.cell? ⟨(ad.add (j * 7)).block, (ad.add (j * 7)).off + 1, none⟩ = some (.int .i64 x.f1) ∧ W.cell? ⟨(ad.add (j * 7)).block, (ad.add (j * 7)).off + 2, none⟩ = some (.int .i64 x.f2) ∧ W.cell? ⟨(ad.add (j * 7)).block, (ad.add (j * 7)).off + 3, none⟩ = some (.int .i64 x.f3) ∧ W.cell? ⟨(ad.add (j * 7)).block, (ad.add (j * 7)).off + 4, none⟩ = some (.int .i64 x.f4) ∧ W.cell? ⟨(ad.add (j * 7)).block, (ad.add (j * 7)).off + 5, none⟩ = some (.slice A5 x.f5.length c5) ∧ W.cell? ⟨(ad.add (j * 7)).block, (ad.add (j * 7)).off + 6, none⟩ = some (.slice A6 x.f6.length c6) ∧
            W.cell? (ae.add (j * 7)) = some (.int .u8 y.f0) ∧ W.cell? ⟨(ae.add (j * 7)).block, (ae.add (j * 7)).off + 1, none⟩ = some (.int .i64 y.f1) ∧ W.cell? ⟨(ae.add (j * 7)).block, (ae.add (j * 7)).off + 2, none⟩ = some (.int .i64 y.f2) ∧ W.cell? ⟨(ae.add (j * 7)).block, (ae.add (j * 7)).off + 3, none⟩ = some (.int .i64 y.f3) ∧ W.cell? ⟨(ae.add (j * 7)).block, (ae.add (j * 7)).off + 4, none⟩ = some (.int .i64 y.f4) ∧ W.cell? ⟨(ae.add (j * 7)).block, (ae.add (j * 7)).off + 5, none⟩ = some (.slice B5 y.f5.length d5) ∧ W.cell? ⟨(ae.add (j * 7)).block, (ae.add (j * 7)).off + 6, none⟩ = some (.slice B6 y.f6.length d6)) (go_keep) (first | fail)
          · go_wp2_with fail
            go_meet
            exact ⟨_, _, rfl, rfl, ⟨blk_drew (blk_alloc (blk_new wr _) _)⟩, ⟨blk_drew (blk_two wr _ _)⟩, ⟨Below.drew (below_alloc (below_alloc (Below.refl _ _) _) _)⟩⟩
          · go_wp2_with fail
            go_meet
            exact ⟨_, _, rfl, rfl, ⟨blk_drew (blk_two wr _ _)⟩, ⟨blk_drew (blk_alloc (blk_new wr _) _)⟩, ⟨Below.drew (below_alloc (below_alloc (Below.refl _ _) _) _)⟩⟩
        case rest =>
          obtain ⟨g6, g7, rfl, rfl, HX, HY, HW⟩ := hcut
          clear hx0 hx1 hx2 hx3 hx4 hx5 hx6 hy0 hy1 hy2 hy3 hy4 hy5 hy6
          obtain ⟨x0, x1, x2, x3, x4, x5, x6, -⟩ := blk7 HX.out
          obtain ⟨y0, y1, y2, y3, y4, y5, y6, -⟩ := blk7 HY.out
          go_upto_region 7 with fail
          go_cut [75] (fun s75 wx => ∃ q, s75 = .bool q ∧ Aside0 (q = !sameI x y) ∧ ∃ m, wx = wc.drewN m)
          case first =>
            go_wp2_with (first | (go_at_call_of 11 (Value.slice A5 x.f5.length c5); refine (HC5.out _ (by first | exact HW.out | exact pw_below_drewN HW.out _)).mono ?_; rintro e w' ⟨rfl, ⟨m, rfl⟩⟩) | (go_at_call_of 11 (Value.slice A6 x.f6.length c6); refine (HC6.out _ (by first | exact HW.out | exact pw_below_drewN HW.out _)).mono ?_; rintro e w' ⟨rfl, ⟨m, rfl⟩⟩))
            all_goals
              go_meet
              refine ⟨_, rfl, ⟨?_⟩, ?_⟩
              · simp [sameI, *]
              · first | exact ⟨_, rfl⟩ | exact ⟨0, rfl⟩
          case rest =>
            obtain ⟨q, rfl, HQ, m, rfl⟩ := hcut
            have HW2 := Aside0.mk (below_then HB.out HB.out.size (pw_below_drewN HW.out m))
            clear HC5 HC6 x0 x1 x2 x3 x4 x5 x6 y0 y1 y2 y3 y4 y5 y6
            cases q
            · have HE : Aside0 (sameI x y = true) := ⟨not_true HQ.out⟩
              go_wp2_with fail
              go_roundg (l0.length - (j + 1))
              case measure => omega
              case rel => exact ⟨j + 1, by omega, by omega, by go_num, ⟨by rw [← HSTEP.out, HE.out]; rfl⟩, HW2⟩
            · have HE : Aside0 (sameI x y = false) := ⟨not_false_ HQ.out⟩
              go_wp2_with fail
              go_ret
              exact ⟨by rw [← HSTEP.out, HE.out]; rfl, HW2.out⟩
      · have hltz : ¬ (j : Int) < (l0.length : Int) := by omega
        have HJ := Aside0.mk (show l0.length ≤ j by omega)
        go_wp2_with fail
        go_ret
        exact ⟨by rw [← HS.out, List.drop_eq_nil_of_le HJ.out, List.drop_eq_nil_of_le (by have := HLEN.out; have := HJ.out; omega)]; rfl, HB.out⟩
  · have hlenb : ((l0.length : Int) != (l1.length : Int)) = true := by simp; omega
    have HF := Aside0.mk (show false = r from by rw [← HR.out, sameIL_len _ _ hlen])
    clear hlen
    go_enter Tryd.func69, Tryd.ntmps69
    go_wp2_with fail
    go_ret
    exact ⟨by rw [← HF.out]; rfl, Below.refl _ _⟩
def fescueref06_sameIns.f (_ : Nat) (l0 l1 : List S24) : Option Bool := some (sameIL l0 l1)
theorem fescueref06_sameIns.mono : ∀ l0 l1 k, LeO (fescueref06_sameIns.f k l0 l1) (fescueref06_sameIns.f (k + 1) l0 l1) := fun _ _ _ => LeO.refl _
theorem fescueref06_sameIns.calls (k : Nat) (A0 : Option Addr) (c0 : Nat) (l0 : List S24) (A1 : Option Addr) (c1 : Nat) (l1 : List S24) (r : Bool) (w : World) (hr0 : Kd.C k24 w A0 l0.length l0) (hc0 : l0.length ≤ c0) (hr1 : Kd.C k24 w A1 l1.length l1) (hc1 : l1.length ≤ c1) (h : fescueref06_sameIns.f k l0 l1 = some r) :
    Calls Tryd.prog 69 #[.slice A0 l0.length c0, .slice A1 l1.length c1] w fun e w' => e = .returned (.bool r) ∧ Below w.heap.size w w' := sameIns_any A0 A1 c0 c1 l0 l1 w hr0 hr1 r (Option.some.inj h)
end Go.Proofs.YtfjmpfecnemoiaaDoor.Q
