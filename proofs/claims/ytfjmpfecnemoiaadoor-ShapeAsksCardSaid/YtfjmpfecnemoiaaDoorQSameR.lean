/-
  fescueref06.Same: whether two programs are the same, by the reference.
-/
import Derived.Test.YtfjmpfecnemoiaaDoorQSameP
import Derived.Test.YtfjmpfecnemoiaaDoorQSameIns
import Derived.Test.YtfjmpfecnemoiaaDoorQSameT
import Derived.StillTailTactics
namespace Go.Proofs.YtfjmpfecnemoiaaDoor.Q
open Go.RowKit Go.Proofs.YtfjmpfecnemoiaaDoorW.PrintWords Go.Proofs.YtfjmpfecnemoiaaDoorW.PrintLast Go.Proofs.YtfjmpfecnemoiaaDoorW.PrintMore
set_option linter.unusedVariables false
set_option linter.unusedSimpArgs false
set_option maxRecDepth 100000

theorem sameIL_all : ∀ l m : List S24, sameIL l m = all2 sameX l m
  | [], [] => rfl
  | [], _ :: _ => rfl
  | _ :: _, [] => rfl
  | x :: xs, y :: ys => by rw [sameIL, all2, sameIL_all xs ys]; rfl
section
attribute [local go_sem high] eqE
set_option maxHeartbeats 8000000 in
theorem sameBlocks_any (A0_ A1_ : Option Addr) (c0_ c1_ : Nat) (l0 l1 : List S58) (w : World) (hr0 : Kd.C k58 w A0_ l0.length l0) (hr1 : Kd.C k58 w A1_ l1.length l1) :
    Calls Tryd.prog 47 #[.slice A0_ l0.length c0_, .slice A1_ l1.length c1_] w fun e w' => e = .returned (.bool (all2 sameK l0 l1)) ∧ Below w.heap.size w w' := by
  have hut := Tryd.underlying58
  have hu26 := Tryd.underlying26
  have HR0 := Aside0.mk hr0
  have HR1 := Aside0.mk hr1
  have hbig : (l0.length : Int) ≤ 9223372036854775807 := by have := hr0.2.1; omega
  generalize hr : all2 sameK l0 l1 = r
  have HR := Aside0.mk hr
  clear hr0 hr1 hr
  by_cases hlen : l0.length = l1.length
  · have hlenb : ((l0.length : Int) != (l1.length : Int)) = false := by rw [hlen]; simp
    have HLEN := Aside0.mk hlen
    clear hlen
    go_enter Tryd.func47, Tryd.ntmps47
    go_wp2_with fail
    go_loopg [5] l0.length (fun gg v5 Wr => ∃ j : Nat, j ≤ l0.length ∧ l0.length - j ≤ gg ∧ v5 = .int .i64 j ∧ Aside0 (all2 sameK (l0.drop j) (l1.drop j) = r) ∧ Aside0 (Below w.heap.size w Wr))
    case atStart => exact ⟨0, Nat.zero_le _, by omega, rfl, HR, ⟨Below.refl _ _⟩⟩
    case round =>
      obtain ⟨j, hj, hg, rfl, HS, HB⟩ := hrel
      by_cases hlt : j < l0.length
      · have hltz : (j : Int) < (l0.length : Int) := by omega
        have hlt1 : j < l1.length := by have := HLEN.out; omega
        have hltz1 : (j : Int) < (l1.length : Int) := by omega
        obtain ⟨ad, A0, c0, e, hx0, hx1, hx2, hx3, hx4, ux0, ux1⟩ := at_T58 (Kd.C_below HR0.out HB.out) (j : Int) (by omega) hltz
        obtain ⟨ae, B0, d0, e', hy0, hy1, hy2, hy3, hy4, uy0, uy1⟩ := at_T58 (Kd.C_below HR1.out HB.out) (j : Int) (by omega) hltz1
        rw [rdT58_at hlt] at hx0 hx1 hx2 hx3 hx4 ux0 ux1
        rw [rdT58_at hlt1] at hy0 hy1 hy2 hy3 hy4 uy0 uy1
        have hstep := HS.out
        rw [List.drop_eq_getElem_cons hlt, List.drop_eq_getElem_cons hlt1, all2] at hstep
        cases e
        cases e'
        generalize l0[j] = x at *
        generalize l1[j] = y at *
        simp only [Int.toNat_natCast] at hx0 hx1 hx2 hx3 hx4 hy0 hy1 hy2 hy3 hy4
        have HCALL := Aside0.mk (fun (W : World) (hb : Below wr.heap.size wr W) => sameIns_any A0 B0 c0 d0 x.f0 y.f0 W (Kd.C_below ux1 hb) (Kd.C_below uy1 hb) (all2 sameX x.f0 y.f0) (sameIL_all _ _))
        have HSTEP := Aside0.mk hstep
        clear hstep ux0 ux1 uy0 uy1
        cases hE : sameE x.f1 y.f1
        · have HK := Aside0.mk (show sameK x y = false from by unfold sameK; rw [hE]; rfl)
          clear HCALL
          go_wp2_with fail
          go_quiet (fail)
          go_wp2_with fail
          go_ret
          exact ⟨by rw [← HSTEP.out, HK.out]; rfl, by first | exact below_drew HB.out | exact pw_below_drewN HB.out _⟩
        · have HK := Aside0.mk (show sameK x y = all2 sameX x.f0 y.f0 from by unfold sameK; rw [hE]; rfl)
          cases hq : all2 sameX x.f0 y.f0
          all_goals
            have HQ := Aside0.mk (HK.out.trans hq)
            rw [hq] at HCALL
            clear hq
            go_wp2_with fail
            go_still_tail 22, (by kernel_rfl)
            change wpList _ _ _ _ _ wr.drew
            go_wp2_with fail
            refine (HCALL.out _ (below_drew (Below.refl _ _))).mono ?_
            rintro e w' ⟨rfl, hb⟩
            have HB2 := Aside0.mk (below_then (below_drew HB.out) (by simpa using HB.out.size) hb)
            clear HCALL hb HB hx0 hx1 hx2 hx3 hx4 hy0 hy1 hy2 hy3 hy4
            go_wp2_with fail
          · go_ret
            exact ⟨by rw [← HSTEP.out, HQ.out]; rfl, HB2.out⟩
          · go_roundg (l0.length - (j + 1))
            case measure => omega
            case rel => exact ⟨j + 1, by omega, by omega, by go_num, ⟨by rw [← HSTEP.out, HQ.out]; rfl⟩, HB2⟩
      · have hltz : ¬ (j : Int) < (l0.length : Int) := by omega
        have HJ := Aside0.mk (show l0.length ≤ j by omega)
        go_wp2_with fail
        go_ret
        exact ⟨by rw [← HS.out, List.drop_eq_nil_of_le HJ.out, List.drop_eq_nil_of_le (by have := HLEN.out; have := HJ.out; omega)]; rfl, HB.out⟩
  · have hlenb : ((l0.length : Int) != (l1.length : Int)) = true := by simp; omega
    have HF := Aside0.mk (show false = r from by rw [← HR.out, all2_len _ _ _ hlen])
    clear hlen
    go_enter Tryd.func47, Tryd.ntmps47
    go_wp2_with fail
    go_ret
    exact ⟨by rw [← HF.out]; rfl, Below.refl _ _⟩
set_option maxHeartbeats 8000000 in
theorem sameR_calls (A0 B0 A1 B1 : Option Addr) (c0 d0 c1 d1 : Nat) (t t' : List S78) (f f' : List S55) (w : World) (hFew : Few t) (ht : Kd.C k78 w A0 t.length t) (hct : t.length ≤ c0) (hf : Kd.C k55 w B0 f.length f) (hcf : f.length ≤ d0) (ht' : Kd.C k78 w A1 t'.length t') (hct' : t'.length ≤ c1) (hf' : Kd.C k55 w B1 f'.length f') (hcf' : f'.length ≤ d1) :
    Calls Tryd.prog 23 #[.agg #[.slice A0 t.length c0, .slice B0 f.length d0], .agg #[.slice A1 t'.length c1, .slice B1 f'.length d1]] w fun e w' => e = .returned (.bool (sameP t f t' f')) ∧ Below w.heap.size w w' := by
  have hu35 := Tryd.underlying35
  have hu55 := Tryd.underlying55
  have HTS := Aside0.mk (fun (V : World) (hb : Below w.heap.size w V) => fescueref03_Same.calls 640 A0 c0 t A1 c1 t' (sameL t t') V (Kd.C_below ht hb) hct (Kd.C_below ht' hb) hct' (sameR2_some t t' hFew 640 (Nat.le_refl _)))
  have HR0 := Aside0.mk hf
  have HR1 := Aside0.mk hf'
  have hbig : (f.length : Int) ≤ 9223372036854775807 := by have := hf.2.1; omega
  generalize hr : sameP t f t' f' = r
  have HR := Aside0.mk hr
  clear ht hct hf hcf ht' hct' hf' hcf' hFew hr
  by_cases hlen : f.length = f'.length
  · have hlenb : ((f.length : Int) != (f'.length : Int)) = false := by rw [hlen]; simp
    have HLEN := Aside0.mk hlen
    clear hlen
    cases hE : sameL t t'
    · have HV := Aside0.mk (show false = r from by rw [← HR.out]; unfold sameP; rw [hE]; rfl)
      rw [hE] at HTS
      clear hE
      go_enter Tryd.func23, Tryd.ntmps23
      go_wp2_with fail
      refine (HTS.out _ (below_alloc (below_alloc (Below.refl _ _) _) _)).mono ?_
      rintro e w1 ⟨rfl, ⟨m, rfl⟩⟩
      go_wp2_with fail
      go_ret
      exact ⟨by rw [← HV.out]; rfl, pw_below_drewN (below_alloc (below_alloc (Below.refl _ _) _) _) _⟩
    · have HV := Aside0.mk (show all2 sameF f f' = r from by rw [← HR.out]; unfold sameP; rw [hE]; rfl)
      rw [hE] at HTS
      clear hE
      go_enter Tryd.func23, Tryd.ntmps23
      go_wp2_with fail
      refine (HTS.out _ (below_alloc (below_alloc (Below.refl _ _) _) _)).mono ?_
      rintro e w1 ⟨rfl, ⟨m, rfl⟩⟩
      have HP := Aside0.mk (fun (o0 o1 : Obj) => blk_drewN (blk_alloc (blkAt (show w.heap.size = w.heap.size from rfl) o0) o1) m)
      have HQ := Aside0.mk (fun (o0 o1 : Obj) => blk_drewN (blkAt (sizeAt (show w.heap.size = w.heap.size from rfl) o0) o1) m)
      have HB0 := Aside0.mk (fun (o0 o1 : Obj) => pw_below_drewN (below_alloc (below_alloc (Below.refl w.heap.size w) o0) o1) m)
      clear HTS
      go_wp2_with fail
      go_loopg [5] f.length (fun gg v5 Wr => ∃ j : Nat, j ≤ f.length ∧ f.length - j ≤ gg ∧ v5 = .int .i64 j ∧ Aside0 (all2 sameF (f.drop j) (f'.drop j) = r) ∧ Aside0 (Below w.heap.size w Wr) ∧
        Aside0 (Wr.heap[w.heap.size]? = some (.cells #[.slice A0 t.length c0, .slice B0 f.length d0] 35 (0, 0))) ∧ Aside0 (Wr.heap[w.heap.size + 1]? = some (.cells #[.slice A1 t'.length c1, .slice B1 f'.length d1] 35 (0, 0))))
      case atStart => exact ⟨0, Nat.zero_le _, by omega, rfl, HV, ⟨HB0.out _ _⟩, ⟨HP.out _ _⟩, ⟨HQ.out _ _⟩⟩
      case round =>
        obtain ⟨j, hj, hg, rfl, HS, HB, HBP, HBQ⟩ := hrel
        clear HP HQ HB0
        obtain ⟨p0, p1, -⟩ := blk2 HBP.out
        obtain ⟨q0, q1, -⟩ := blk2 HBQ.out
        by_cases hlt : j < f.length
        · have hltz : (j : Int) < (f.length : Int) := by omega
          have hlt1 : j < f'.length := by have := HLEN.out; omega
          have hltz1 : (j : Int) < (f'.length : Int) := by omega
          obtain ⟨ad, A2, c2, e, hx0, hx1, ux0, ux1⟩ := at_T55 (Kd.C_below HR0.out HB.out) (j : Int) (by omega) hltz
          obtain ⟨ae, B2, d2, e', hy0, hy1, uy0, uy1⟩ := at_T55 (Kd.C_below HR1.out HB.out) (j : Int) (by omega) hltz1
          rw [rdT55_at hlt] at hx0 hx1 ux0 ux1
          rw [rdT55_at hlt1] at hy0 hy1 uy0 uy1
          have hstep := HS.out
          rw [List.drop_eq_getElem_cons hlt, List.drop_eq_getElem_cons hlt1, all2] at hstep
          cases e
          cases e'
          generalize f[j] = x at *
          generalize f'[j] = y at *
          simp only [Int.toNat_natCast] at hx0 hx1 hy0 hy1
          have HCALL := Aside0.mk (fun (W : World) (hb : Below wr.heap.size wr W) => sameBlocks_any A2 B2 c2 d2 x.f1 y.f1 W (Kd.C_below ux1 hb) (Kd.C_below uy1 hb))
          have HSTEP := Aside0.mk hstep
          clear hstep ux0 ux1 uy0 uy1
          by_cases hE : x.f0 = y.f0
          · have HK := Aside0.mk (show sameF x y = all2 sameK x.f1 y.f1 from by unfold sameF; rw [beq_iff_eq.mpr hE]; rfl)
            have hE1 : (x.f0 != y.f0) = false := bne_eq_false_iff_eq.mpr hE
            clear hE
            cases hq : all2 sameK x.f1 y.f1
            all_goals
              have HQ := Aside0.mk (HK.out.trans hq)
              rw [hq] at HCALL
              clear hq
              go_wp2_with fail
              go_still_tail 26, (by kernel_rfl)
              change wpList _ _ _ _ _ wr.drew
              go_wp2_with fail
              refine (HCALL.out _ (below_drew (Below.refl _ _))).mono ?_
              rintro e w' ⟨rfl, hb⟩
              have HB2 := Aside0.mk (below_then (below_drew HB.out) (by simpa using HB.out.size) hb)
              have HP2 := Aside0.mk (blk_below (blk_drew HBP.out) hb)
              have HQ2 := Aside0.mk (blk_below (blk_drew HBQ.out) hb)
              clear HCALL hb HB hx0 hx1 hy0 hy1 p0 p1 q0 q1 HBP HBQ
              go_wp2_with fail
            · go_ret
              exact ⟨by rw [← HSTEP.out, HQ.out]; rfl, HB2.out⟩
            · go_roundg (f.length - (j + 1))
              case measure => omega
              case rel => exact ⟨j + 1, by omega, by omega, by go_num, ⟨by rw [← HSTEP.out, HQ.out]; rfl⟩, HB2, HP2, HQ2⟩
          · have HK := Aside0.mk (show sameF x y = false from by unfold sameF; rw [beq_eq_false_iff_ne.mpr hE]; rfl)
            have hE1 : (x.f0 != y.f0) = true := bne_iff_ne.mpr hE
            clear HCALL hE
            go_wp2_with fail
            go_quiet (fail)
            go_wp2_with fail
            go_ret
            exact ⟨by rw [← HSTEP.out, HK.out]; rfl, by first | exact below_drew HB.out | exact pw_below_drewN HB.out _⟩
        · have hltz : ¬ (j : Int) < (f.length : Int) := by omega
          have HJ := Aside0.mk (show f.length ≤ j by omega)
          go_wp2_with fail
          go_ret
          exact ⟨by rw [← HS.out, List.drop_eq_nil_of_le HJ.out, List.drop_eq_nil_of_le (by have := HLEN.out; have := HJ.out; omega)]; rfl, HB.out⟩
  · have hlenb : ((f.length : Int) != (f'.length : Int)) = true := by simp; omega
    have HF := Aside0.mk (show false = r from by rw [← HR.out]; unfold sameP; rw [all2_len _ _ _ hlen, Bool.and_false])
    clear hlen HTS
    go_enter Tryd.func23, Tryd.ntmps23
    go_wp2_with fail
    go_ret
    exact ⟨by rw [← HF.out]; rfl, below_alloc (below_alloc (Below.refl _ _) _) _⟩
end
end Go.Proofs.YtfjmpfecnemoiaaDoor.Q
