/-
  flat.Fields and flat.Flat: the walker that calls itself.
-/
import Derived.Test.YtfjmpfecnemoiaaQWalk
import Derived.WalkMore
namespace Go.Proofs.Ytfjmpfecnemoiaa.Q
open Go.RowKit Go.Proofs.YtfjmpfecnemoiaaW.PrintWords Go.Proofs.YtfjmpfecnemoiaaW.PrintLast Go.Proofs.YtfjmpfecnemoiaaW.PrintMore
set_option linter.unusedVariables false
set_option linter.unusedSimpArgs false

theorem WalkSt.alloc' {w W : World} {g fid : Nat} {tA : Option Addr} {tn tc : Nat} {fld : Bool} {a : Int × List Int} (h : WalkSt w g fid tA tn tc fld a W) (o : Obj) : WalkSt w g fid tA tn tc fld a (W.alloc o) := by
  obtain ⟨v, hv, ho⟩ := h.row
  exact ⟨below_alloc h.below _, h.hg, v, blk_alloc hv _, ho.alloc _⟩

/-- What stands of a round's begin: what is still to be gone through. -/
structure WalkRel (f : Int × List Int → Int → Option (Int × List Int)) (ps : List Int) (r : Int × List Int) (w : World) (g fid : Nat) (tA : Option Addr) (tn tc : Nat) (fld : Bool) (W1 Wr : World) : Prop where
  rel : ∃ a, ps.foldlM f a = some r ∧ WalkSt w g fid tA tn tc fld a Wr
  keeps : Keeps31 W1 Wr
  size : W1.heap.size ≤ Wr.heap.size

set_option maxHeartbeats 1000000 in
theorem walk_struct (w : World) (g fid : Nat) (fld : Bool) (tA : Option Addr) (tc : Nat) (t : List S31) (hr : Kd.C k31 w tA t.length t) (i : Int) (a r : Int × List Int) (h0 : 0 ≤ i) (h1 : i < (t.length : Int)) (h4 : (rd_T31 t i).f0 = 4) (k : Nat)
    (ih : ∀ (i : Int) (a r : Int × List Int), walkF k fld t i a = some r → ∀ W, WalkSt w g fid tA t.length tc fld a W → Calls Try.prog 52 #[.pointer (some ⟨g, 0, none⟩), .int .i64 i] W (WalkPost w g fid tA t.length tc fld r W))
    (hf : (rd_T31 t i).f3.foldlM (fun a p => walkF k fld t p a) a = some r) (W : World) (hS : WalkSt w g fid tA t.length tc fld a W) :
    Calls Try.prog 52 #[.pointer (some ⟨g, 0, none⟩), .int .i64 i] W (WalkPost w g fid tA t.length tc fld r W) := by
  have hu31 := Try.underlying31
  have HS := Aside0.mk hS
  have IH := Aside0.mk ih
  have HF := Aside0.mk hf
  obtain ⟨ad, A3, c3, e, hx0, hx1, hx2, hx3, hl3, hr3⟩ := at_T31B hr i h0 h1
  cases e
  replace hx0 := hx0 W hS.below
  replace hx1 := hx1 W hS.below
  replace hx2 := hx2 W hS.below
  replace hx3 := hx3 W hS.below
  have hbig : ((rd_T31 t i).f3.length : Int) ≤ 9223372036854775807 := by have := (hr3 w (Below.refl _ _)).2.1; omega
  have HPS := Aside0.mk hr3
  obtain ⟨v, hv, -⟩ := hS.row
  have hv0 : W.cell? ⟨g, 0, none⟩ = some (.slice (some ad) t.length tc) := (blk_cell hv 0).trans rfl
  have hz : g < W.heap.size := blk_lt hv
  have c4 : ((rd_T31 t i).f0 == 4) = true := beq_iff_eq.mpr h4
  clear hr hS ih hf hr3 hl3 h4 hv
  go_enter Try.func52, Try.ntmps52
  go_wp2_with fail
  generalize hps : (rd_T31 t i).f3 = ps at *
  go_loopg [6, 50] ps.length (fun gg v6 v50 Wr => ∃ j : Nat, j ≤ ps.length ∧ ps.length - j ≤ gg ∧ v50 = .int .i64 j ∧ Aside0 (WalkRel (fun a p => walkF k fld t p a) (ps.drop j) r w g fid (some ad) t.length tc fld W Wr))
  case atStart => exact ⟨0, Nat.zero_le _, by omega, rfl, ⟨⟨a, HF.out, HS.out.alloc' _⟩, Keeps31.alloc _, by simp⟩⟩
  case round =>
    obtain ⟨j, hj, hg, rfl, HC⟩ := hrel
    by_cases hlt : j < ps.length
    · have hltz : (j : Int) < (ps.length : Int) := by omega
      obtain ⟨b, ha, hSt⟩ := HC.out.rel
      rw [List.drop_eq_getElem_cons hlt, List.foldlM_cons] at ha
      obtain ⟨a1, ha1, ha2⟩ := Option.bind_eq_some_iff.1 ha
      obtain ⟨ad3, ead, hx⟩ := Kd.at_int (HPS.out wr hSt.below) (j : Int) (by omega) hltz
      rw [Int.toNat_natCast, rd_at hlt] at hx
      cases ead
      have HA := Aside0.mk ha2
      have hcall := IH.out ps[j] b a1 ha1 wr hSt
      clear ha ha1 ha2 hSt
      generalize ps[j] = p at hx hcall
      go_wp2_with fail
      refine hcall.mono ?_
      rintro e w' ⟨rfl, hs', hk', hz'⟩
      clear hcall hx
      go_wp2_with fail
      go_roundg (ps.length - (j + 1))
      case measure => omega
      case rel => exact ⟨j + 1, by omega, by omega, by go_num, ⟨⟨a1, HA.out, hs'⟩, HC.out.keeps.trans hk', Nat.le_trans HC.out.size hz'⟩⟩
    · have hltz : ¬ (j : Int) < (ps.length : Int) := by omega
      have HJ := Aside0.mk (show ps.length ≤ j by omega)
      go_wp2_with fail
      go_end0
      obtain ⟨b, ha, hSt⟩ := HC.out.rel
      rw [List.drop_eq_nil_of_le HJ.out] at ha
      obtain rfl := Option.some.inj ha
      exact ⟨rfl, hSt, HC.out.keeps, HC.out.size⟩
/-! ARRAYS -/
theorem WalkSt.setFlat {w W : World} {g fid : Nat} {tA : Option Addr} {tn tc : Nat} {fld : Bool} {fl : Int} {out : List Int} (h : WalkSt w g fid tA tn tc fld (fl, out) W) (n : Int) : WalkSt w g fid tA tn tc fld (n, out) (W.setCell ⟨g, 3, none⟩ (.int .i64 n)) := by
  obtain ⟨v, hv, ho⟩ := h.row
  exact ⟨h.below.setCell h.hg _, h.hg, v, blk_put hv 3 _ rfl, own_setCell ho (p := ⟨g, 3, none⟩) (own_ne_block ho hv (by decide)) _⟩
theorem WalkSt.keepFlat {w W : World} {g fid : Nat} {tA : Option Addr} {tn tc : Nat} {fld : Bool} {a : Int × List Int} (h : WalkSt w g fid tA tn tc fld a W) (n : Int) : Keeps31 W (W.setCell ⟨g, 3, none⟩ (.int .i64 n)) := by
  obtain ⟨v, hv, ho⟩ := h.row
  exact fun b cs hb => blk_far hb (blk_ne hb hv (by decide)) _

set_option maxHeartbeats 2000000 in
theorem walk_arrayF (w : World) (g fid : Nat) (tA : Option Addr) (tc : Nat) (t : List S31) (hr : Kd.C k31 w tA t.length t) (i : Int) (fl : Int) (out : List Int) (r : Int × List Int) (h0 : 0 ≤ i) (h1 : i < (t.length : Int)) (h5 : (rd_T31 t i).f0 = 5) (hm : (rd_T31 t i).f2 ≤ 1000) (k : Nat)
    (ih : ∀ (i : Int) (a r : Int × List Int), walkF k false t i a = some r → ∀ W, WalkSt w g fid tA t.length tc false a W → Calls Try.prog 52 #[.pointer (some ⟨g, 0, none⟩), .int .i64 i] W (WalkPost w g fid tA t.length tc false r W))
    (hf : (List.replicate ((rd_T31 t i).f2.toNat) (rd_T31 t i).f1).foldlM (fun b p => walkF k false t p (fl, b.2)) (fl, out) = some r) (W : World) (hS : WalkSt w g fid tA t.length tc false (fl, out) W) :
    Calls Try.prog 52 #[.pointer (some ⟨g, 0, none⟩), .int .i64 i] W (WalkPost w g fid tA t.length tc false r W) := by
  have hu31 := Try.underlying31
  have HS := Aside0.mk hS
  have IH := Aside0.mk ih
  have HF := Aside0.mk hf
  obtain ⟨ad, A3, c3, e, hx0, hx1, hx2, hx3, hl3, hr3⟩ := at_T31B hr i h0 h1
  cases e
  replace hx0 := hx0 W hS.below
  replace hx1 := hx1 W hS.below
  replace hx2 := hx2 W hS.below
  replace hx3 := hx3 W hS.below
  obtain ⟨v, hv, -⟩ := hS.row
  have hv0 : W.cell? ⟨g, 0, none⟩ = some (.slice (some ad) t.length tc) := (blk_cell hv 0).trans rfl
  have hv3 : W.cell? ⟨g, 3, none⟩ = some (.int .i64 fl) := (blk_cell hv 3).trans rfl
  have hz : g < W.heap.size := blk_lt hv
  have c4 : ((rd_T31 t i).f0 == 4) = false := by rw [h5]; rfl
  have c5 : ((rd_T31 t i).f0 == 5) = true := beq_iff_eq.mpr h5
  clear hr hS ih hf hr3 hl3 h5 hv
  go_enter Try.func52, Try.ntmps52
  go_wp2_with fail
  generalize hL : (rd_T31 t i).f3.length = len at *
  generalize hx : (rd_T31 t i).f0 = f0 at *
  generalize hy : (rd_T31 t i).f1 = f1 at *
  generalize hm2 : (rd_T31 t i).f2 = m at *
  clear hL hx hy hm2
  go_step3
  go_wp2_with fail
  go_step3
  go_wp2_with fail
  go_loopg [9, 68] m.toNat (fun gg v9 v68 Wr => ∃ j : Nat, j ≤ m.toNat ∧ m.toNat - j ≤ gg ∧ v68 = .int .i64 j ∧ Aside0 (WalkRel (fun b p => walkF k false t p (fl, b.2)) (List.replicate ((m.toNat) - j) f1) r w g fid (some ad) t.length tc false (W.alloc (.cells #[.int .u8 f0, .int .i64 f1, .int .i64 m, .slice A3 len c3] 31)) Wr))
  case atStart => exact ⟨0, Nat.zero_le _, by omega, rfl, ⟨⟨(fl, out), HF.out, HS.out.alloc' _⟩, fun _ _ h => h, Nat.le_refl _⟩⟩
  case round =>
    obtain ⟨j, hj, hg, rfl, HC⟩ := hrel
    by_cases hlt : j < m.toNat
    · have hltz : (j : Int) < m := by omega
      obtain ⟨⟨flb, outb⟩, ha, hSt⟩ := HC.out.rel
      obtain ⟨v, hv, -⟩ := hSt.row
      have hv1 : wr.cell? ⟨g, 1, none⟩ = some (.bool false) := (blk_cell hv 1).trans rfl
      have hv3 : wr.cell? ⟨g, 3, none⟩ = some (.int .i64 flb) := (blk_cell hv 3).trans rfl
      have hvf := blk_frozen hv 3
      have hz : g < wr.heap.size := blk_lt hv
      have hx1r : wr.cell? ⟨W.heap.size, 1, none⟩ = some (.int .i64 f1) := (blk_cell (HC.out.keeps _ _ (blk_new W _)) 1).trans rfl
      have hgne : g ≠ W.heap.size := by
        intro e
        have h2 := HC.out.keeps _ _ (blk_new W _)
        rw [← e] at h2
        exact blk_ne h2 hv (by decide) rfl
      rw [show (m.toNat) - j = ((m.toNat) - (j + 1)) + 1 from by omega, List.replicate_succ, List.foldlM_cons] at ha
      obtain ⟨a1, ha1, ha2⟩ := Option.bind_eq_some_iff.1 ha
      have HA := Aside0.mk ha2
      have hcall := IH.out f1 (fl, outb) a1 ha1 _ (hSt.setFlat fl)
      have HKF := Aside0.mk (hSt.keepFlat fl)
      have HCALL := Aside0.mk hcall
      clear ha ha1 ha2 hSt hv hcall
      go_wp2_with fail
      refine HCALL.out.mono ?_
      rintro e w' ⟨rfl, hs', hk', hz'⟩
      clear HCALL hx1r hv1 hv3 hvf hz
      go_wp2_with fail
      go_roundg (m.toNat - (j + 1))
      case measure => omega
      case rel => exact ⟨j + 1, by omega, by omega, by go_num, ⟨⟨a1, HA.out, hs'⟩, (HC.out.keeps.trans HKF.out).trans hk', Nat.le_trans HC.out.size (Nat.le_trans (by simp) hz')⟩⟩
    · have hltz : ¬ (j : Int) < m := by omega
      have HJ := Aside0.mk (show (m.toNat) - j = 0 by omega)
      go_wp2_with fail
      go_end0
      obtain ⟨b, ha, hSt⟩ := HC.out.rel
      rw [HJ.out] at ha
      obtain rfl := Option.some.inj ha
      exact ⟨rfl, hSt, (Keeps31.alloc _).trans HC.out.keeps, Nat.le_trans (by simp) HC.out.size⟩

set_option maxHeartbeats 2000000 in
theorem walk_arrayT (w : World) (g fid : Nat) (tA : Option Addr) (tc : Nat) (t : List S31) (hr : Kd.C k31 w tA t.length t) (i : Int) (fl : Int) (out : List Int) (r : Int × List Int) (h0 : 0 ≤ i) (h1 : i < (t.length : Int)) (h5 : (rd_T31 t i).f0 = 5) (hm : (rd_T31 t i).f2 ≤ 1000) (k : Nat)
    (ih : ∀ (i : Int) (a r : Int × List Int), walkF k true t i a = some r → ∀ W, WalkSt w g fid tA t.length tc true a W → Calls Try.prog 52 #[.pointer (some ⟨g, 0, none⟩), .int .i64 i] W (WalkPost w g fid tA t.length tc true r W))
    (hf : (List.replicate (min 1 (rd_T31 t i).f2.toNat) (rd_T31 t i).f1).foldlM (fun b p => walkF k true t p (fl, b.2)) (fl, out) = some r) (W : World) (hS : WalkSt w g fid tA t.length tc true (fl, out) W) :
    Calls Try.prog 52 #[.pointer (some ⟨g, 0, none⟩), .int .i64 i] W (WalkPost w g fid tA t.length tc true r W) := by
  have hu31 := Try.underlying31
  have HS := Aside0.mk hS
  have IH := Aside0.mk ih
  have HF := Aside0.mk hf
  obtain ⟨ad, A3, c3, e, hx0, hx1, hx2, hx3, hl3, hr3⟩ := at_T31B hr i h0 h1
  cases e
  replace hx0 := hx0 W hS.below
  replace hx1 := hx1 W hS.below
  replace hx2 := hx2 W hS.below
  replace hx3 := hx3 W hS.below
  obtain ⟨v, hv, -⟩ := hS.row
  have hv0 : W.cell? ⟨g, 0, none⟩ = some (.slice (some ad) t.length tc) := (blk_cell hv 0).trans rfl
  have hv3 : W.cell? ⟨g, 3, none⟩ = some (.int .i64 fl) := (blk_cell hv 3).trans rfl
  have hz : g < W.heap.size := blk_lt hv
  have c4 : ((rd_T31 t i).f0 == 4) = false := by rw [h5]; rfl
  have c5 : ((rd_T31 t i).f0 == 5) = true := beq_iff_eq.mpr h5
  clear hr hS ih hf hr3 hl3 h5 hv
  go_enter Try.func52, Try.ntmps52
  go_wp2_with fail
  generalize hL : (rd_T31 t i).f3.length = len at *
  generalize hx : (rd_T31 t i).f0 = f0 at *
  generalize hy : (rd_T31 t i).f1 = f1 at *
  generalize hm2 : (rd_T31 t i).f2 = m at *
  clear hL hx hy hm2
  go_step3
  go_wp2_with fail
  go_step3
  go_wp2_with fail
  go_loopg [9, 68] m.toNat (fun gg v9 v68 Wr => ∃ j : Nat, j ≤ m.toNat ∧ m.toNat - j ≤ gg ∧ v68 = .int .i64 j ∧ Aside0 (WalkRel (fun b p => walkF k true t p (fl, b.2)) (List.replicate ((min 1 m.toNat) - j) f1) r w g fid (some ad) t.length tc true (W.alloc (.cells #[.int .u8 f0, .int .i64 f1, .int .i64 m, .slice A3 len c3] 31)) Wr))
  case atStart => exact ⟨0, Nat.zero_le _, by omega, rfl, ⟨⟨(fl, out), HF.out, HS.out.alloc' _⟩, fun _ _ h => h, Nat.le_refl _⟩⟩
  case round =>
    obtain ⟨j, hj, hg, rfl, HC⟩ := hrel
    by_cases hlt : j < m.toNat
    · have hltz : (j : Int) < m := by omega
      obtain ⟨⟨flb, outb⟩, ha, hSt⟩ := HC.out.rel
      obtain ⟨v, hv, -⟩ := hSt.row
      have hv1 : wr.cell? ⟨g, 1, none⟩ = some (.bool true) := (blk_cell hv 1).trans rfl
      have hv3 : wr.cell? ⟨g, 3, none⟩ = some (.int .i64 flb) := (blk_cell hv 3).trans rfl
      have hvf := blk_frozen hv 3
      have hz : g < wr.heap.size := blk_lt hv
      have hx1r : wr.cell? ⟨W.heap.size, 1, none⟩ = some (.int .i64 f1) := (blk_cell (HC.out.keeps _ _ (blk_new W _)) 1).trans rfl
      have hgne : g ≠ W.heap.size := by
        intro e
        have h2 := HC.out.keeps _ _ (blk_new W _)
        rw [← e] at h2
        exact blk_ne h2 hv (by decide) rfl
      by_cases hj0 : 0 < j
      · have hj0z : (0 : Int) < (j : Int) := by omega
        rw [show min 1 m.toNat - j = 0 from by omega] at ha
        obtain rfl := Option.some.inj ha
        have HSt := Aside0.mk hSt
        clear ha hSt hv
        go_wp2_with fail
        rw [Exit.noGoto_normal]
        go_wp2_with fail
        go_end0
        exact ⟨rfl, HSt.out, (Keeps31.alloc _).trans HC.out.keeps, Nat.le_trans (by simp) HC.out.size⟩
      · obtain rfl : j = 0 := by omega
        rw [show (min 1 m.toNat) - 0 = ((min 1 m.toNat) - (0 + 1)) + 1 from by omega, List.replicate_succ, List.foldlM_cons] at ha
        obtain ⟨a1, ha1, ha2⟩ := Option.bind_eq_some_iff.1 ha
        have HA := Aside0.mk ha2
        have hcall := IH.out f1 (fl, outb) a1 ha1 _ (hSt.setFlat fl)
        have HKF := Aside0.mk (hSt.keepFlat fl)
        have HCALL := Aside0.mk hcall
        clear ha ha1 ha2 hSt hv hcall
        go_wp2_with fail
        refine HCALL.out.mono ?_
        rintro e w' ⟨rfl, hs', hk', hz'⟩
        clear HCALL hx1r hv1 hv3 hvf hz
        go_wp2_with fail
        go_roundg (m.toNat - (0 + 1))
        case measure => omega
        case rel => exact ⟨0 + 1, by omega, by omega, by go_num, ⟨⟨a1, HA.out, hs'⟩, (HC.out.keeps.trans HKF.out).trans hk', Nat.le_trans HC.out.size (Nat.le_trans (by simp) hz')⟩⟩
    · have hltz : ¬ (j : Int) < m := by omega
      have HJ := Aside0.mk (show (min 1 m.toNat) - j = 0 by omega)
      go_wp2_with fail
      go_end0
      obtain ⟨b, ha, hSt⟩ := HC.out.rel
      rw [HJ.out] at ha
      obtain rfl := Option.some.inj ha
      exact ⟨rfl, hSt, (Keeps31.alloc _).trans HC.out.keeps, Nat.le_trans (by simp) HC.out.size⟩

theorem walk_calls (w : World) (g fid : Nat) (fld : Bool) (hfid : ∀ args w, (callFunc fid args).run Try.prog w = .ok (.enter fid args) w) (htell : Tells fid fld) (tA : Option Addr) (tc : Nat) (t : List S31) (hr : Kd.C k31 w tA t.length t) (k : Nat) : ∀ (i : Int) (a r : Int × List Int), walkF k fld t i a = some r → ∀ W, WalkSt w g fid tA t.length tc fld a W →
      Calls Try.prog 52 #[.pointer (some ⟨g, 0, none⟩), .int .i64 i] W (WalkPost w g fid tA t.length tc fld r W) := by
  induction k with
  | zero => intro i a r h; simp [walkF] at h
  | succ k ih =>
    intro i a r h W hS
    simp only [walkF] at h
    by_cases h0 : 0 ≤ i
    · rw [if_pos h0] at h
      by_cases h1 : i < (t.length : Int)
      · rw [if_pos h1] at h
        by_cases h4 : (rd_T31 t i).f0 = 4
        · rw [if_pos h4] at h
          exact walk_struct w g fid fld tA tc t hr i a r h0 h1 h4 k ih h W hS
        · rw [if_neg h4] at h
          by_cases h5 : (rd_T31 t i).f0 = 5
          · rw [if_pos h5] at h
            by_cases hm : (rd_T31 t i).f2 ≤ 1000
            · rw [if_pos hm] at h
              obtain ⟨fl, out⟩ := a
              cases fld
              · exact walk_arrayF w g fid tA tc t hr i fl out r h0 h1 h5 hm k ih h W hS
              · exact walk_arrayT w g fid tA tc t hr i fl out r h0 h1 h5 hm k ih h W hS
            · rw [if_neg hm] at h
              cases h
          · rw [if_neg h5] at h
            by_cases hl : a.2.length < 1099511627776
            · rw [if_pos hl] at h
              obtain rfl := Option.some.inj h
              exact walk_leaf w g fid fld hfid htell tA tc t hr i a.1 a.2 h0 h1 h4 h5 hl W hS
            · rw [if_neg hl] at h
              cases h
      · rw [if_neg h1] at h
        cases h
    · rw [if_neg h0] at h
      cases h
theorem walkF_mono_fold {f g : Int × List Int → Int → Option (Int × List Int)} (h : ∀ a p r, f a p = some r → g a p = some r) (ps : List Int) : ∀ a r, ps.foldlM f a = some r → ps.foldlM g a = some r := by
  induction ps with
  | nil => intro a r h'; exact h'
  | cons p ps ih =>
    intro a r h'
    rw [List.foldlM_cons] at h' ⊢
    obtain ⟨b, h1, h2⟩ := Option.bind_eq_some_iff.1 h'
    exact Option.bind_eq_some_iff.2 ⟨b, h _ _ _ h1, ih _ _ h2⟩
theorem walkF_mono (k : Nat) : ∀ (fld : Bool) (t : List S31) (i : Int) (a r : Int × List Int), walkF k fld t i a = some r → walkF (k + 1) fld t i a = some r := by
  induction k with
  | zero => intro fld t i a r h; simp [walkF] at h
  | succ k ih =>
    intro fld t i a r h
    rw [walkF] at h ⊢
    split at h
    · rename_i h0
      rw [if_pos h0]
      split at h
      · rename_i h1
        rw [if_pos h1]
        split at h
        · rename_i h4
          rw [if_pos h4]
          exact walkF_mono_fold (fun a p r => ih fld t p a r) _ _ _ h
        · rename_i h4
          rw [if_neg h4]
          split at h
          · rename_i h5
            rw [if_pos h5]
            split at h
            · rename_i hm
              rw [if_pos hm]
              exact walkF_mono_fold (fun b p r => ih fld t p _ r) _ _ _ h
            · cases h
          · rename_i h5
            rw [if_neg h5]
            exact h
      · cases h
    · cases h

/-! FIELDS AND FLAT -/
theorem tells_fields : Tells 51 true := by
  intro W i fl
  go_enter Try.func51, Try.ntmps51
  go_wp2_with fail
  go_ret
  exact ⟨rfl, rfl⟩
theorem tells_flat : Tells 53 false := by
  intro W i fl
  go_enter Try.func53, Try.ntmps53
  go_wp2_with fail
  go_ret
  exact ⟨rfl, rfl⟩

def flat_Fields.f (k : Nat) (l0 : List S31) (a1 : Int) : Option (List Int × Int) :=
  (types_Cells.f k l0 a1).bind fun c => if c.2 = 0 then (walkF k true l0 a1 (0, [])).bind fun r => some (r.2, 0) else some ([], c.2)
theorem flat_Fields.mono : ∀ a0 a1 k, LeO (flat_Fields.f k a0 a1) (flat_Fields.f (k + 1) a0 a1) := by
  intro a0 a1 k
  unfold flat_Fields.f
  exact LeO.bind (types_Cells.mono _ _ _) (fun _ => LeO.ite (LeO.bind (fun r h => walkF_mono _ _ _ _ _ r h) (fun _ => LeO.refl _)) (LeO.refl _))
def flat_Flat.f (k : Nat) (l0 : List S31) (a1 a2 : Int) : Option (Int × Int) :=
  (types_Cells.f k l0 a1).bind fun c => if c.2 = 0 then (walkF k false l0 a1 (0, [])).bind fun r => (if 0 ≤ a2 then (if a2 < (r.2.length : Int) then some (rd r.2 a2, 0) else some (0, 2)) else some (0, 2)) else some (0, c.2)
theorem flat_Flat.mono : ∀ a0 a1 a2 k, LeO (flat_Flat.f k a0 a1 a2) (flat_Flat.f (k + 1) a0 a1 a2) := by
  intro a0 a1 a2 k
  unfold flat_Flat.f
  exact LeO.bind (types_Cells.mono _ _ _) (fun _ => LeO.ite (LeO.bind (fun r h => walkF_mono _ _ _ _ _ r h) (fun _ => LeO.refl _)) (LeO.refl _))

set_option maxHeartbeats 2000000 in
theorem flat_Fields.calls (k : Nat) (A0 : Option Addr) (c0 : Nat) (l0 : List S31) (a1 : Int) (r1 : List Int) (r2 : Int) (w : World) (hr0 : Kd.C k31 w A0 l0.length l0) (hc0 : l0.length ≤ c0) (h : flat_Fields.f k l0 a1 = some (r1, r2)) :
    Calls Try.prog 25 #[.slice A0 l0.length c0, .int .i64 a1] w fun e w' => ∃ v0_ : Value, e = .returned (.tuple #[v0_, .int .i64 r2]) ∧ Kd.R (Kd.int .i64) 3 w' w.heap.size (fun _ => True) v0_ r1 ∧ Below w.heap.size w w' := by
  obtain ⟨⟨cs, er⟩, he, h⟩ := Option.bind_eq_some_iff.1 h
  have HC := Aside0.mk (types_Cells.calls k A0 c0 l0 a1 cs er w hr0 hc0 he)
  have HR0 := Aside0.mk hr0
  clear he hr0 hc0
  by_cases e0 : er = 0
  · rw [if_pos e0] at h
    subst e0
    obtain ⟨⟨fl, out⟩, hw, h⟩ := Option.bind_eq_some_iff.1 h
    have HE := Aside0.mk (Prod.mk.inj (Option.some.inj h))
    have HW := Aside0.mk (fun (g : Nat) (W : World) => walk_calls w g 51 true (enters_of Try.func51 (by kernel_rfl) rfl) tells_fields A0 c0 l0 HR0.out k a1 (0, []) (fl, out) hw W)
    clear h hw HR0
    go_enter Try.func25, Try.ntmps25
    go_wp2_with fail
    refine HC.out.mono ?_
    rintro e w1 ⟨v0, rfl, _, hb⟩
    have HB := Aside0.mk hb
    clear hb HC
    go_wp2_with fail
    refine (HW.out w1.heap.size _ ⟨below_alloc HB.out _, HB.out.size, .slice none 0 0, blk_new _ _, own_nil _ _ _ _⟩).mono ?_
    rintro e w2 ⟨rfl, hS, -, -⟩
    obtain ⟨v, hv, ho⟩ := hS.row
    have hv4 : w2.cell? ⟨w1.heap.size, 4, none⟩ = some v := (blk_cell hv 4).trans rfl
    have HO := Aside0.mk ho
    have HB2 := Aside0.mk hS.below
    clear hS hv ho HW
    go_wp2_with fail
    go_ret2
    rw [← HE.out.1, ← HE.out.2]
    exact ⟨v, rfl, Kd.R_of_own HO.out (fun _ _ => trivial), HB2.out⟩
  · rw [if_neg e0] at h
    have e0b : (er != 0) = true := bne_iff_ne.mpr e0
    have HE := Aside0.mk (Prod.mk.inj (Option.some.inj h))
    clear h e0 HR0
    go_enter Try.func25, Try.ntmps25
    go_wp2_with fail
    refine HC.out.mono ?_
    rintro e w1 ⟨v0, rfl, _, hb⟩
    have HB := Aside0.mk hb
    clear hb HC
    go_wp2_with fail
    go_ret2
    rw [← HE.out.1, ← HE.out.2]
    exact ⟨_, rfl, Kd.R_nil _ _ _ _ _, HB.out⟩

set_option maxHeartbeats 2000000 in
theorem flat_Flat.calls (k : Nat) (A0 : Option Addr) (c0 : Nat) (l0 : List S31) (a1 : Int) (a2 : Int) (r1 : Int) (r2 : Int) (w : World) (hr0 : Kd.C k31 w A0 l0.length l0) (hc0 : l0.length ≤ c0) (h : flat_Flat.f k l0 a1 a2 = some (r1, r2)) :
    Calls Try.prog 26 #[.slice A0 l0.length c0, .int .i64 a1, .int .i64 a2] w fun e w' => e = .returned (.tuple #[.int .i64 r1, .int .i64 r2]) ∧ Below w.heap.size w w' := by
  obtain ⟨⟨cs, er⟩, he, h⟩ := Option.bind_eq_some_iff.1 h
  have HC := Aside0.mk (types_Cells.calls k A0 c0 l0 a1 cs er w hr0 hc0 he)
  have HR0 := Aside0.mk hr0
  clear he hr0 hc0
  by_cases e0 : er = 0
  · rw [if_pos e0] at h
    subst e0
    obtain ⟨⟨fl, out⟩, hw, h⟩ := Option.bind_eq_some_iff.1 h
    have HW := Aside0.mk (fun (g : Nat) (W : World) => walk_calls w g 53 false (enters_of Try.func53 (by kernel_rfl) rfl) tells_flat A0 c0 l0 HR0.out k a1 (0, []) (fl, out) hw W)
    have H := Aside0.mk h
    clear h hw HR0
    go_enter Try.func26, Try.ntmps26
    go_wp2_with fail
    refine HC.out.mono ?_
    rintro e w1 ⟨v0, rfl, _, hb⟩
    have HB := Aside0.mk hb
    clear hb HC
    go_wp2_with fail
    refine (HW.out w1.heap.size _ ⟨below_alloc HB.out _, HB.out.size, .slice none 0 0, blk_new _ _, own_nil _ _ _ _⟩).mono ?_
    rintro e w2 ⟨rfl, hS, -, -⟩
    obtain ⟨v, hv, ho⟩ := hS.row
    obtain ⟨A1, c1, rfl, hrd⟩ := own_reads ho
    have hv4 : w2.cell? ⟨w1.heap.size, 4, none⟩ = some (.slice A1 out.length c1) := (blk_cell hv 4).trans rfl
    have HCO := Aside0.mk (Kd.C_of_reads (d := (0 : Int)) (h1 := fun _ => rfl) hrd)
    have HB2 := Aside0.mk hS.below
    clear hS hv ho hrd HW
    by_cases n0 : 0 ≤ a2
    · have n0b : decide (a2 < 0) = false := by simp; omega
      by_cases n1 : a2 < (out.length : Int)
      · have n1b : decide (a2 ≥ (out.length : Int)) = false := by simp; omega
        obtain ⟨aa, ea, hx⟩ := Kd.at_int HCO.out a2 n0 n1
        cases ea
        have HE := Aside0.mk (Prod.mk.inj (Option.some.inj ((by have := H.out; rwa [if_pos n0, if_pos n1] at this : some (rd out a2, (0 : Int)) = some (r1, r2)))))
        clear H n0b n1b
        go_wp2_with fail
        go_ret2
        exact ⟨by rw [← HE.out.1, ← HE.out.2]; rfl, HB2.out⟩
      · have HE := Aside0.mk (Prod.mk.inj (Option.some.inj ((by have := H.out; rwa [if_pos n0, if_neg n1] at this : some ((0 : Int), (2 : Int)) = some (r1, r2)))))
        have n2 : (out.length : Int) ≤ a2 := by omega
        clear H n0b n1
        go_wp2_with fail
        go_ret2
        exact ⟨by rw [← HE.out.1, ← HE.out.2]; rfl, HB2.out⟩
    · have n0b : a2 < 0 := by omega
      have HE := Aside0.mk (Prod.mk.inj (Option.some.inj ((by have := H.out; rwa [if_neg n0] at this : some ((0 : Int), (2 : Int)) = some (r1, r2)))))
      clear H n0
      go_wp2_with fail
      go_ret2
      exact ⟨by rw [← HE.out.1, ← HE.out.2]; rfl, HB2.out⟩
  · rw [if_neg e0] at h
    have e0b : (er != 0) = true := bne_iff_ne.mpr e0
    have HE := Aside0.mk (Prod.mk.inj (Option.some.inj h))
    clear h e0 HR0
    go_enter Try.func26, Try.ntmps26
    go_wp2_with fail
    refine HC.out.mono ?_
    rintro e w1 ⟨v0, rfl, _, hb⟩
    have HB := Aside0.mk hb
    clear hb HC
    go_wp2_with fail
    go_ret2
    exact ⟨by rw [← HE.out.1, ← HE.out.2]; rfl, HB.out⟩
end Go.Proofs.Ytfjmpfecnemoiaa.Q
