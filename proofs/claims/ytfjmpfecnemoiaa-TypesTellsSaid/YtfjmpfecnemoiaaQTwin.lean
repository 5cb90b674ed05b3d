/-
  slices.Clone of numbers and of types; types.Twin.
-/
import Derived.Test.YtfjmpfecnemoiaaQCells
import Derived.Lib.LazyBuf
namespace Go.Proofs.Ytfjmpfecnemoiaa.Q
open Go.RowKit Go.Proofs.YtfjmpfecnemoiaaW.PrintWords Go.Proofs.YtfjmpfecnemoiaaW.PrintLast Go.Proofs.YtfjmpfecnemoiaaW.PrintMore
set_option linter.unusedVariables false
set_option linter.unusedSimpArgs false
set_option maxRecDepth 100000

def CloneI (l : List Int) (w : World) (e : Ending) (w' : World) : Prop := ∃ v, e = .returned v ∧ (Kd.int .i64).R 3 w' w.heap.size (fun _ => True) v l ∧ Below w.heap.size w w'
set_option maxHeartbeats 2000000 in
theorem cloneI_calls (A : Option Addr) (c : Nat) (l : List Int) (w : World) (hr : (Kd.int .i64).C w A l.length l) (hl : l.length < 17592186044416) :
    Calls Try.prog 40 #[.slice A l.length c] w (CloneI l w) := by
  have hnil := Go.run_eql_slice_nil (P := Try.prog) w 29 3 A l.length c Try.underlying29
  rcases A with _ | ad
  · have h0 : l = [] := by
      rcases l with _ | ⟨a, l⟩
      · rfl
      · obtain ⟨ad, h, _⟩ := hr.2.2 (by simp)
        cases h
    subst h0
    rw [List.length_nil] at hnil ⊢
    clear hr hl
    go_enter Try.func40, Try.ntmps40
    go_wp2
    go_ret
    exact ⟨_, rfl, Kd.R_nil _ _ _ _ _, Below.refl _ _⟩
  · have HR := Aside0.mk hr
    clear hr
    go_enter Try.func40, Try.ntmps40
    go_wp2_with (first | ((with_reducible refine gate_dst (N := 5) rfl ?_); refine Kd.R_lit (Kd.int .i64) (w0 := w) w.heap.size 3 ?hg (N := 5) ?hd (xs := ([] : List Int)) (inner := []) (ok := fun _ => True) (okp := fun _ => True) ?hr ?hp (fun _ hk => hk) trivial (Below.refl _ _) (Nat.le_refl _) (by simp) ?_; (case hd => rfl); (case hg => rfl); (case hr => first | (go_simp; done) | (go_simp; rfl)); (case hp => exact (Reps.none _ _)); intro v5 w5 ho hb hg_ hnew_; have HO := Aside0.mk ho; have HB := Aside0.mk hb; clear ho hb hg_ hnew_) | (at_builtin; refine Kd.R_append_rows (Kd.int .i64) (w0 := w) w.heap.size rfl (.tmp 5) (.tmp 6) 29 3 (.int .i64 0) 8 rfl Try.underlying29 info3 rfl (by decide) (by omega) v5 [] l _ _ _ (fun _ => True) (fun _ => False) rfl rfl ?aO ?aR (fun _ _ h => h) (fun _ h => h.elim) ?aF ?aB ?aS ?aL ?_; (case aR => exact Kd.C_below HR.out HB.out); (case aB => exact HB.out); (case aF => exact (fun _ _ => trivial)); (case aO => exact HO.out); (case aS => exact HB.out.size); (case aL => simp only [List.length_nil]; omega); intro v7 w7 ho2 hb2 hg2 hat2; have HO2 := Aside0.mk ho2; have HB2 := Aside0.mk hb2; clear ho2 hb2 hg2 hat2))
    go_ret
    exact ⟨_, rfl, HO2.out, HB2.out⟩

def CloneT (l : List S31) (w : World) (e : Ending) (w' : World) : Prop := ∃ v, e = .returned v ∧ (Kd.fixed k31 w).R 31 w' w.heap.size (fun _ => True) v l ∧ Below w.heap.size w w'
set_option maxHeartbeats 2000000 in
theorem cloneT_calls (A : Option Addr) (c : Nat) (l : List S31) (w : World) (hr : k31.C w A l.length l) (hl : l.length ≤ 20) :
    Calls Try.prog 39 #[.slice A l.length c] w (CloneT l w) := by
  have hnil := Go.run_eql_slice_nil (P := Try.prog) w 22 31 A l.length c Try.underlying22
  rcases A with _ | ad
  · have h0 : l = [] := by
      rcases l with _ | ⟨a, l⟩
      · rfl
      · obtain ⟨ad, h, _⟩ := hr.2.2 (by simp)
        cases h
    subst h0
    rw [List.length_nil] at hnil ⊢
    clear hr hl
    go_enter Try.func39, Try.ntmps39
    go_wp2
    go_ret
    exact ⟨_, rfl, Kd.R_nil _ _ _ _ _, Below.refl _ _⟩
  · have HR := Aside0.mk hr
    clear hr
    go_enter Try.func39, Try.ntmps39
    go_wp2_with (first | ((with_reducible refine gate_dst (N := 5) rfl ?_); refine Kd.R_lit (Kd.fixed k31 w) (w0 := w) w.heap.size 31 ?hg (N := 5) ?hd (xs := ([] : List S31)) (inner := []) (ok := fun _ => True) (okp := fun _ => True) ?hr ?hp (fun _ hk => hk) trivial (Below.refl _ _) (Nat.le_refl _) (by simp) ?_; (case hd => rfl); (case hg => rfl); (case hr => first | (go_simp; done) | (go_simp; rfl)); (case hp => exact (Reps.none _ _)); intro v5 w5 ho hb hg_ hnew_; have HO := Aside0.mk ho; have HB := Aside0.mk hb; clear ho hb hg_ hnew_) | (at_builtin; refine Kd.R_append_rows (Kd.fixed k31 w) (Rr := k31.K w) (w0 := w) w.heap.size rfl (.tmp 5) (.tmp 6) 22 31 (.agg #[(.int .u8 0), (.int .i64 0), (.int .i64 0), (.slice none 0 0)]) 48 rfl Try.underlying22 info31 rfl (show 0 < 4 by decide) (by omega) v5 [] l _ _ _ (fun _ => True) (fun _ => False) rfl rfl ?aO ?aR (fun _ _ h => h) (fun _ h => h.elim) ?aF ?aB ?aS ?aL ?_; (case aR => exact HR.out.imp_ HB.out (fun _ _ hp => hp)); (case aB => exact HB.out); (case aF => exact (fun _ _ => trivial)); (case aO => exact HO.out); (case aS => exact HB.out.size); (case aL => simp only [List.length_nil]; omega); intro v7 w7 ho2 hb2 hg2 hat2; have HO2 := Aside0.mk ho2; have HB2 := Aside0.mk hb2; clear ho2 hb2 hg2 hat2))
    go_ret
    exact ⟨_, rfl, HO2.out, HB2.out⟩

/-- A table in new memory: the first j types' parts in new rows, the others' still where they were read. -/
structure TwinInv (w : World) (l : List S31) (g cap j : Nat) (W : World) : Prop where
  below : Below w.heap.size w W
  hg : w.heap.size ≤ g
  cap_ : l.length ≤ cap
  blk : ∃ cur : Array Value, W.heap[g]? = some (.cells cur 31 (0, 0)) ∧ cur.size = cap * 4 ∧ ∀ i (hi : i < l.length), cur[i * 4]? = some (.int .u8 l[i].f0) ∧ cur[i * 4 + 1]? = some (.int .i64 l[i].f1) ∧ cur[i * 4 + 2]? = some (.int .i64 l[i].f2) ∧
    ∃ A c, cur[i * 4 + 3]? = some (.slice A l[i].f3.length c) ∧ l[i].f3.length ≤ c ∧ (j ≤ i → (Kd.int .i64).C w A l[i].f3.length l[i].f3) ∧ (i < j → (Kd.int .i64).R 3 W w.heap.size (fun _ => True) (.slice A l[i].f3.length c) l[i].f3)
theorem twin_start {w w' : World} {l : List S31} {v : Value} (hb : Below w.heap.size w w') (hR : (Kd.fixed k31 w).R 31 w' w.heap.size (fun _ => True) v l) : (l = [] ∧ v = .slice none 0 0) ∨ ∃ g cap, v = .slice (some ⟨g, 0, none⟩) l.length cap ∧ cap ≤ 9223372036854775807 ∧ TwinInv w l g cap 0 w' := by
  obtain ⟨_, inner, ho, hrep⟩ := hR
  rcases ho.2 with ⟨rfl, h0⟩ | ⟨g, cap, cur, rfl, hg, hh, hcap, hm, hs, ht⟩
  · exact .inl ⟨List.length_eq_zero_iff.1 h0, rfl⟩
  · refine .inr ⟨g, cap, rfl, by simpa [maxLen] using hm, hb, hg, hcap, cur, hh, hs, fun i hi => ?_⟩
    have hk := hrep.2 i l[i] (List.getElem?_eq_getElem hi)
    obtain ⟨A3, c3, he, hl3, hr3⟩ := k31_open (show k31.K w l[i] _ from hk)
    have hget : ∀ j, j < 4 → cur[i * 4 + j]? = [Value.int .u8 l[i].f0, .int .i64 l[i].f1, .int .i64 l[i].f2, .slice A3 l[i].f3.length c3][j]? := fun j hj => by
      have he' : (inner.drop (i * 4)).take 4 = [Value.int .u8 l[i].f0, .int .i64 l[i].f1, .int .i64 l[i].f2, .slice A3 l[i].f3.length c3] := he
      have ht' : cur.toList.take (l.length * 4) = inner := ht
      rw [← he', List.getElem?_take_of_lt hj, List.getElem?_drop, ← ht', List.getElem?_take_of_lt (by omega), Array.getElem?_toList]
    exact ⟨hget 0 (by omega), hget 1 (by omega), hget 2 (by omega), A3, c3, hget 3 (by omega), hl3, fun _ => hr3, fun h => by omega⟩
theorem twin_step {w wr w2 : World} {l : List S31} {g cap j : Nat} {o : Obj} {A : Option Addr} {c : Nat} (hI : TwinInv w l g cap j wr) (hj : j < l.length) (hb : Below (wr.alloc o).heap.size (wr.alloc o) w2) (hR : (Kd.int .i64).R 3 w2 (wr.alloc o).heap.size (fun _ => True) (.slice A l[j].f3.length c) l[j].f3) :
    TwinInv w l g cap (j + 1) (w2.setCell ⟨g, j * 4 + 3, none⟩ (.slice A l[j].f3.length c)) := by
  obtain ⟨cur, hh, hs, hc⟩ := hI.blk
  have h2 : w2.heap[g]? = some (.cells cur 31 (0, 0)) := blk_below (blk_alloc hh _) hb
  have hsz : w.heap.size ≤ (wr.alloc o).heap.size := Nat.le_trans hI.below.size (by simp)
  have hb2 : Below w.heap.size w w2 := below_then (below_alloc hI.below _) hsz hb
  have hcap := hI.cap_
  refine ⟨hb2.setCell hI.hg _, hI.hg, hI.cap_, cur.setIfInBounds (j * 4 + 3) (.slice A l[j].f3.length c), blk_put h2 (j * 4 + 3) _ rfl, by rw [Array.size_setIfInBounds]; exact hs, fun i hi => ?_⟩
  obtain ⟨e0, e1, e2, A3, c3, e3, hl3, hC, hRo⟩ := hc i hi
  have hne : ∀ q, q < 3 → (cur.setIfInBounds (j * 4 + 3) (.slice A l[j].f3.length c))[i * 4 + q]? = cur[i * 4 + q]? := fun q hq => Array.getElem?_setIfInBounds_ne (by omega)
  refine ⟨(hne 0 (by omega)).trans e0, (hne 1 (by omega)).trans e1, (hne 2 (by omega)).trans e2, ?_⟩
  by_cases hij : i = j
  · subst hij
    obtain ⟨_, _, hv, hle, _⟩ := Kd.R_reads hR
    injection hv with _ _ hcc
    subst hcc
    refine ⟨A, c, ?_, hle, fun h => by omega, fun _ => Kd.R_set (Kd.R_lower hR hsz) h2 (by decide) _ _⟩
    rw [Array.getElem?_setIfInBounds_self_of_lt (by rw [hs]; omega)]
  · refine ⟨A3, c3, (Array.getElem?_setIfInBounds_ne (by omega)).trans e3, hl3, fun h => hC (by omega), fun h => ?_⟩
    exact Kd.R_set (Kd.R_below (Kd.R_below (hRo (by omega)) (below_alloc (Below.refl _ _) _)) hb) h2 (by decide) _ _

def TwinPost (l : List S31) (w : World) (e : Ending) (w' : World) : Prop := ∃ v, e = .returned v ∧ Below w.heap.size w w' ∧ ((l = [] ∧ v = .slice none 0 0) ∨ ∃ g cap, v = .slice (some ⟨g, 0, none⟩) l.length cap ∧ TwinInv w l g cap l.length w')
set_option maxHeartbeats 4000000 in
theorem twin_calls (A : Option Addr) (c : Nat) (l : List S31) (w : World) (hr : k31.C w A l.length l) (hl : l.length ≤ 20) (hp : ∀ x ∈ l, x.f3.length ≤ 20) :
    Calls Try.prog 14 #[.slice A l.length c] w (TwinPost l w) := by
  have hu31 := Try.underlying31
  have HC := Aside0.mk (cloneT_calls A c l w hr hl)
  have HP := Aside0.mk hp
  clear hr hp
  go_enter Try.func14, Try.ntmps14
  go_wp2_with fail
  refine HC.out.mono ?_
  rintro e w1 ⟨v, rfl, hR, hb⟩
  rcases twin_start hb hR with ⟨rfl, rfl⟩ | ⟨g, cap, rfl, hcap, hI⟩
  · have HB := Aside0.mk hb
    clear hR hb HC hl HP
    go_wp2_with fail
    go_loopg [10] 0 (fun gg v10 Wr => v10 = .int .i64 0 ∧ Aside0 (Below w.heap.size w Wr))
    case atStart => exact ⟨rfl, HB⟩
    case round =>
      obtain ⟨rfl, HB⟩ := hrel
      go_wp2_with fail
      go_ret
      exact ⟨_, rfl, HB.out, .inl ⟨rfl, rfl⟩⟩
  · have HI := Aside0.mk hI
    clear hR hb HC hI
    go_wp2_with fail
    go_loopg [10] l.length (fun gg v10 Wr => ∃ j : Nat, j ≤ l.length ∧ l.length - j ≤ gg ∧ v10 = .int .i64 j ∧ Aside0 (TwinInv w l g cap j Wr))
    case atStart => exact ⟨0, Nat.zero_le _, by omega, rfl, HI⟩
    case round =>
      obtain ⟨j, hj, hg, rfl, HJ⟩ := hrel
      clear HI
      by_cases hlt : j < l.length
      · have hltz : (j : Int) < (l.length : Int) := by omega
        obtain ⟨cur, hh, hs, hc⟩ := HJ.out.blk
        obtain ⟨e0, e1, e2, A3, c3, e3, hl3, hC, _⟩ := hc j hlt
        have hx0 : wr.cell? ⟨g, j * 4, none⟩ = some (.int .u8 l[j].f0) := (blk_cell hh (j * 4)).trans e0
        have hx1 : wr.cell? ⟨g, j * 4 + 1, none⟩ = some (.int .i64 l[j].f1) := (blk_cell hh (j * 4 + 1)).trans e1
        have hx2 : wr.cell? ⟨g, j * 4 + 2, none⟩ = some (.int .i64 l[j].f2) := (blk_cell hh (j * 4 + 2)).trans e2
        have hx3 : wr.cell? ⟨g, j * 4 + 3, none⟩ = some (.slice A3 l[j].f3.length c3) := (blk_cell hh (j * 4 + 3)).trans e3
        have HCL := Aside0.mk (fun (W : World) (hb : Below w.heap.size w W) => cloneI_calls A3 c3 l[j].f3 W (Kd.C_below (hC (Nat.le_refl _)) hb) (by have := HP.out _ (List.getElem_mem hlt); omega))
        have HH := Aside0.mk hh
        have E3 := Aside0.mk e3
        have hblk := blk_lt hh
        clear hc hC hh hs e0 e1 e2 e3 hl3
        go_wp2_with fail
        refine (HCL.out _ (below_alloc HJ.out.below _)).mono ?_
        rintro e w2 ⟨v, rfl, hR, hb⟩
        obtain ⟨A4, c4, rfl⟩ := Kd.R_slice hR
        have HN := Aside0.mk (twin_step HJ.out hlt hb hR)
        have h2 := blk_below (blk_alloc HH.out _) hb
        have hy3 := (blk_cell h2 (j * 4 + 3)).trans E3.out
        have hf3 := blk_frozen h2 (j * 4 + 3)
        clear h2 hR hb hx0 hx1 hx2 hx3 HCL HH E3
        go_wp2_with fail
        go_roundg (l.length - (j + 1))
        case measure => omega
        case rel => exact ⟨j + 1, by omega, by omega, by go_num, HN⟩
      · have hltz : ¬ (j : Int) < (l.length : Int) := by omega
        have HE := Aside0.mk (show j = l.length by omega)
        go_wp2_with fail
        go_ret
        exact ⟨_, rfl, HJ.out.below, .inr ⟨g, cap, rfl, HE.out ▸ HJ.out⟩⟩
end Go.Proofs.Ytfjmpfecnemoiaa.Q
