/-
  slices.Clone of numbers, of types, of functions, of blocks and of instructions.
-/
import Derived.Test.YtfjmpfecnemoiaaDoorQBlk
import Derived.Lib.LazyBuf
namespace Go.Proofs.YtfjmpfecnemoiaaDoor.Q
open Go.RowKit Go.Proofs.YtfjmpfecnemoiaaDoorW.PrintWords Go.Proofs.YtfjmpfecnemoiaaDoorW.PrintLast Go.Proofs.YtfjmpfecnemoiaaDoorW.PrintMore
set_option linter.unusedVariables false
set_option linter.unusedSimpArgs false
set_option maxRecDepth 100000

def CloneI (l : List Int) (u w : World) (e : Ending) (w' : World) : Prop := ∃ v, e = .returned v ∧ (Kd.int .i64).R 3 w' w.heap.size (fun _ => True) v l ∧ Below w.heap.size w w'
set_option maxHeartbeats 2000000 in
theorem cloneI_calls (A : Option Addr) (c : Nat) (l : List Int) (u w : World) (hu : Below u.heap.size u w) (hr : Kd.C (Kd.int .i64) u A l.length l) (hl : l.length < 17592186044416) :
    Calls Tryd.prog 56 #[.slice A l.length c] w (CloneI l u w) := by
  have HU := Aside0.mk hu
  have hnil := Go.run_eql_slice_nil (P := Tryd.prog) w 22 3 A l.length c Tryd.underlying22
  rcases A with _ | ad
  · have h0 : l = [] := by
      rcases l with _ | ⟨a, l⟩
      · rfl
      · obtain ⟨ad, h, _⟩ := hr.2.2 (by simp)
        cases h
    subst h0
    rw [List.length_nil] at hnil ⊢
    clear hr hl hu HU
    go_enter Tryd.func56, Tryd.ntmps56
    go_wp2
    go_ret
    exact ⟨_, rfl, Kd.R_nil _ _ _ _ _, Below.refl _ _⟩
  · have HR := Aside0.mk hr
    clear hr hu
    go_enter Tryd.func56, Tryd.ntmps56
    go_wp2_with (first | ((with_reducible refine gate_dst (N := 5) rfl ?_); refine Kd.R_lit (Kd.int .i64) (w0 := w) w.heap.size 3 ?hg (N := 5) ?hd (xs := ([] : List Int)) (inner := []) (ok := fun _ => True) (okp := fun _ => True) ?hr ?hp (fun _ hk => hk) trivial (Below.refl _ _) (Nat.le_refl _) (by simp) ?_; (case hd => rfl); (case hg => rfl); (case hr => first | (go_simp; done) | (go_simp; rfl)); (case hp => exact (Reps.none _ _)); intro v5 w5 ho hb hg_ hnew_; have HO := Aside0.mk ho; have HB := Aside0.mk hb; clear ho hb hg_ hnew_) | (at_builtin; refine Kd.R_append_rows (Kd.int .i64) (w0 := w) w.heap.size rfl (.tmp 5) (.tmp 6) 22 3 (.int .i64 0) 8 rfl Tryd.underlying22 info3 rfl (by decide) (by omega) v5 [] l _ _ _ (fun _ => True) (fun _ => False) rfl rfl ?aO ?aR (fun _ _ h => h) (fun _ h => h.elim) ?aF ?aB ?aS ?aL ?_; (case aR => exact Kd.C_below (Kd.C_below HR.out HU.out) HB.out); (case aB => exact HB.out); (case aF => exact (fun _ _ => trivial)); (case aO => exact HO.out); (case aS => exact HB.out.size); (case aL => simp only [List.length_nil]; omega); intro v7 w7 ho2 hb2 hg2 hat2; have HO2 := Aside0.mk ho2; have HB2 := Aside0.mk hb2; clear ho2 hb2 hg2 hat2))
    go_ret
    exact ⟨_, rfl, HO2.out, HB2.out⟩

def CloneT (l : List S78) (u w : World) (e : Ending) (w' : World) : Prop := ∃ v, e = .returned v ∧ (Kd.fixed k78 u).R 78 w' w.heap.size (fun _ => True) v l ∧ Below w.heap.size w w'
set_option maxHeartbeats 2000000 in
theorem cloneT_calls (A : Option Addr) (c : Nat) (l : List S78) (u w : World) (hu : Below u.heap.size u w) (hr : Kd.C k78 u A l.length l) (hl : l.length < 1000) :
    Calls Tryd.prog 78 #[.slice A l.length c] w (CloneT l u w) := by
  have HU := Aside0.mk hu
  have hnil := Go.run_eql_slice_nil (P := Tryd.prog) w 32 78 A l.length c Tryd.underlying32
  rcases A with _ | ad
  · have h0 : l = [] := by
      rcases l with _ | ⟨a, l⟩
      · rfl
      · obtain ⟨ad, h, _⟩ := hr.2.2 (by simp)
        cases h
    subst h0
    rw [List.length_nil] at hnil ⊢
    clear hr hl hu HU
    go_enter Tryd.func78, Tryd.ntmps78
    go_wp2
    go_ret
    exact ⟨_, rfl, Kd.R_nil _ _ _ _ _, Below.refl _ _⟩
  · have HR := Aside0.mk hr
    clear hr hu
    go_enter Tryd.func78, Tryd.ntmps78
    go_wp2_with (first | ((with_reducible refine gate_dst (N := 5) rfl ?_); refine Kd.R_lit (Kd.fixed k78 u) (w0 := w) w.heap.size 78 ?hg (N := 5) ?hd (xs := ([] : List S78)) (inner := []) (ok := fun _ => True) (okp := fun _ => True) ?hr ?hp (fun _ hk => hk) trivial (Below.refl _ _) (Nat.le_refl _) (by simp) ?_; (case hd => rfl); (case hg => rfl); (case hr => first | (go_simp; done) | (go_simp; rfl)); (case hp => exact (Reps.none _ _)); intro v5 w5 ho hb hg_ hnew_; have HO := Aside0.mk ho; have HB := Aside0.mk hb; clear ho hb hg_ hnew_) | (at_builtin; refine Kd.R_append_rows (Kd.fixed k78 u) (Rr := k78.K u) (w0 := w) w.heap.size rfl (.tmp 5) (.tmp 6) 32 78 (.agg #[(.int .u8 0), (.int .i64 0), (.int .i64 0), (.slice none 0 0)]) 48 rfl Tryd.underlying32 info78 rfl (show 0 < 4 by decide) (by omega) v5 [] l _ _ _ (fun _ => True) (fun _ => False) rfl rfl ?aO ?aR (fun _ _ h => h) (fun _ h => h.elim) ?aF ?aB ?aS ?aL ?_; (case aR => exact HR.out.imp_ (below_then HU.out HU.out.size HB.out) (fun _ _ hp => hp)); (case aB => exact HB.out); (case aF => exact (fun _ _ => trivial)); (case aO => exact HO.out); (case aS => exact HB.out.size); (case aL => simp only [List.length_nil]; omega); intro v7 w7 ho2 hb2 hg2 hat2; have HO2 := Aside0.mk ho2; have HB2 := Aside0.mk hb2; clear ho2 hb2 hg2 hat2))
    go_ret
    exact ⟨_, rfl, HO2.out, HB2.out⟩

def CloneF (l : List S55) (u w : World) (e : Ending) (w' : World) : Prop := ∃ v, e = .returned v ∧ (Kd.fixed k55 u).R 55 w' w.heap.size (fun _ => True) v l ∧ Below w.heap.size w w'
set_option maxHeartbeats 2000000 in
theorem cloneF_calls (A : Option Addr) (c : Nat) (l : List S55) (u w : World) (hu : Below u.heap.size u w) (hr : Kd.C k55 u A l.length l) (hl : l.length < 1000) :
    Calls Tryd.prog 53 #[.slice A l.length c] w (CloneF l u w) := by
  have HU := Aside0.mk hu
  have hnil := Go.run_eql_slice_nil (P := Tryd.prog) w 33 55 A l.length c Tryd.underlying33
  rcases A with _ | ad
  · have h0 : l = [] := by
      rcases l with _ | ⟨a, l⟩
      · rfl
      · obtain ⟨ad, h, _⟩ := hr.2.2 (by simp)
        cases h
    subst h0
    rw [List.length_nil] at hnil ⊢
    clear hr hl hu HU
    go_enter Tryd.func53, Tryd.ntmps53
    go_wp2
    go_ret
    exact ⟨_, rfl, Kd.R_nil _ _ _ _ _, Below.refl _ _⟩
  · have HR := Aside0.mk hr
    clear hr hu
    go_enter Tryd.func53, Tryd.ntmps53
    go_wp2_with (first | ((with_reducible refine gate_dst (N := 5) rfl ?_); refine Kd.R_lit (Kd.fixed k55 u) (w0 := w) w.heap.size 55 ?hg (N := 5) ?hd (xs := ([] : List S55)) (inner := []) (ok := fun _ => True) (okp := fun _ => True) ?hr ?hp (fun _ hk => hk) trivial (Below.refl _ _) (Nat.le_refl _) (by simp) ?_; (case hd => rfl); (case hg => rfl); (case hr => first | (go_simp; done) | (go_simp; rfl)); (case hp => exact (Reps.none _ _)); intro v5 w5 ho hb hg_ hnew_; have HO := Aside0.mk ho; have HB := Aside0.mk hb; clear ho hb hg_ hnew_) | (at_builtin; refine Kd.R_append_rows (Kd.fixed k55 u) (Rr := k55.K u) (w0 := w) w.heap.size rfl (.tmp 5) (.tmp 6) 33 55 (.agg #[(.int .i64 0), (.slice none 0 0)]) 32 rfl Tryd.underlying33 info55 rfl (show 0 < 2 by decide) (by omega) v5 [] l _ _ _ (fun _ => True) (fun _ => False) rfl rfl ?aO ?aR (fun _ _ h => h) (fun _ h => h.elim) ?aF ?aB ?aS ?aL ?_; (case aR => exact HR.out.imp_ (below_then HU.out HU.out.size HB.out) (fun _ _ hp => hp)); (case aB => exact HB.out); (case aF => exact (fun _ _ => trivial)); (case aO => exact HO.out); (case aS => exact HB.out.size); (case aL => simp only [List.length_nil]; omega); intro v7 w7 ho2 hb2 hg2 hat2; have HO2 := Aside0.mk ho2; have HB2 := Aside0.mk hb2; clear ho2 hb2 hg2 hat2))
    go_ret
    exact ⟨_, rfl, HO2.out, HB2.out⟩

def CloneB (l : List S58) (u w : World) (e : Ending) (w' : World) : Prop := ∃ v, e = .returned v ∧ (Kd.fixed k58 u).R 58 w' w.heap.size (fun _ => True) v l ∧ Below w.heap.size w w'
set_option maxHeartbeats 2000000 in
theorem cloneB_calls (A : Option Addr) (c : Nat) (l : List S58) (u w : World) (hu : Below u.heap.size u w) (hr : Kd.C k58 u A l.length l) (hl : l.length < 1000) :
    Calls Tryd.prog 54 #[.slice A l.length c] w (CloneB l u w) := by
  have HU := Aside0.mk hu
  have hnil := Go.run_eql_slice_nil (P := Tryd.prog) w 53 58 A l.length c Tryd.underlying53
  rcases A with _ | ad
  · have h0 : l = [] := by
      rcases l with _ | ⟨a, l⟩
      · rfl
      · obtain ⟨ad, h, _⟩ := hr.2.2 (by simp)
        cases h
    subst h0
    rw [List.length_nil] at hnil ⊢
    clear hr hl hu HU
    go_enter Tryd.func54, Tryd.ntmps54
    go_wp2
    go_ret
    exact ⟨_, rfl, Kd.R_nil _ _ _ _ _, Below.refl _ _⟩
  · have HR := Aside0.mk hr
    clear hr hu
    go_enter Tryd.func54, Tryd.ntmps54
    go_wp2_with (first | ((with_reducible refine gate_dst (N := 5) rfl ?_); refine Kd.R_lit (Kd.fixed k58 u) (w0 := w) w.heap.size 58 ?hg (N := 5) ?hd (xs := ([] : List S58)) (inner := []) (ok := fun _ => True) (okp := fun _ => True) ?hr ?hp (fun _ hk => hk) trivial (Below.refl _ _) (Nat.le_refl _) (by simp) ?_; (case hd => rfl); (case hg => rfl); (case hr => first | (go_simp; done) | (go_simp; rfl)); (case hp => exact (Reps.none _ _)); intro v5 w5 ho hb hg_ hnew_; have HO := Aside0.mk ho; have HB := Aside0.mk hb; clear ho hb hg_ hnew_) | (at_builtin; refine Kd.R_append_rows (Kd.fixed k58 u) (Rr := k58.K u) (w0 := w) w.heap.size rfl (.tmp 5) (.tmp 6) 53 58 (.agg #[(.slice none 0 0), (.int .u8 0), (.int .i64 0), (.int .i64 0), (.int .i64 0)]) 56 rfl Tryd.underlying53 info58 rfl (show 0 < 5 by decide) (by omega) v5 [] l _ _ _ (fun _ => True) (fun _ => False) rfl rfl ?aO ?aR (fun _ _ h => h) (fun _ h => h.elim) ?aF ?aB ?aS ?aL ?_; (case aR => exact HR.out.imp_ (below_then HU.out HU.out.size HB.out) (fun _ _ hp => hp)); (case aB => exact HB.out); (case aF => exact (fun _ _ => trivial)); (case aO => exact HO.out); (case aS => exact HB.out.size); (case aL => simp only [List.length_nil]; omega); intro v7 w7 ho2 hb2 hg2 hat2; have HO2 := Aside0.mk ho2; have HB2 := Aside0.mk hb2; clear ho2 hb2 hg2 hat2))
    go_ret
    exact ⟨_, rfl, HO2.out, HB2.out⟩

def CloneX (l : List S24) (u w : World) (e : Ending) (w' : World) : Prop := ∃ v, e = .returned v ∧ (Kd.fixed k24 u).R 24 w' w.heap.size (fun _ => True) v l ∧ Below w.heap.size w w'
set_option maxHeartbeats 2000000 in
theorem cloneX_calls (A : Option Addr) (c : Nat) (l : List S24) (u w : World) (hu : Below u.heap.size u w) (hr : Kd.C k24 u A l.length l) (hl : l.length < 1000) :
    Calls Tryd.prog 55 #[.slice A l.length c] w (CloneX l u w) := by
  have HU := Aside0.mk hu
  have hnil := Go.run_eql_slice_nil (P := Tryd.prog) w 56 24 A l.length c Tryd.underlying56
  rcases A with _ | ad
  · have h0 : l = [] := by
      rcases l with _ | ⟨a, l⟩
      · rfl
      · obtain ⟨ad, h, _⟩ := hr.2.2 (by simp)
        cases h
    subst h0
    rw [List.length_nil] at hnil ⊢
    clear hr hl hu HU
    go_enter Tryd.func55, Tryd.ntmps55
    go_wp2
    go_ret
    exact ⟨_, rfl, Kd.R_nil _ _ _ _ _, Below.refl _ _⟩
  · have HR := Aside0.mk hr
    clear hr hu
    go_enter Tryd.func55, Tryd.ntmps55
    go_wp2_with (first | ((with_reducible refine gate_dst (N := 5) rfl ?_); refine Kd.R_lit (Kd.fixed k24 u) (w0 := w) w.heap.size 24 ?hg (N := 5) ?hd (xs := ([] : List S24)) (inner := []) (ok := fun _ => True) (okp := fun _ => True) ?hr ?hp (fun _ hk => hk) trivial (Below.refl _ _) (Nat.le_refl _) (by simp) ?_; (case hd => rfl); (case hg => rfl); (case hr => first | (go_simp; done) | (go_simp; rfl)); (case hp => exact (Reps.none _ _)); intro v5 w5 ho hb hg_ hnew_; have HO := Aside0.mk ho; have HB := Aside0.mk hb; clear ho hb hg_ hnew_) | (at_builtin; refine Kd.R_append_rows (Kd.fixed k24 u) (Rr := k24.K u) (w0 := w) w.heap.size rfl (.tmp 5) (.tmp 6) 56 24 (.agg #[(.int .u8 0), (.int .i64 0), (.int .i64 0), (.int .i64 0), (.int .i64 0), (.slice none 0 0), (.slice none 0 0)]) 88 rfl Tryd.underlying56 info24 rfl (show 0 < 7 by decide) (by omega) v5 [] l _ _ _ (fun _ => True) (fun _ => False) rfl rfl ?aO ?aR (fun _ _ h => h) (fun _ h => h.elim) ?aF ?aB ?aS ?aL ?_; (case aR => exact HR.out.imp_ (below_then HU.out HU.out.size HB.out) (fun _ _ hp => hp)); (case aB => exact HB.out); (case aF => exact (fun _ _ => trivial)); (case aO => exact HO.out); (case aS => exact HB.out.size); (case aL => simp only [List.length_nil]; omega); intro v7 w7 ho2 hb2 hg2 hat2; have HO2 := Aside0.mk ho2; have HB2 := Aside0.mk hb2; clear ho2 hb2 hg2 hat2))
    go_ret
    exact ⟨_, rfl, HO2.out, HB2.out⟩
end Go.Proofs.YtfjmpfecnemoiaaDoor.Q
