/-
  types.Twin: a table in new memory.
-/
import Derived.Test.YtfjmpfecnemoiaaDoorQMix
namespace Go.Proofs.YtfjmpfecnemoiaaDoor.Q
open Go.RowKit Go.Proofs.YtfjmpfecnemoiaaDoorW.PrintWords Go.Proofs.YtfjmpfecnemoiaaDoorW.PrintLast Go.Proofs.YtfjmpfecnemoiaaDoorW.PrintMore
set_option linter.unusedVariables false
set_option linter.unusedSimpArgs false
set_option maxRecDepth 100000

def TwinT (l : List S78) (w : World) (e : Ending) (w' : World) : Prop := ∃ v, e = .returned v ∧ Below w.heap.size w w' ∧ Kd.R k78 78 w' w.heap.size (fun _ => True) v l
theorem twT_step {w wr w2 : World} {l : List S78} {g cap j : Nat} {o : Obj} {A3 : Option Addr} {c3 : Nat} {cs : List Value} (hI : Mix k78 78 w w.heap.size (fun _ => True) l g cap j j wr) (hB : Below w.heap.size w wr) (hj : j < l.length) (hat : Mix.At 4 g j cs wr) (hcs : cs = [.int .u8 l[j].f0, .int .i64 l[j].f1, .int .i64 l[j].f2, .slice A3 l[j].f3.length c3])
    (hb : Below (wr.alloc o).heap.size (wr.alloc o) w2) {v : Value} (hR : (Kd.int .i64).R 3 w2 (wr.alloc o).heap.size (fun _ => True) v l[j].f3) :
    Mix k78 78 w w.heap.size (fun _ => True) l g cap (j + 1) (j + 1) (w2.setCell ⟨g, j * 4 + 3, none⟩ v) := by
  have hb0 : Below wr.heap.size wr w2 := below_then (below_alloc (Below.refl _ _) o) (by simp) hb
  have hsz : w.heap.size ≤ (wr.alloc o).heap.size := Nat.le_trans hB.size (by simp)
  have h1 := ((hI.hole (show j ≤ j + 1 by omega)).below hb0).put (n := j) (q := 3) (Nat.le_refl _) (by omega) (show 3 < 4 by omega) v
  have h2 := (hat.below hb0).put (q := 3) (by omega) v
  obtain ⟨cur, hh, _⟩ := ((hI.hole (show j ≤ j + 1 by omega)).below hb0).blk
  have hR2 := Kd.R_set (Kd.R_lower hR hsz) hh (by decide) (j * 4 + 3) v
  have hh2 := blk_set hh (j * 4 + 3) v
  subst hcs
  exact h1.fill hj h2 (k78_mkM _ _ _ l[j] (Kd.R_mono (Kd.R_types hR2 hh2 (by decide)) (fun k hk => ⟨trivial, hk.2⟩)))

set_option maxHeartbeats 4000000 in
theorem twinT_calls (A : Option Addr) (c : Nat) (l : List S78) (w : World) (hr : Kd.C k78 w A l.length l) (hl : l.length ≤ 20) (hp : ∀ x ∈ l, x.f3.length ≤ 20) :
    Calls Tryd.prog 52 #[.slice A l.length c] w (TwinT l w) := by
  have hu78 := Tryd.underlying78
  have HC := Aside0.mk (cloneT_calls A c l w w (Below.refl _ _) hr (by omega))
  have HP := Aside0.mk hp
  clear hr hp
  go_enter Tryd.func52, Tryd.ntmps52
  go_wp2_with fail
  refine HC.out.mono ?_
  rintro e w1 ⟨v, rfl, hR, hb⟩
  rcases Mix.start hR with ⟨rfl, rfl⟩ | ⟨g, cap, rfl, hI⟩
  · have HB := Aside0.mk hb
    clear hR hb HC hl HP
    go_wp2_with fail
    go_loopg [10] 0 (fun gg v10 Wr => v10 = .int .i64 0 ∧ Aside0 (Below w.heap.size w Wr))
    case atStart => exact ⟨rfl, HB⟩
    case round =>
      obtain ⟨rfl, HB⟩ := hrel
      go_wp2_with fail
      go_ret
      exact ⟨_, rfl, HB.out, Kd.R_nil _ _ _ _ _⟩
  · have HI := Aside0.mk hI
    have HB := Aside0.mk hb
    clear hR hb HC hI
    go_wp2_with fail
    go_loopg [10] l.length (fun gg v10 Wr => ∃ j : Nat, j ≤ l.length ∧ l.length - j ≤ gg ∧ v10 = .int .i64 j ∧ Aside0 (Mix k78 78 w w.heap.size (fun _ => True) l g cap j j Wr) ∧ Aside0 (Below w.heap.size w Wr))
    case atStart => exact ⟨0, Nat.zero_le _, by omega, rfl, HI, HB⟩
    case round =>
      obtain ⟨j, hj, hg, rfl, HJ, HBJ⟩ := hrel
      clear HI HB
      by_cases hlt : j < l.length
      · have hltz : (j : Int) < (l.length : Int) := by omega
        obtain ⟨cs, hat, hK⟩ := HJ.out.at_ hlt (Nat.le_refl _)
        obtain ⟨A3, c3, hcs, hl3, hr3⟩ := k78_open hK
        have hx0 : wr.cell? ⟨g, j * 4, none⟩ = some (.int .u8 l[j].f0) := hat.cell (q := 0) (show 0 < 4 by omega) (by rw [hcs]; rfl)
        have hx1 : wr.cell? ⟨g, j * 4 + 1, none⟩ = some (.int .i64 l[j].f1) := hat.cell (q := 1) (show 1 < 4 by omega) (by rw [hcs]; rfl)
        have hx2 : wr.cell? ⟨g, j * 4 + 2, none⟩ = some (.int .i64 l[j].f2) := hat.cell (q := 2) (show 2 < 4 by omega) (by rw [hcs]; rfl)
        have hx3 : wr.cell? ⟨g, j * 4 + 3, none⟩ = some (.slice A3 l[j].f3.length c3) := hat.cell (q := 3) (show 3 < 4 by omega) (by rw [hcs]; rfl)
        have HCL := Aside0.mk (fun (W : World) (hb : Below w.heap.size w W) => cloneI_calls A3 c3 l[j].f3 w W hb hr3 (by have := HP.out _ (List.getElem_mem hlt); omega))
        have HAT := Aside0.mk hat
        have HCS := Aside0.mk hcs
        have hblk := World.block_lt_of_cell? wr _ hx0
        clear hat hcs hK hl3 hr3
        go_wp2_with fail
        refine (HCL.out _ (below_alloc HBJ.out _)).mono ?_
        rintro e w2 ⟨v, rfl, hR, hb⟩
        obtain ⟨A4, c4, rfl⟩ := Kd.R_slice hR
        have hb0 := below_then (below_alloc (Below.refl wr.heap.size wr) _) (by simp) hb
        have HN := Aside0.mk (twT_step HJ.out HBJ.out hlt HAT.out HCS.out hb hR)
        have HNB := Aside0.mk ((below_then HBJ.out HBJ.out.size hb0).setCell (p := ⟨g, j * 4 + 3, none⟩) HJ.out.hg (.slice A4 l[j].f3.length c4))
        have hat2 := HAT.out.below hb0
        have hy3 : w2.cell? ⟨g, j * 4 + 3, none⟩ = some (.slice A3 l[j].f3.length c3) := hat2.cell (q := 3) (show 3 < 4 by omega) (by rw [HCS.out]; rfl)
        have hf3 := hat2.frozen (j * 4 + 3)
        clear hat2 hR hb hb0 hx0 hx1 hx2 hx3 HCL HAT HCS
        go_wp2_with fail
        go_roundg (l.length - (j + 1))
        case measure => omega
        case rel => exact ⟨j + 1, by omega, by omega, by go_num, HN, HNB⟩
      · have hltz : ¬ (j : Int) < (l.length : Int) := by omega
        have HE := Aside0.mk (show l.length ≤ j by omega)
        go_wp2_with fail
        go_ret
        exact ⟨_, rfl, HBJ.out, HJ.out.done HE.out trivial⟩
end Go.Proofs.YtfjmpfecnemoiaaDoor.Q
