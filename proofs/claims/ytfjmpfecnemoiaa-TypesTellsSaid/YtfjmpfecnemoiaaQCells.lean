/-
  types.cells: the cells of a type, in order (the closure that calls itself).
-/
import Derived.Test.YtfjmpfecnemoiaaQThere
import Derived.Laws.EntriesVeiled
namespace Go.Proofs.Ytfjmpfecnemoiaa.Q
open Go.RowKit Go.Proofs.YtfjmpfecnemoiaaW.PrintWords Go.Proofs.YtfjmpfecnemoiaaW.PrintLast Go.Proofs.YtfjmpfecnemoiaaW.PrintMore
set_option linter.unusedVariables false
set_option linter.unusedSimpArgs false

/-- What the closure appends, with so many calls within each other. -/
def cellsF : Nat → List S31 → Int → List Int → Option (List Int)
  | 0, _, _, _ => none
  | k + 1, t, i, acc => if 0 ≤ i then (if i < (t.length : Int) then
      (if (rd_T31 t i).f0 = 4 then (rd_T31 t i).f3.foldlM (fun a p => cellsF k t p a) acc
       else if (rd_T31 t i).f0 = 5 then (if (rd_T31 t i).f2 ≤ 1000 then (List.replicate (rd_T31 t i).f2.toNat (rd_T31 t i).f1).foldlM (fun a p => cellsF k t p a) acc else none)
       else if acc.length < 1099511627776 then some (acc ++ [i]) else none) else none) else none

/-- The closure's memory: the table's box, the list's, the closure's own; the list's cells. -/
structure CellsSt (w : World) (tA : Option Addr) (tn tc : Nat) (acc : List Int) (W : World) : Prop where
  below : Below w.heap.size w W
  bt : W.heap[w.heap.size]? = some (.cells #[.slice tA tn tc] 22 (0, 0))
  bw : W.heap[w.heap.size + 2]? = some (.cells #[.func (.func 68) #[] #[.pointer (some ⟨w.heap.size, 0, none⟩), .pointer (some ⟨w.heap.size + 2, 0, none⟩), .pointer (some ⟨w.heap.size + 1, 0, none⟩)]] 65 (0, 0))
  row : ∃ v, W.heap[w.heap.size + 1]? = some (.cells #[v] 29 (0, 0)) ∧ W.ownsRow (w.heap.size + 3) 3 1 v acc.length (nums .i64 acc)

/-- Variables of a struct's type stay. -/
def Keeps31 (W W' : World) : Prop := ∀ (b : Nat) (cs : Array Value), W.heap[b]? = some (.cells cs 31 (0, 0)) → W'.heap[b]? = some (.cells cs 31 (0, 0))

def CellsPost (w : World) (tA : Option Addr) (tn tc : Nat) (r : List Int) (W : World) (e : Ending) (W' : World) : Prop := e = .returned (.tuple #[]) ∧ CellsSt w tA tn tc r W' ∧ Keeps31 W W' ∧ W.heap.size ≤ W'.heap.size

theorem own_ne_block {W : World} {base e size n t g : Nat} {v : Value} {xs : List Value} {cs : Array Value} (h : W.ownsRow base e size v n xs) (hb : W.heap[g]? = some (.cells cs t (0, 0))) (hne : e ≠ t) : some g ≠ v.ownBlock := by
  intro hk
  obtain ⟨cells, hc⟩ := own_typed h g hk.symm
  rw [hc] at hb
  injection hb with hb
  injection hb with _ hb
  exact hne hb

theorem cells_close {w W w1 : World} {tA : Option Addr} {tn tc : Nat} {acc acc' : List Int} {o : Obj} {v : Value} {A1 : Option Addr} {c1 : Nat} (hS : CellsSt w tA tn tc acc W) (hv : W.heap[w.heap.size + 1]? = some (.cells #[v] 29 (0, 0)))
    (ho : W.ownsRow (w.heap.size + 3) 3 1 v acc.length (nums .i64 acc)) (hg : (W.alloc o).grownBy w1 v.ownBlock) (hB : Below (w.heap.size + 3) (W.alloc o) w1) (hown : w1.ownsRow (w.heap.size + 3) 3 1 (.slice A1 acc'.length c1) acc'.length (nums .i64 acc')) :
    CellsPost w tA tn tc acc' W (.returned (.tuple #[])) (w1.setCell ⟨w.heap.size + 1, 0, none⟩ (.slice A1 acc'.length c1)) := by
  have hz : w.heap.size + 2 < W.heap.size := blk_lt hS.bw
  have h1 : w1.heap[w.heap.size + 1]? = some (.cells #[v] 29 (0, 0)) := (hB.block _ (by omega)).trans (blk_alloc hv _)
  have hs : W.heap.size ≤ w1.heap.size := Nat.le_trans (by simp) hg.size
  refine ⟨rfl, ⟨?_, ?_, ?_, .slice A1 acc'.length c1, ?_, ?_⟩, ?_, by simpa using hs⟩
  · exact ((hS.below.alloc (by omega) _).trans (hB.mono (by omega))).setCell (by simp) _
  · exact blk_far ((hB.block _ (by omega)).trans (blk_alloc hS.bt _)) (by simp) _
  · exact blk_far ((hB.block _ (by omega)).trans (blk_alloc hS.bw _)) (by simp) _
  · exact blk_put h1 0 _ rfl
  · exact own_move hown (fun k hk => Below.heap_setCell _ _ _ _ (by rintro rfl; have := own_base hown _ hk; simp at this))
  · intro b cs hb
    refine blk_far ((hg.block b (by have := blk_lt hb; simp; omega) ?_).trans (blk_alloc hb _)) ?_ _
    · exact fun e => own_ne_block ho hb (by decide) e
    · rintro rfl
      exact blk_ne hb hv (by decide) rfl

set_option maxHeartbeats 1000000 in
theorem cells1_leaf (w : World) (tA : Option Addr) (tc : Nat) (t : List S31) (hr : Kd.C k31 w tA t.length t) (i : Int) (acc : List Int) (h0 : 0 ≤ i) (h1 : i < (t.length : Int)) (h4 : (rd_T31 t i).f0 ≠ 4) (h5 : (rd_T31 t i).f0 ≠ 5) (hl : acc.length < 1099511627776)
    (W : World) (hS : CellsSt w tA t.length tc acc W) :
    Calls Try.prog 68 #[.int .i64 i, .pointer (some ⟨w.heap.size, 0, none⟩), .pointer (some ⟨w.heap.size + 2, 0, none⟩), .pointer (some ⟨w.heap.size + 1, 0, none⟩)] W (CellsPost w tA t.length tc (acc ++ [i]) W) := by
  have hu31 := Try.underlying31
  have HS := Aside0.mk hS
  obtain ⟨ad, A3, c3, e, hx0, hx1, hx2, hx3, -, -⟩ := at_T31 (Kd.C_below hr hS.below) i h0 h1
  cases e
  have ht0 : W.cell? ⟨w.heap.size, 0, none⟩ = some (.slice (some ad) t.length tc) := (blk_cell hS.bt 0).trans rfl
  obtain ⟨v, hv, ho⟩ := hS.row
  have hv0 : W.cell? ⟨w.heap.size + 1, 0, none⟩ = some v := (blk_cell hv 0).trans rfl
  have hvf := blk_frozen hv 0
  have hz1 : w.heap.size + 1 < W.heap.size := by have := blk_lt hS.bw; omega
  have hz0 : w.heap.size < W.heap.size := by omega
  have HV := Aside0.mk hv
  have HO := Aside0.mk ho
  have c4 : ((rd_T31 t i).f0 == 4) = false := beq_eq_false_iff_ne.mpr h4
  have c5 : ((rd_T31 t i).f0 == 5) = false := beq_eq_false_iff_ne.mpr h5
  clear hr hS hv ho h4 h5
  go_enter Try.func68, Try.ntmps68
  go_wp2_with (at_builtin; refine print_append_num (w0 := W.alloc (.cells #[.int .u8 (rd_T31 t i).f0, .int .i64 (rd_T31 t i).f1, .int .i64 (rd_T31 t i).f2, .slice A3 (rd_T31 t i).f3.length c3] 31)) (w.heap.size + 3) rfl (.tmp 14) (.tmp 16) 29 3 .i64 8 rfl Try.underlying29 info3 (by decide) v acc i rfl ?hx ?hO ?hB ?hs ?hl ?_)
  case hx => go_simp
  case hO => exact HO.out.alloc _
  case hB => exact Below.refl _ _
  case hs => simp; omega
  case hl => omega
  intro v1 w1 hown hB hg hat
  obtain ⟨A1, c1, rfl⟩ := own_slice hown
  have hbx : (W.alloc (.cells #[.int .u8 (rd_T31 t i).f0, .int .i64 (rd_T31 t i).f1, .int .i64 (rd_T31 t i).f2, .slice A3 (rd_T31 t i).f3.length c3] 31)).heap[w.heap.size + 1]? = some (.cells #[v] 29 (0, 0)) := blk_alloc HV.out _
  have hv1 := blk_grown hbx hg (own_ne_block HO.out HV.out (by decide))
  have hvc : w1.cell? ⟨w.heap.size + 1, 0, none⟩ = some v := (blk_cell hv1 0).trans rfl
  have hvf1 := blk_frozen hv1 0
  have HN := Aside0.mk hown
  have HG := Aside0.mk hg
  have HV1 := Aside0.mk hv1
  have HB1 := Aside0.mk hB
  clear hown hg hv1 hbx hB hat
  go_wp2_with fail
  go_end0
  have HF := cells_close (acc' := acc ++ [i]) HS.out HV.out HO.out HG.out HB1.out (by simpa using HN.out)
  simpa using HF

theorem CellsSt.alloc' {w W : World} {tA : Option Addr} {tn tc : Nat} {acc : List Int} (h : CellsSt w tA tn tc acc W) (o : Obj) : CellsSt w tA tn tc acc (W.alloc o) := by
  obtain ⟨v, hv, ho⟩ := h.row
  exact ⟨below_alloc h.below _, blk_alloc h.bt _, blk_alloc h.bw _, v, blk_alloc hv _, ho.alloc _⟩
theorem Keeps31.alloc {W : World} (o : Obj) : Keeps31 W (W.alloc o) := fun _ _ hb => blk_alloc hb _
theorem Keeps31.trans {W W1 W2 : World} (h : Keeps31 W W1) (h' : Keeps31 W1 W2) : Keeps31 W W2 := fun b cs hb => h' b cs (h b cs hb)

theorem rd_at {xs : List Int} {j : Nat} (h : j < xs.length) : rd xs (j : Int) = xs[j] := by simp [rd, h]
/-- The same reading in every later world. -/
theorem at_T31B {w : World} {A : Option Addr} {n : Nat} {xs : List S31} (h : Kd.C k31 w A n xs) (i : Int) (h0 : 0 ≤ i) (h1 : i < n) : ∃ ad A3 c3, A = some ad ∧ (∀ W, Below w.heap.size w W → W.cell? (ad.add (i.toNat * 4)) = some (.int .u8 (rd_T31 xs i).f0)) ∧ (∀ W, Below w.heap.size w W → W.cell? ⟨(ad.add (i.toNat * 4)).block, (ad.add (i.toNat * 4)).off + 1, none⟩ = some (.int .i64 (rd_T31 xs i).f1)) ∧ (∀ W, Below w.heap.size w W → W.cell? ⟨(ad.add (i.toNat * 4)).block, (ad.add (i.toNat * 4)).off + 2, none⟩ = some (.int .i64 (rd_T31 xs i).f2)) ∧ (∀ W, Below w.heap.size w W → W.cell? ⟨(ad.add (i.toNat * 4)).block, (ad.add (i.toNat * 4)).off + 3, none⟩ = some (.slice A3 (rd_T31 xs i).f3.length c3)) ∧ (rd_T31 xs i).f3.length ≤ c3 ∧ (∀ W, Below w.heap.size w W → (Kd.int .i64).C W A3 (rd_T31 xs i).f3.length (rd_T31 xs i).f3) := by
  obtain ⟨ad, A3, c3, e, a0, a1, a2, a3, hl, hr⟩ := at_T31 h i h0 h1
  exact ⟨ad, A3, c3, e, fun W hb => pw_cell_below hb a0, fun W hb => pw_cell_below hb a1, fun W hb => pw_cell_below hb a2, fun W hb => pw_cell_below hb a3, hl, fun W hb => Kd.C_below hr hb⟩

/-- What stands of a round's begin: what is still to be gone through. -/
structure CellsRel (f : List Int → Int → Option (List Int)) (ps : List Int) (r : List Int) (w : World) (tA : Option Addr) (tn tc : Nat) (W1 : World) (j : Nat) (Wr : World) : Prop where
  rel : ∃ a, (ps.drop j).foldlM f a = some r ∧ CellsSt w tA tn tc a Wr
  keeps : Keeps31 W1 Wr
  size : W1.heap.size ≤ Wr.heap.size

set_option maxHeartbeats 1000000 in
theorem cells1_struct (w : World) (tA : Option Addr) (tc : Nat) (t : List S31) (hr : Kd.C k31 w tA t.length t) (i : Int) (acc r : List Int) (h0 : 0 ≤ i) (h1 : i < (t.length : Int)) (h4 : (rd_T31 t i).f0 = 4) (k : Nat)
    (ih : ∀ (i : Int) (acc r : List Int), cellsF k t i acc = some r → ∀ W, CellsSt w tA t.length tc acc W →
      Calls Try.prog 68 #[.int .i64 i, .pointer (some ⟨w.heap.size, 0, none⟩), .pointer (some ⟨w.heap.size + 2, 0, none⟩), .pointer (some ⟨w.heap.size + 1, 0, none⟩)] W (CellsPost w tA t.length tc r W))
    (hf : (rd_T31 t i).f3.foldlM (fun a p => cellsF k t p a) acc = some r) (W : World) (hS : CellsSt w tA t.length tc acc W) :
    Calls Try.prog 68 #[.int .i64 i, .pointer (some ⟨w.heap.size, 0, none⟩), .pointer (some ⟨w.heap.size + 2, 0, none⟩), .pointer (some ⟨w.heap.size + 1, 0, none⟩)] W (CellsPost w tA t.length tc r W) := by
  have hu31 := Try.underlying31
  have HS := Aside0.mk hS
  have IH := Aside0.mk ih
  have HF := Aside0.mk hf
  have HR := Aside0.mk hr
  obtain ⟨ad, A3, c3, e, hx0, hx1, hx2, hx3, hl3, hr3⟩ := at_T31B hr i h0 h1
  cases e
  replace hx0 := hx0 W hS.below
  replace hx1 := hx1 W hS.below
  replace hx2 := hx2 W hS.below
  replace hx3 := hx3 W hS.below
  have hbig : ((rd_T31 t i).f3.length : Int) ≤ 9223372036854775807 := by have := (hr3 w (Below.refl _ _)).2.1; omega
  have HPS := Aside0.mk hr3
  have ht0 : W.cell? ⟨w.heap.size, 0, none⟩ = some (.slice (some ad) t.length tc) := (blk_cell hS.bt 0).trans rfl
  have hz1 : w.heap.size + 1 < W.heap.size := by have := blk_lt hS.bw; omega
  have hz0 : w.heap.size < W.heap.size := by omega
  have c4 : ((rd_T31 t i).f0 == 4) = true := beq_iff_eq.mpr h4
  clear hr hS ih hf hr3 hl3 h4
  go_enter Try.func68, Try.ntmps68
  go_wp2_with fail
  generalize hps : (rd_T31 t i).f3 = ps at *
  go_loopg [7, 23] ps.length (fun gg v7 v23 Wr => ∃ j : Nat, j ≤ ps.length ∧ ps.length - j ≤ gg ∧ v23 = .int .i64 j ∧ Aside0 (CellsRel (fun a p => cellsF k t p a) ps r w (some ad) t.length tc W j Wr))
  case atStart => exact ⟨0, Nat.zero_le _, by omega, rfl, ⟨⟨acc, HF.out, HS.out.alloc' _⟩, Keeps31.alloc _, by simp⟩⟩
  case round =>
    obtain ⟨j, hj, hg, rfl, HC⟩ := hrel
    by_cases hlt : j < ps.length
    · have hltz : (j : Int) < (ps.length : Int) := by omega
      obtain ⟨a, ha, hSt⟩ := HC.out.rel
      rw [List.drop_eq_getElem_cons hlt, List.foldlM_cons] at ha
      obtain ⟨a1, ha1, ha2⟩ := Option.bind_eq_some_iff.1 ha
      obtain ⟨ad3, ead, hx⟩ := Kd.at_int (HPS.out wr hSt.below) (j : Int) (by omega) hltz
      rw [Int.toNat_natCast, rd_at hlt] at hx
      cases ead
      have hw0 : wr.cell? ⟨w.heap.size + 2, 0, none⟩ = some (.func (.func 68) #[] #[.pointer (some ⟨w.heap.size, 0, none⟩), .pointer (some ⟨w.heap.size + 2, 0, none⟩), .pointer (some ⟨w.heap.size + 1, 0, none⟩)]) := (blk_cell hSt.bw 0).trans rfl
      have HA := Aside0.mk ha2
      have hcall := IH.out ps[j] a a1 ha1 wr hSt
      clear ha ha1 ha2 hSt
      generalize ps[j] = p at hx hcall
      go_wp2_with fail
      refine hcall.mono ?_
      rintro e w' ⟨rfl, hs', hk', hz'⟩
      clear hcall hx hw0
      go_wp2_with fail
      go_roundg (ps.length - (j + 1))
      case measure => omega
      case rel => exact ⟨j + 1, by omega, by omega, by go_num, ⟨⟨a1, HA.out, hs'⟩, HC.out.keeps.trans hk', Nat.le_trans HC.out.size hz'⟩⟩
    · have hltz : ¬ (j : Int) < (ps.length : Int) := by omega
      have HJ := Aside0.mk (show ps.length ≤ j by omega)
      go_wp2_with fail
      go_end0
      obtain ⟨a, ha, hSt⟩ := HC.out.rel
      rw [List.drop_eq_nil_of_le HJ.out] at ha
      obtain rfl := Option.some.inj ha
      exact ⟨rfl, hSt, HC.out.keeps, HC.out.size⟩

set_option maxHeartbeats 1000000 in
theorem cells1_array (w : World) (tA : Option Addr) (tc : Nat) (t : List S31) (hr : Kd.C k31 w tA t.length t) (i : Int) (acc r : List Int) (h0 : 0 ≤ i) (h1 : i < (t.length : Int)) (h4 : (rd_T31 t i).f0 = 5) (hm : (rd_T31 t i).f2 ≤ 1000) (k : Nat)
    (ih : ∀ (i : Int) (acc r : List Int), cellsF k t i acc = some r → ∀ W, CellsSt w tA t.length tc acc W →
      Calls Try.prog 68 #[.int .i64 i, .pointer (some ⟨w.heap.size, 0, none⟩), .pointer (some ⟨w.heap.size + 2, 0, none⟩), .pointer (some ⟨w.heap.size + 1, 0, none⟩)] W (CellsPost w tA t.length tc r W))
    (hf : (List.replicate (rd_T31 t i).f2.toNat (rd_T31 t i).f1).foldlM (fun a p => cellsF k t p a) acc = some r) (W : World) (hS : CellsSt w tA t.length tc acc W) :
    Calls Try.prog 68 #[.int .i64 i, .pointer (some ⟨w.heap.size, 0, none⟩), .pointer (some ⟨w.heap.size + 2, 0, none⟩), .pointer (some ⟨w.heap.size + 1, 0, none⟩)] W (CellsPost w tA t.length tc r W) := by
  have hu31 := Try.underlying31
  have HS := Aside0.mk hS
  have IH := Aside0.mk ih
  have HF := Aside0.mk hf
  obtain ⟨ad, A3, c3, e, hx0, hx1, hx2, hx3, hl3, hr3⟩ := at_T31B hr i h0 h1
  cases e
  replace hx0 := hx0 W hS.below
  replace hx1 := hx1 W hS.below
  replace hx2 := hx2 W hS.below
  replace hx3 := hx3 W hS.below
  have ht0 : W.cell? ⟨w.heap.size, 0, none⟩ = some (.slice (some ad) t.length tc) := (blk_cell hS.bt 0).trans rfl
  have hz1 : w.heap.size + 1 < W.heap.size := by have := blk_lt hS.bw; omega
  have hz0 : w.heap.size < W.heap.size := by omega
  have c4 : ((rd_T31 t i).f0 == 4) = false := by rw [h4]; rfl
  have c5 : ((rd_T31 t i).f0 == 5) = true := beq_iff_eq.mpr h4
  clear hr hS ih hf hr3 hl3 h4
  go_enter Try.func68, Try.ntmps68
  go_wp2_with fail
  generalize hL : (rd_T31 t i).f3.length = len at *
  generalize hx : (rd_T31 t i).f0 = f0 at *
  generalize hy : (rd_T31 t i).f1 = f1 at *
  generalize hm2 : (rd_T31 t i).f2 = m at *
  clear hL hx hy hm2
  go_loopg [35] m.toNat (fun gg v35 Wr => ∃ j : Nat, j ≤ m.toNat ∧ m.toNat - j ≤ gg ∧ v35 = .int .i64 j ∧ Aside0 (CellsRel (fun a p => cellsF k t p a) (List.replicate m.toNat f1) r w (some ad) t.length tc (W.alloc (.cells #[.int .u8 f0, .int .i64 f1, .int .i64 m, .slice A3 len c3] 31)) j Wr))
  case atStart => exact ⟨0, Nat.zero_le _, by omega, rfl, ⟨⟨acc, HF.out, HS.out.alloc' _⟩, fun _ _ h => h, Nat.le_refl _⟩⟩
  case round =>
    obtain ⟨j, hj, hg, rfl, HC⟩ := hrel
    by_cases hlt : j < m.toNat
    · have hltz : (j : Int) < m := by omega
      obtain ⟨a, ha, hSt⟩ := HC.out.rel
      rw [List.drop_replicate, show m.toNat - j = (m.toNat - (j + 1)) + 1 from by omega, List.replicate_succ, List.foldlM_cons] at ha
      obtain ⟨a1, ha1, ha2⟩ := Option.bind_eq_some_iff.1 ha
      have hw0 : wr.cell? ⟨w.heap.size + 2, 0, none⟩ = some (.func (.func 68) #[] #[.pointer (some ⟨w.heap.size, 0, none⟩), .pointer (some ⟨w.heap.size + 2, 0, none⟩), .pointer (some ⟨w.heap.size + 1, 0, none⟩)]) := (blk_cell hSt.bw 0).trans rfl
      have hx1r : wr.cell? ⟨W.heap.size, 1, none⟩ = some (.int .i64 f1) := (blk_cell (HC.out.keeps _ _ (blk_new W _)) 1).trans rfl
      have HA := Aside0.mk ha2
      have hcall := IH.out f1 a a1 ha1 wr hSt
      clear ha ha1 ha2 hSt
      go_wp2_with fail
      refine hcall.mono ?_
      rintro e w' ⟨rfl, hs', hk', hz'⟩
      clear hcall hx1r hw0
      go_wp2_with fail
      go_roundg (m.toNat - (j + 1))
      case measure => omega
      case rel => exact ⟨j + 1, by omega, by omega, by go_num, ⟨⟨a1, by rw [List.drop_replicate]; exact HA.out, hs'⟩, HC.out.keeps.trans hk', Nat.le_trans HC.out.size hz'⟩⟩
    · have hltz : ¬ (j : Int) < m := by omega
      have HJ := Aside0.mk (show m.toNat ≤ j by omega)
      go_wp2_with fail
      go_end0
      obtain ⟨a, ha, hSt⟩ := HC.out.rel
      rw [List.drop_replicate, show m.toNat - j = 0 from by have := HJ.out; omega] at ha
      obtain rfl := Option.some.inj ha
      exact ⟨rfl, hSt, (Keeps31.alloc _).trans HC.out.keeps, Nat.le_trans (by simp) HC.out.size⟩

theorem cells1_calls (w : World) (tA : Option Addr) (tc : Nat) (t : List S31) (hr : Kd.C k31 w tA t.length t) (k : Nat) : ∀ (i : Int) (acc r : List Int), cellsF k t i acc = some r → ∀ W, CellsSt w tA t.length tc acc W →
      Calls Try.prog 68 #[.int .i64 i, .pointer (some ⟨w.heap.size, 0, none⟩), .pointer (some ⟨w.heap.size + 2, 0, none⟩), .pointer (some ⟨w.heap.size + 1, 0, none⟩)] W (CellsPost w tA t.length tc r W) := by
  induction k with
  | zero => intro i acc r h; simp [cellsF] at h
  | succ k ih =>
    intro i acc r h W hS
    simp only [cellsF] at h
    by_cases h0 : 0 ≤ i
    · rw [if_pos h0] at h
      by_cases h1 : i < (t.length : Int)
      · rw [if_pos h1] at h
        by_cases h4 : (rd_T31 t i).f0 = 4
        · rw [if_pos h4] at h
          exact cells1_struct w tA tc t hr i acc r h0 h1 h4 k ih h W hS
        · rw [if_neg h4] at h
          by_cases h5 : (rd_T31 t i).f0 = 5
          · rw [if_pos h5] at h
            by_cases hm : (rd_T31 t i).f2 ≤ 1000
            · rw [if_pos hm] at h
              exact cells1_array w tA tc t hr i acc r h0 h1 h5 hm k ih h W hS
            · rw [if_neg hm] at h
              cases h
          · rw [if_neg h5] at h
            by_cases hl : acc.length < 1099511627776
            · rw [if_pos hl] at h
              obtain rfl := Option.some.inj h
              exact cells1_leaf w tA tc t hr i acc h0 h1 h4 h5 hl W hS
            · rw [if_neg hl] at h
              cases h
      · rw [if_neg h1] at h
        cases h
    · rw [if_neg h0] at h
      cases h

/-- The cells of a type. -/
def types_cells.f (k : Nat) (l0 : List S31) (a1 : Int) : Option (List Int) := cellsF k l0 a1 []
theorem types_cells.calls (k : Nat) (A0 : Option Addr) (c0 : Nat) (l0 : List S31) (a1 : Int) (r : List Int) (w : World) (hr0 : Kd.C k31 w A0 l0.length l0) (hc0 : l0.length ≤ c0) (h : types_cells.f k l0 a1 = some r) :
    Calls Try.prog 48 #[.slice A0 l0.length c0, .int .i64 a1] w fun e w' => ∃ v0_ : Value, e = .returned (v0_) ∧ Kd.R (Kd.int .i64) 3 w' w.heap.size (fun _ => True) v0_ r ∧ Below w.heap.size w w' := by
  have hcall := cells1_calls w A0 c0 l0 hr0 k a1 [] r h
  have HCALL := Aside0.mk hcall
  clear hr0 hcall
  go_enter Try.func48, Try.ntmps48
  go_wp2_with fail
  refine (HCALL.out _ ?_).mono ?_
  · exact ⟨below_alloc (below_alloc (below_alloc (Below.refl _ _) _) _) _, blk_alloc (blk_alloc (blk_new _ _) _) _, (by have h := blk_new ((w.alloc (.cells #[.slice A0 l0.length c0] 22)).alloc (.cells #[.slice none 0 0] 29)) (.cells #[.func (.func 68) #[] #[.pointer (some ⟨w.heap.size, 0, none⟩), .pointer (some ⟨w.heap.size + 1 + 1, 0, none⟩), .pointer (some ⟨w.heap.size + 1, 0, none⟩)]] 65); simpa using h), .slice none 0 0, (by have h := blk_alloc (blk_new (w.alloc (.cells #[.slice A0 l0.length c0] 22)) (.cells #[.slice none 0 0] 29)) (.cells #[.func (.func 68) #[] #[.pointer (some ⟨w.heap.size, 0, none⟩), .pointer (some ⟨w.heap.size + 1 + 1, 0, none⟩), .pointer (some ⟨w.heap.size + 1, 0, none⟩)]] 65); simpa using h), own_nil _ _ _ _⟩
  rintro e w' ⟨rfl, hs, hk, hz⟩
  obtain ⟨v, hv, ho⟩ := hs.row
  obtain ⟨A1, c1, rfl⟩ := own_slice ho
  have hvc : w'.cell? ⟨w.heap.size + 1, 0, none⟩ = some (.slice A1 r.length c1) := (blk_cell hv 0).trans rfl
  have hvf := blk_frozen hv 0
  have HV := Aside0.mk hv
  have HO := Aside0.mk ho
  have HB := Aside0.mk hs.below
  clear HCALL hs hk hz hv ho
  go_wp2_with fail
  have hvn : (w'.setCell ⟨w.heap.size + 1, 0, none⟩ (.slice A1 r.length c1)).cell? ⟨w.heap.size + 1, 0, none⟩ = some (.slice A1 r.length c1) := (blk_cell (blk_put HV.out 0 _ rfl) 0).trans rfl
  refine bodyPost_ret (v := .slice A1 r.length c1) (by simp [results, Try.results48, go_sem, hvn]) rfl ?_
  refine ⟨_, rfl, ?_, below_set HB.out (by omega)⟩
  have ho : (w'.setCell ⟨w.heap.size + 1, 0, none⟩ (.slice A1 r.length c1)).ownsRow w.heap.size 3 1 (.slice A1 r.length c1) r.length (encs (Value.int .i64) r) := own_weaken (own_move HO.out (fun k hk => Below.heap_setCell _ _ _ _ (by rintro rfl; have := own_base HO.out _ hk; simp at this))) (by omega)
  exact Kd.R_of_own ho (fun _ _ => trivial)

theorem foldlM_mono {f g : List Int → Int → Option (List Int)} (h : ∀ a p r, f a p = some r → g a p = some r) (ps : List Int) : ∀ a r, ps.foldlM f a = some r → ps.foldlM g a = some r := by
  induction ps with
  | nil => intro a r h'; exact h'
  | cons p ps ih =>
    intro a r h'
    rw [List.foldlM_cons] at h' ⊢
    obtain ⟨b, h1, h2⟩ := Option.bind_eq_some_iff.1 h'
    exact Option.bind_eq_some_iff.2 ⟨b, h _ _ _ h1, ih _ _ h2⟩
theorem cellsF_mono (k : Nat) : ∀ (t : List S31) (i : Int) (acc r : List Int), cellsF k t i acc = some r → cellsF (k + 1) t i acc = some r := by
  induction k with
  | zero => intro t i acc r h; simp [cellsF] at h
  | succ k ih =>
    intro t i acc r h
    rw [cellsF] at h ⊢
    split at h
    · rename_i h0
      rw [if_pos h0]
      split at h
      · rename_i h1
        rw [if_pos h1]
        split at h
        · rename_i h4
          rw [if_pos h4]
          exact foldlM_mono (fun a p r => ih t p a r) _ _ _ h
        · rename_i h4
          rw [if_neg h4]
          split at h
          · rename_i h5
            rw [if_pos h5]
            split at h
            · rename_i hm
              rw [if_pos hm]
              exact foldlM_mono (fun a p r => ih t p a r) _ _ _ h
            · cases h
          · rename_i h5
            rw [if_neg h5]
            exact h
      · cases h
    · cases h
theorem types_cells.mono : ∀ a0 a1 k, LeO (types_cells.f k a0 a1) (types_cells.f (k + 1) a0 a1) := fun a0 a1 k r h => cellsF_mono k a0 a1 [] r h
end Go.Proofs.Ytfjmpfecnemoiaa.Q
