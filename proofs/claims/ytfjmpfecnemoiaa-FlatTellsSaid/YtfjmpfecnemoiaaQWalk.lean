/-
  flat's walker, at a scalar; and what it does (walkF).
-/
import Derived.Test.YtfjmpfecnemoiaaQCells
import Derived.Test.YtfjmpfecnemoiaaQx8
import Derived.Deep.RegionLaw
namespace Go.Proofs.Ytfjmpfecnemoiaa.Q
open Go.RowKit Go.Proofs.YtfjmpfecnemoiaaW.PrintWords Go.Proofs.YtfjmpfecnemoiaaW.PrintLast Go.Proofs.YtfjmpfecnemoiaaW.PrintMore
set_option linter.unusedVariables false
set_option linter.unusedSimpArgs false

/-- What is kept of a scalar: its number, or its flat field. -/
def toldOf (fld : Bool) (i fl : Int) : Int := if fld then i else fl
/-- What the walker does, with so many calls within each other: its count of flat fields, and what it has kept. -/
def walkF : Nat → Bool → List S31 → Int → Int × List Int → Option (Int × List Int)
  | 0, _, _, _, _ => none
  | k + 1, fld, t, i, a => if 0 ≤ i then (if i < (t.length : Int) then
      (if (rd_T31 t i).f0 = 4 then (rd_T31 t i).f3.foldlM (fun a p => walkF k fld t p a) a
       else if (rd_T31 t i).f0 = 5 then (if (rd_T31 t i).f2 ≤ 1000 then (List.replicate (if fld then min 1 (rd_T31 t i).f2.toNat else (rd_T31 t i).f2.toNat) (rd_T31 t i).f1).foldlM (fun b p => walkF k fld t p (a.1, b.2)) a else none)
       else if a.2.length < 1099511627776 then some (wrap64 (a.1 + 1), a.2 ++ [toldOf fld i a.1]) else none) else none) else none

/-- The walker's memory. -/
structure WalkSt (w : World) (g fid : Nat) (tA : Option Addr) (tn tc : Nat) (fld : Bool) (a : Int × List Int) (W : World) : Prop where
  below : Below w.heap.size w W
  hg : w.heap.size ≤ g
  row : ∃ v, W.heap[g]? = some (.cells #[.slice tA tn tc, .bool fld, .func (.func fid) #[] #[], .int .i64 a.1, v] 64 (0, 0)) ∧ W.ownsRow w.heap.size 3 1 v a.2.length (nums .i64 a.2)
def WalkPost (w : World) (g fid : Nat) (tA : Option Addr) (tn tc : Nat) (fld : Bool) (r : Int × List Int) (W : World) (e : Ending) (W' : World) : Prop := e = .returned (.tuple #[]) ∧ WalkSt w g fid tA tn tc fld r W' ∧ Keeps31 W W' ∧ W.heap.size ≤ W'.heap.size
def Tells (fid : Nat) (fld : Bool) : Prop := ∀ (W : World) (i fl : Int), Calls Try.prog fid #[.int .i64 i, .int .i64 fl] W fun e w' => e = .returned (.int .i64 (toldOf fld i fl)) ∧ W = w'

theorem walk_close {w W W1 w2 : World} {g fid : Nat} {tA : Option Addr} {tn tc : Nat} {fld : Bool} {fl n x : Int} {out : List Int} {v : Value} {A1 : Option Addr} {c1 : Nat} (hS : WalkSt w g fid tA tn tc fld (fl, out) W) (hb1 : Below W.heap.size W W1)
    (hs2 : w2.heap[g]? = some (.cells #[.slice tA tn tc, .bool fld, .func (.func fid) #[] #[], .int .i64 fl, v] 64 (0, 0))) (ho : W1.ownsRow w.heap.size 3 1 v out.length (nums .i64 out)) (hg : W1.drew.grownBy w2 v.ownBlock) (hB : Below w.heap.size W1 w2)
    (hown : w2.ownsRow w.heap.size 3 1 (.slice A1 (out.length + 1) c1) (out.length + 1) (nums .i64 out ++ [.int .i64 x])) :
    WalkPost w g fid tA tn tc fld (n, out ++ [x]) W (.returned (.tuple #[])) ((w2.setCell ⟨g, 4, none⟩ (.slice A1 (out.length + 1) c1)).setCell ⟨g, 3, none⟩ (.int .i64 n)) := by
  have hne := own_ne_block hown hs2 (by decide)
  refine ⟨rfl, ⟨?_, hS.hg, .slice A1 (out.length + 1) c1, ?_, ?_⟩, ?_, ?_⟩
  · exact (((hS.below.trans (hb1.mono hS.below.size)).trans hB).setCell hS.hg _).setCell hS.hg _
  · exact blk_put (blk_put hs2 4 _ rfl) 3 _ rfl
  · have h3 := own_setCell (own_setCell hown (p := ⟨g, 4, none⟩) hne (.slice A1 (out.length + 1) c1)) (p := ⟨g, 3, none⟩) hne (.int .i64 n)
    simpa [nums] using h3
  · intro b cs hb
    have h1 := blk_drew (blk_below hb hb1)
    have h2 := blk_grown h1 hg (own_ne_block ho.drew h1 (by decide))
    have hbg := blk_ne h2 hs2 (by decide)
    exact blk_far (blk_far h2 hbg _) hbg _
  · have h1 := hb1.size
    have h2 := hB.size
    simp
    omega

set_option maxHeartbeats 4000000 in
theorem walk_leaf (w : World) (g fid : Nat) (fld : Bool) (hfid : ∀ args w, (callFunc fid args).run Try.prog w = .ok (.enter fid args) w) (htell : Tells fid fld) (tA : Option Addr) (tc : Nat) (t : List S31) (hr : Kd.C k31 w tA t.length t) (i : Int) (fl : Int) (out : List Int) (h0 : 0 ≤ i) (h1 : i < (t.length : Int)) (h4 : (rd_T31 t i).f0 ≠ 4) (h5 : (rd_T31 t i).f0 ≠ 5) (hl : out.length < 1099511627776)
    (W : World) (hS : WalkSt w g fid tA t.length tc fld (fl, out) W) :
    Calls Try.prog 52 #[.pointer (some ⟨g, 0, none⟩), .int .i64 i] W (WalkPost w g fid tA t.length tc fld (wrap64 (fl + 1), out ++ [toldOf fld i fl]) W) := by
  have hu31 := Try.underlying31
  have HS := Aside0.mk hS
  obtain ⟨ad, A3, c3, e, hx0, hx1, hx2, hx3, -, -⟩ := at_T31 (Kd.C_below hr hS.below) i h0 h1
  cases e
  obtain ⟨v, hv, ho⟩ := hS.row
  have hv0 : W.cell? ⟨g, 0, none⟩ = some (.slice (some ad) t.length tc) := (blk_cell hv 0).trans rfl
  have hv1 : W.cell? ⟨g, 1, none⟩ = some (.bool fld) := (blk_cell hv 1).trans rfl
  have hv2 : W.cell? ⟨g, 2, none⟩ = some (.func (.func fid) #[] #[]) := (blk_cell hv 2).trans rfl
  have hv3 : W.cell? ⟨g, 3, none⟩ = some (.int .i64 fl) := (blk_cell hv 3).trans rfl
  have hv4 : W.cell? ⟨g, 4, none⟩ = some v := (blk_cell hv 4).trans rfl
  have hf3 := blk_frozen hv 3
  have hf4 := blk_frozen hv 4
  have hz : g < W.heap.size := blk_lt hv
  have HV := Aside0.mk hv
  have HO := Aside0.mk ho
  have c4 : ((rd_T31 t i).f0 == 4) = false := beq_eq_false_iff_ne.mpr h4
  have c5 : ((rd_T31 t i).f0 == 5) = false := beq_eq_false_iff_ne.mpr h5
  have HT := Aside0.mk htell
  clear hr hS hv ho h4 h5 htell
  go_enter Try.func52, Try.ntmps52
  go_wp2_with fail
  generalize hW1 : W.alloc (.cells #[.int .u8 (rd_T31 t i).f0, .int .i64 (rd_T31 t i).f1, .int .i64 (rd_T31 t i).f2, .slice A3 (rd_T31 t i).f3.length c3] 31) = W1
  have HB1 := Aside0.mk (show Below W.heap.size W W1 from hW1 ▸ below_alloc (Below.refl _ _) _)
  have HV1 := Aside0.mk (blk_below HV.out HB1.out)
  have HO1 := Aside0.mk (show W1.ownsRow w.heap.size 3 1 v out.length (nums .i64 out) from hW1 ▸ HO.out.alloc _)
  have HG := Aside0.mk HS.out.hg
  have HSZ := Aside0.mk (show w.heap.size ≤ W1.heap.size from Nat.le_trans HS.out.below.size HB1.out.size)
  have hw1 : W1.cell? ⟨g, 1, none⟩ = some (.bool fld) := (blk_cell HV1.out 1).trans rfl
  have hw2 : W1.cell? ⟨g, 2, none⟩ = some (.func (.func fid) #[] #[]) := (blk_cell HV1.out 2).trans rfl
  have hw3 : W1.cell? ⟨g, 3, none⟩ = some (.int .i64 fl) := (blk_cell HV1.out 3).trans rfl
  have hw4 : W1.cell? ⟨g, 4, none⟩ = some v := (blk_cell HV1.out 4).trans rfl
  have hg1 : g < W1.heap.size := blk_lt HV1.out
  clear hx0 hx1 hx2 hx3 hv0 hv1 hv2 hv3 hv4 hf3 hf4 hz HV HO hW1
  go_region_law (first | (refine step_append_cells (w0 := W1) (W := W1.drew) w.heap.size rfl (.tmp 23) (.tmp 34) 29 3 (.int .i64 0) 1 8 rfl Try.underlying29 info3 rfl (by decide) (by decide) v out.length (nums .i64 out) [.int .i64 (toldOf fld i fl)] (by simp [Act.eval, Act.put]) (by simp [Act.eval, Act.put]) rfl (by simp [Value.oneCell']) HO1.out.drew (below_drew (Below.refl _ _)) HSZ.out (by omega) ?_; intro v1 w2 hown hbb hgr _; obtain ⟨A1, c1, rfl⟩ := own_slice hown; have hs2 := blk_grown (blk_drew HV1.out) hgr (own_ne_block HO1.out HV1.out (by decide)); have hk3 : w2.cell? ⟨g, 3, none⟩ = some (.int .i64 fl) := (blk_cell hs2 3).trans rfl; have hk4 : w2.cell? ⟨g, 4, none⟩ = some v := (blk_cell hs2 4).trans rfl; have hf3 := blk_frozen hs2 3; have hf4 := blk_frozen hs2 4; have HS2 := Aside0.mk hs2; have HN := Aside0.mk hown; have HBB := Aside0.mk hbb; have HGR := Aside0.mk hgr; clear hs2 hown hbb hgr) | (go_simp; refine (HT.out _ _ _).mono ?_; rintro e w' ⟨rfl, rfl⟩))
  all_goals go_wp2_with fail
  all_goals go_end0
  all_goals exact walk_close HS.out HB1.out HS2.out HO1.out HGR.out HBB.out HN.out
end Go.Proofs.Ytfjmpfecnemoiaa.Q
