/-
  shape.Twin: a program in new memory.
-/
import Derived.Test.YtfjmpfecnemoiaaDoorQTwT
import Derived.Test.YtfjmpfecnemoiaaDoorQCont
import Derived.Test.YtfjmpfecnemoiaaDoorQBlk
import Derived.StillTailTactics
import Derived.Deep.RegionHeld3
import Derived.Deep.RegionWith
namespace Go.Proofs.YtfjmpfecnemoiaaDoor.Q
open Go.RowKit Go.Proofs.YtfjmpfecnemoiaaDoorW.PrintWords Go.Proofs.YtfjmpfecnemoiaaDoorW.PrintLast Go.Proofs.YtfjmpfecnemoiaaDoorW.PrintMore
set_option linter.unusedVariables false
set_option linter.unusedSimpArgs false
set_option maxRecDepth 100000

/-- The row that is being made over, or none. -/
def MixV {α : Type} (d : Kd α) (e : Nat) (w : World) (base : Nat) (ok : Nat → Prop) (l : List α) (v : Value) (i j : Nat) (W : World) : Prop := (l = [] ∧ v = .slice none 0 0) ∨ ∃ g cap, v = .slice (some ⟨g, 0, none⟩) l.length cap ∧ Mix d e w base ok l g cap i j W
section
variable {α : Type} {d : Kd α} {e base i j : Nat} {w W : World} {ok ok' : Nat → Prop} {l : List α} {v : Value}
theorem MixV.start (hR : (Kd.fixed d w).R e W base ok v l) : MixV d e w base ok l v 0 0 W := Mix.start hR
theorem MixV.slice_ (h : MixV d e w base ok l v i j W) : ∃ A c, v = .slice A l.length c := by
  rcases h with ⟨rfl, rfl⟩ | ⟨g, cap, rfl, _⟩
  · exact ⟨none, 0, rfl⟩
  · exact ⟨_, _, rfl⟩
theorem MixV.get (h : MixV d e w base ok l v i j W) {n : Nat} (hn : n < l.length) : ∃ g cap, v = .slice (some ⟨g, 0, none⟩) l.length cap ∧ Mix d e w base ok l g cap i j W := by
  rcases h with ⟨rfl, rfl⟩ | h
  · exact absurd hn (Nat.not_lt_zero _)
  · exact h
theorem MixV.done (h : MixV d e w base (fun _ => True) l v i j W) (hi : l.length ≤ i) : d.R e W base (fun _ => True) v l := by
  rcases h with ⟨rfl, rfl⟩ | ⟨g, cap, rfl, h⟩
  · exact Kd.R_nil _ _ _ _ _
  · exact h.done hi trivial
theorem MixV.below {W1 : World} (h : MixV d e w base ok l v i j W) (hb : Below W.heap.size W W1) : MixV d e w base ok l v i j W1 := by
  rcases h with h | ⟨g, cap, hv, h⟩
  · exact .inl h
  · exact .inr ⟨g, cap, hv, h.below hb⟩
end
/-- What stays beside: the two boxes, the copied table. -/
structure TwF (w : World) (vT vF : Value) (t : List S78) (W : World) : Prop where
  below : Below w.heap.size w W
  box : W.heap[w.heap.size]? = some (.cells #[vT, vF] 35 (0, 0))
  out : W.heap[w.heap.size + 1]? = some (.cells #[.slice none 0 0, .slice none 0 0] 35 (0, 0))
  rows : Kd.R k78 78 W w.heap.size (fun _ => True) vT t
theorem TwF.step {w W W1 : World} {vT vF : Value} {t : List S78} (h : TwF w vT vF t W) (hb : Below W.heap.size W W1) : TwF w vT vF t W1 :=
  ⟨below_then h.below h.below.size hb, blk_below h.box hb, blk_below h.out hb, Kd.R_below h.rows hb⟩
theorem TwF.set {w W : World} {vT vF : Value} {t : List S78} {g ty : Nat} {cs : Array Value} (h : TwF w vT vF t W) (hg : w.heap.size ≤ g) (hb : W.heap[g]? = some (.cells cs ty (0, 0))) (h35 : 35 ≠ ty) (ht : ∀ q, q ∈ 78 :: k78.E → q ≠ ty) (k : Nat) (u : Value) : TwF w vT vF t (W.setCell ⟨g, k, none⟩ u) :=
  ⟨h.below.setCell hg u, blk_far h.box (p := ⟨g, k, none⟩) (blk_ne h.box hb h35) u, blk_far h.out (p := ⟨g, k, none⟩) (blk_ne h.out hb h35) u, Kd.R_set h.rows hb ht k u⟩
theorem Mix.blk_ {α : Type} {d : Kd α} {e base g cap i j : Nat} {w W : World} {ok : Nat → Prop} {l : List α} (h : Mix d e w base ok l g cap i j W) : ∃ cur, W.heap[g]? = some (.cells cur e (0, 0)) := by
  obtain ⟨cur, hh, _⟩ := h.blk
  exact ⟨cur, hh⟩
def TwinPr (t : List S78) (f : List S55) (w : World) (e : Ending) (w' : World) : Prop := ∃ vT vF, e = .returned (.agg #[vT, vF]) ∧ Below w.heap.size w w' ∧ Kd.R k78 78 w' w.heap.size (fun _ => True) vT t ∧ Kd.R k55 55 w' w.heap.size (fun _ => True) vF f

theorem tw_first {w W0 w2 w3 : World} {vT vF a b : Value} {t : List S78} {f : List S55} (hB : Below w.heap.size w W0) (hp : W0.heap[w.heap.size]? = some (.cells #[a, b] 35 (0, 0))) (hq : W0.heap[w.heap.size + 1]? = some (.cells #[.slice none 0 0, .slice none 0 0] 35 (0, 0)))
    (hb2 : Below W0.drew.heap.size W0.drew w2) (hR2 : Kd.R k78 78 w2 W0.drew.heap.size (fun _ => True) vT t) (hb3 : Below w2.heap.size w2 w3) (hR3 : (Kd.fixed k55 w).R 55 w3 w2.heap.size (fun _ => True) vF f) :
    TwF w vT vF t ((w3.setCell ⟨w.heap.size, 0, none⟩ vT).setCell ⟨w.heap.size, 1, none⟩ vF) ∧ (Kd.fixed k55 w).R 55 ((w3.setCell ⟨w.heap.size, 0, none⟩ vT).setCell ⟨w.heap.size, 1, none⟩ vF) w.heap.size (fun _ => True) vF f := by
  have h0 : w.heap.size ≤ W0.drew.heap.size := hB.size
  have h3 : Below w.heap.size w w3 := below_then (below_then (Below.drew hB) h0 hb2) (Nat.le_trans h0 hb2.size) hb3
  have hp3 := blk_below (blk_below (blk_drew hp) hb2) hb3
  have hq3 := blk_below (blk_below (blk_drew hq) hb2) hb3
  have hp4 := blk_put hp3 0 vT (rfl : _ = #[vT, b])
  have hne : w.heap.size + 1 ≠ w.heap.size := by omega
  have hE : ∀ q, q ∈ 55 :: (Kd.fixed k55 w).E → q ≠ 35 := by
    intro q hq
    rcases List.mem_cons.1 hq with h | h
    · omega
    · cases h
  have r2 := Kd.R_below (Kd.R_lower hR2 h0) hb3
  have r3 := Kd.R_lower hR3 (Nat.le_trans h0 hb2.size)
  exact ⟨⟨(h3.setCell (Nat.le_refl _) _).setCell (Nat.le_refl _) _, blk_put hp4 1 vF rfl, blk_far (p := ⟨w.heap.size, 1, none⟩) (blk_far (p := ⟨w.heap.size, 0, none⟩) hq3 hne vT) hne vF, Kd.R_set (Kd.R_set r2 hp3 (by decide) 0 vT) hp4 (by decide) 1 vF⟩,
    Kd.R_set (Kd.R_set r3 hp3 hE 0 vT) hp4 hE 1 vF⟩

/-- Within the function of number i: what stays beside; the row of functions, its element i open. -/
structure Up1 (w : World) (vT vF : Value) (t : List S78) (f : List S55) (gf cF i N1 : Nat) (s : Int) (vB : Value) (W : World) : Prop where
  F : TwF w vT vF t W
  m : Mix k55 55 w w.heap.size (fun k => k < N1) f gf cF i (i + 1) W
  at_ : Mix.At 2 gf i [.int .i64 s, vB] W
  ge : w.heap.size ≤ N1
theorem Up1.step {w W W1 : World} {vT vF vB : Value} {t : List S78} {f : List S55} {gf cF i N1 : Nat} {s : Int} (h : Up1 w vT vF t f gf cF i N1 s vB W) (hb : Below W.heap.size W W1) : Up1 w vT vF t f gf cF i N1 s vB W1 :=
  ⟨h.F.step hb, h.m.below hb, h.at_.below hb, h.ge⟩
theorem Up1.set {w W : World} {vT vF vB : Value} {t : List S78} {f : List S55} {gf cF i N1 g2 ty : Nat} {s : Int} {cs : Array Value} (h : Up1 w vT vF t f gf cF i N1 s vB W) (hg : N1 ≤ g2) (hb : W.heap[g2]? = some (.cells cs ty (0, 0))) (h35 : 35 ≠ ty) (h55 : 55 ≠ ty) (ht : ∀ q, q ∈ 78 :: k78.E → q ≠ ty) (k : Nat) (u : Value) : Up1 w vT vF t f gf cF i N1 s vB (W.setCell ⟨g2, k, none⟩ u) := by
  obtain ⟨cur, hh⟩ := h.m.blk_
  have hne := blk_ne hh hb h55
  exact ⟨h.F.set (Nat.le_trans h.ge hg) hb h35 ht k u, h.m.far (p := ⟨g2, k, none⟩) hne (fun q hq => by show q ≠ g2; omega) u, h.at_.far (p := ⟨g2, k, none⟩) hne u, h.ge⟩
theorem up1_start {w wi w3 : World} {vT vF vB v0 : Value} {t : List S78} {f : List S55} {gf cF i : Nat} {s : Int} {c55 : Array Value} {bs : List S58} (hF : TwF w vT vF t wi) (hm : Mix k55 55 w w.heap.size (fun _ => True) f gf cF i i wi) (hat : Mix.At 2 gf i [.int .i64 s, v0] wi)
    (hb : Below (wi.alloc (.cells c55 55)).drew.heap.size (wi.alloc (.cells c55 55)).drew w3) (hR : (Kd.fixed k58 w).R 58 w3 (wi.alloc (.cells c55 55)).drew.heap.size (fun _ => True) vB bs) :
    Up1 w vT vF t f gf cF i wi.heap.size s vB (w3.setCell ⟨gf, i * 2 + 1, none⟩ vB) ∧ (w3.setCell ⟨gf, i * 2 + 1, none⟩ vB).heap[wi.heap.size]? = some (.cells c55 55 (0, 0)) ∧ MixV k58 58 w wi.heap.size (fun _ => True) bs vB 0 0 (w3.setCell ⟨gf, i * 2 + 1, none⟩ vB) := by
  have hsz : wi.heap.size ≤ (wi.alloc (.cells c55 55)).drew.heap.size := by simp
  have hb0 : Below wi.heap.size wi w3 := below_then (Below.drew (below_alloc (Below.refl _ _) _)) hsz hb
  obtain ⟨cur, hh⟩ := hm.blk_
  have hlt := blk_lt hh
  have hh3 := blk_below hh hb0
  have hbx := blk_below (blk_drew (blk_new wi (.cells c55 55))) hb
  have h1 := ((hm.tight.hole (show i ≤ i + 1 by omega)).below hb0).put (n := i) (q := 1) (Nat.le_refl _) (by omega) (show 1 < 2 by omega) vB
  have hE : ∀ q, q ∈ 58 :: (Kd.fixed k58 w).E → q ≠ 55 := by
    intro q hq
    rcases List.mem_cons.1 hq with h | h
    · omega
    · cases h
  exact ⟨⟨(hF.step hb0).set hm.hg hh3 (by decide) (by decide) _ _, h1, (hat.below hb0).put (q := 1) (by omega) vB, hF.below.size⟩, blk_far (p := ⟨gf, i * 2 + 1, none⟩) hbx (by show wi.heap.size ≠ gf; omega) vB, MixV.start (Kd.R_set (Kd.R_lower hR hsz) hh3 hE _ _)⟩
/-- Within its block of number k: the row of blocks, its element k open. -/
structure Up2 (w : World) (vT vF : Value) (t : List S78) (f : List S55) (gf cF i N1 : Nat) (s : Int) (vB : Value) (bs : List S58) (gb cB k N2 : Nat) (cs : List Value) (W : World) : Prop where
  u : Up1 w vT vF t f gf cF i N1 s vB W
  m : Mix k58 58 w N1 (fun q => q < N2) bs gb cB k (k + 1) W
  at_ : Mix.At 5 gb k cs W
  ge : N1 ≤ N2
theorem Up2.step {w W W1 : World} {vT vF vB : Value} {t : List S78} {f : List S55} {gf cF i N1 gb cB k N2 : Nat} {s : Int} {bs : List S58} {cs : List Value} (h : Up2 w vT vF t f gf cF i N1 s vB bs gb cB k N2 cs W) (hb : Below W.heap.size W W1) : Up2 w vT vF t f gf cF i N1 s vB bs gb cB k N2 cs W1 :=
  ⟨h.u.step hb, h.m.below hb, h.at_.below hb, h.ge⟩
theorem Up2.set {w W : World} {vT vF vB : Value} {t : List S78} {f : List S55} {gf cF i N1 gb cB k N2 g2 : Nat} {s : Int} {bs : List S58} {cs : List Value} {c : Array Value} (h : Up2 w vT vF t f gf cF i N1 s vB bs gb cB k N2 cs W) (hg : N2 ≤ g2) (hb : W.heap[g2]? = some (.cells c 24 (0, 0))) (n : Nat) (u : Value) : Up2 w vT vF t f gf cF i N1 s vB bs gb cB k N2 cs (W.setCell ⟨g2, n, none⟩ u) := by
  obtain ⟨cur, hh⟩ := h.m.blk_
  have hne := blk_ne hh hb (by decide)
  exact ⟨h.u.set (Nat.le_trans h.ge hg) hb (by decide) (by decide) (by decide) n u, h.m.far (p := ⟨g2, n, none⟩) hne (fun q hq => by show q ≠ g2; omega) u, h.at_.far (p := ⟨g2, n, none⟩) hne u, h.ge⟩
theorem up2_start {w wk w3 : World} {vT vF vB vL : Value} {t : List S78} {f : List S55} {gf cF i N1 gb cB k : Nat} {s : Int} {bs : List S58} {cs : List Value} {c58 : Array Value} {xs : List S24} (hu : Up1 w vT vF t f gf cF i N1 s vB wk) (hm : Mix k58 58 w N1 (fun _ => True) bs gb cB k k wk) (hat : Mix.At 5 gb k cs wk) (hN : N1 ≤ wk.heap.size)
    (hb : Below (wk.alloc (.cells c58 58)).heap.size (wk.alloc (.cells c58 58)) w3) (hR : (Kd.fixed k24 w).R 24 w3 (wk.alloc (.cells c58 58)).heap.size (fun _ => True) vL xs) :
    Up2 w vT vF t f gf cF i N1 s vB bs gb cB k wk.heap.size cs w3 ∧ MixV k24 24 w wk.heap.size (fun _ => True) xs vL 0 0 w3 := by
  have hsz : wk.heap.size ≤ (wk.alloc (.cells c58 58)).heap.size := by simp
  have hb0 : Below wk.heap.size wk w3 := below_then (below_alloc (Below.refl _ _) _) hsz hb
  exact ⟨⟨hu.step hb0, (hm.tight.hole (show k ≤ k + 1 by omega)).below hb0, hat.below hb0, hN⟩, MixV.start (Kd.R_lower hR hsz)⟩
/-- An instruction's two lists, copied and stored. -/
theorem up2_ins {w wn w3 w4 : World} {vT vF vB v5 v6 : Value} {t : List S78} {f : List S55} {gf cF i N1 gb cB k N2 gl cL n : Nat} {s : Int} {bs : List S58} {cs : List Value} {c24 : Array Value} {xs : List S24} {A5 A6 : Option Addr} {c5 c6 : Nat} (hu : Up2 w vT vF t f gf cF i N1 s vB bs gb cB k N2 cs wn) (hm : Mix k24 24 w N2 (fun _ => True) xs gl cL n n wn) (hn : n < xs.length)
    (hat : Mix.At 7 gl n [.int .u8 xs[n].f0, .int .i64 xs[n].f1, .int .i64 xs[n].f2, .int .i64 xs[n].f3, .int .i64 xs[n].f4, .slice A5 xs[n].f5.length c5, .slice A6 xs[n].f6.length c6] wn) (hN : N2 ≤ wn.heap.size)
    (hb : Below (wn.alloc (.cells c24 24)).drew.heap.size (wn.alloc (.cells c24 24)).drew w3) (hR5 : (Kd.int .i64).R 3 w3 (wn.alloc (.cells c24 24)).drew.heap.size (fun _ => True) v5 xs[n].f5)
    (hb4 : Below w3.heap.size w3 w4) (hR6 : (Kd.int .i64).R 3 w4 w3.heap.size (fun _ => True) v6 xs[n].f6) :
    Up2 w vT vF t f gf cF i N1 s vB bs gb cB k N2 cs ((w4.setCell ⟨gl, n * 7 + 5, none⟩ v5).setCell ⟨gl, n * 7 + 6, none⟩ v6) ∧ Mix k24 24 w N2 (fun _ => True) xs gl cL (n + 1) (n + 1) ((w4.setCell ⟨gl, n * 7 + 5, none⟩ v5).setCell ⟨gl, n * 7 + 6, none⟩ v6) := by
  have hsz : wn.heap.size ≤ (wn.alloc (.cells c24 24)).drew.heap.size := by simp
  have hb0 : Below wn.heap.size wn w3 := below_then (Below.drew (below_alloc (Below.refl _ _) _)) hsz hb
  have hb1 : Below wn.heap.size wn w4 := below_then hb0 hb0.size hb4
  obtain ⟨cur, hh⟩ := hm.blk_
  have hh4 := blk_below hh hb1
  have hh5 := blk_set hh4 (n * 7 + 5) v5
  have hh6 := blk_set hh5 (n * 7 + 6) v6
  have hE : ∀ q, q ∈ 3 :: (Kd.int .i64).E → q ≠ 24 := by decide
  have r5 := Kd.R_set (Kd.R_set (Kd.R_lower (Kd.R_below hR5 hb4) (Nat.le_trans hN hsz)) hh4 hE (n * 7 + 5) v5) hh5 hE (n * 7 + 6) v6
  have r6 := Kd.R_set (Kd.R_set (Kd.R_lower hR6 (Nat.le_trans hN hb0.size)) hh4 hE (n * 7 + 5) v5) hh5 hE (n * 7 + 6) v6
  have m1 := (((hm.hole (show n ≤ n + 1 by omega)).below hb1).put (n := n) (q := 5) (Nat.le_refl _) (by omega) (show 5 < 7 by omega) v5).put (n := n) (q := 6) (Nat.le_refl _) (by omega) (show 6 < 7 by omega) v6
  have a1 := ((hat.below hb1).put (q := 5) (by omega) v5).put (q := 6) (by omega) v6
  exact ⟨((hu.step hb1).set hm.hg hh4 _ _).set hm.hg hh5 _ _, m1.fill hn a1 (k24_mkM _ _ _ xs[n] (Kd.R_mono (Kd.R_types r5 hh6 hE) (fun k hk => ⟨trivial, hk.2⟩)) (Kd.R_mono (Kd.R_types r6 hh6 hE) (fun k hk => ⟨trivial, hk.2⟩)))⟩
/-- A block's instructions, stored. -/
theorem up2_done {w W : World} {vT vF vB vL v0 : Value} {t : List S78} {f : List S55} {gf cF i N1 gb cB k N2 : Nat} {s : Int} {bs : List S58} (hk : k < bs.length) (hu : Up2 w vT vF t f gf cF i N1 s vB bs gb cB k N2 [v0, .int .u8 bs[k].f1.f0, .int .i64 bs[k].f1.f1, .int .i64 bs[k].f1.f2, .int .i64 bs[k].f1.f3] W)
    (hR : k24.R 24 W N2 (fun _ => True) vL bs[k].f0) : Up1 w vT vF t f gf cF i N1 s vB (W.setCell ⟨gb, k * 5, none⟩ vL) ∧ Mix k58 58 w N1 (fun _ => True) bs gb cB (k + 1) (k + 1) (W.setCell ⟨gb, k * 5, none⟩ vL) := by
  obtain ⟨cur, hh⟩ := hu.m.blk_
  have hh1 := blk_set hh (k * 5) vL
  have hE : ∀ q, q ∈ 24 :: k24.E → q ≠ 58 := by decide
  have r := Kd.R_set (Kd.R_lower hR hu.ge) hh hE (k * 5) vL
  have m1 := (hu.m.mono (ok' := fun _ => True) (fun _ _ => trivial)).put (n := k) (q := 0) (Nat.le_refl _) (by omega) (show 0 < 5 by omega) vL
  have a1 := hu.at_.put (q := 0) (by omega) vL
  exact ⟨hu.u.set hu.m.hg hh (by decide) (by decide) (by decide) _ _, m1.fill hk a1 (k58_mkM _ _ _ bs[k] (Kd.R_mono (Kd.R_types r hh1 hE) (fun k hk => ⟨trivial, hk.2⟩)))⟩
/-- A function's blocks, done. -/
theorem up1_done {w W : World} {vT vF vB : Value} {t : List S78} {f : List S55} {gf cF i N1 : Nat} (hi : i < f.length) (hu : Up1 w vT vF t f gf cF i N1 f[i].f0 vB W) (hR : k58.R 58 W N1 (fun _ => True) vB f[i].f1) : TwF w vT vF t W ∧ Mix k55 55 w w.heap.size (fun _ => True) f gf cF (i + 1) (i + 1) W := by
  obtain ⟨cur, hh⟩ := hu.m.blk_
  have hE : ∀ q, q ∈ 58 :: k58.E → q ≠ 55 := by decide
  exact ⟨hu.F, (hu.m.mono (ok' := fun _ => True) (fun _ _ => trivial)).fill hi hu.at_ (k55_mkM _ _ _ f[i] (Kd.R_mono (Kd.R_types (Kd.R_lower hR hu.ge) hh hE) (fun k hk => ⟨trivial, hk.2⟩)))⟩

set_option maxHeartbeats 16000000 in
theorem twinP_calls (A0 B0 : Option Addr) (c0 d0 : Nat) (t : List S78) (f : List S55) (w : World) (ht : Kd.C k78 w A0 t.length t) (hf : Kd.C k55 w B0 f.length f) (ht20 : t.length ≤ 20) (hp : ∀ x ∈ t, x.f3.length ≤ 20) (hf10 : f.length ≤ 10)
    (hfb : ∀ x ∈ f, x.f1.length ≤ 20 ∧ ∀ b ∈ x.f1, b.f0.length ≤ 300 ∧ ∀ y ∈ b.f0, y.f5.length ≤ 20 ∧ y.f6.length ≤ 20) :
    Calls Tryd.prog 28 #[.agg #[.slice A0 t.length c0, .slice B0 f.length d0]] w (TwinPr t f w) := by
  have hu35 := Tryd.underlying35
  have hu55 := Tryd.underlying55
  have hu58 := Tryd.underlying58
  have hu26 := Tryd.underlying26
  have hu24 := Tryd.underlying24
  have HTT := Aside0.mk (fun (V : World) (hb : Below w.heap.size w V) => twinT_calls A0 c0 t V (Kd.C_below ht hb) ht20 hp)
  have HCF := Aside0.mk (fun (V : World) (hb : Below w.heap.size w V) => cloneF_calls B0 d0 f w V hb hf (by omega))
  have HFB := Aside0.mk hfb
  clear ht hf hp hfb
  go_enter Tryd.func28, Tryd.ntmps28
  go_upto_region 1 with fail
  have hpb := blk_alloc (blk_new w (.cells #[.slice A0 t.length c0, .slice B0 f.length d0] 35)) (.cells #[.slice none 0 0, .slice none 0 0] 35)
  have hqb := blk_new (w.alloc (.cells #[.slice A0 t.length c0, .slice B0 f.length d0] 35)) (.cells #[.slice none 0 0, .slice none 0 0] 35)
  rw [show (w.alloc (.cells #[.slice A0 t.length c0, .slice B0 f.length d0] 35)).heap.size = w.heap.size + 1 from by simp] at hqb
  have hbb := below_alloc (below_alloc (Below.refl w.heap.size w) (.cells #[.slice A0 t.length c0, .slice B0 f.length d0] 35)) (.cells #[.slice none 0 0, .slice none 0 0] 35)
  generalize (w.alloc (.cells #[.slice A0 t.length c0, .slice B0 f.length d0] 35)).alloc (.cells #[.slice none 0 0, .slice none 0 0] 35) = W0 at *
  have HPB := Aside0.mk hpb
  have HQB := Aside0.mk hqb
  have HBB := Aside0.mk hbb
  obtain ⟨p0, p1, f0, f1⟩ := blk2 hpb
  clear hpb hqb hbb
  go_cut [1] (fun s1 wx => s1 = .pointer (some ⟨w.heap.size, 0, none⟩) ∧ ∃ vT vF, Aside0 (TwF w vT vF t wx) ∧ Aside0 ((Kd.fixed k55 w).R 55 wx w.heap.size (fun _ => True) vF f))
  case first =>
    have HT1 := Aside0.mk (HTT.out W0.drew (Below.drew HBB.out))
    go_region_with (first | (go_at_call 52; (with_reducible refine HT1.out.mono ?_); rintro e w2 ⟨vT, rfl, hb2, hR2⟩; obtain ⟨AT, cT, rfl⟩ := Kd.R_slice hR2; have HR2 := Aside0.mk hR2; have HB2 := Aside0.mk hb2; have HW2 := Aside0.mk (below_then (Below.drew HBB.out) (by simpa using HBB.out.size) hb2); have z0 := hb2.cell (p := ⟨w.heap.size, 0, none⟩) (blk_lt HPB.out); have z1 := hb2.cell (p := ⟨w.heap.size, 1, none⟩) (blk_lt HPB.out); have z2 := hb2.frozen (p := ⟨w.heap.size, 0, none⟩) (blk_lt HPB.out); have z3 := hb2.frozen (p := ⟨w.heap.size, 1, none⟩) (blk_lt HPB.out); clear hR2 hb2) | (go_at_call 53; (with_reducible refine (HCF.out _ HW2.out).mono ?_); rintro e w3 ⟨vF, rfl, hR3, hb3⟩; have hs3 : ∃ A c, vF = .slice A f.length c := Kd.R_slice hR3; obtain ⟨AF, cF, rfl⟩ := hs3; have HR3 := Aside0.mk hR3; have HB3 := Aside0.mk hb3; have hbk := blk_below (blk_below (blk_drew HPB.out) HB2.out) hb3; obtain ⟨q0, q1, q2, q3⟩ := blk2 hbk; clear hR3 hb3 hbk z0 z1 z2 z3))
    all_goals
      go_wp2_with fail
      go_meet
      have hfin := tw_first HBB.out HPB.out HQB.out HB2.out HR2.out HB3.out HR3.out
      exact ⟨rfl, _, _, ⟨hfin.1⟩, ⟨hfin.2⟩⟩
  case rest =>
    obtain ⟨rfl, vT, vF, HF0, HR0⟩ := hcut
    clear HTT HCF HPB HQB HBB p0 p1 f0 f1
    have hmv := MixV.start HR0.out
    obtain ⟨AF, cF, rfl⟩ := hmv.slice_
    obtain ⟨AT, cT, rfl⟩ := Kd.R_slice HF0.out.rows
    have HM0 := Aside0.mk hmv
    clear hmv HR0
    obtain ⟨p0, p1, f0, f1⟩ := blk2 HF0.out.box
    go_wp2_with fail
    go_loopg [21] f.length (fun gg v21 Wr => ∃ i : Nat, i ≤ f.length ∧ f.length - i ≤ gg ∧ v21 = .int .i64 i ∧ Aside0 (TwF w (.slice AT t.length cT) (.slice AF f.length cF) t Wr) ∧ Aside0 (MixV k55 55 w w.heap.size (fun _ => True) f (.slice AF f.length cF) i i Wr))
    case atStart => exact ⟨0, Nat.zero_le _, by omega, rfl, HF0, HM0⟩
    case round =>
      obtain ⟨i, hi, hgi, rfl, HFi, HMi⟩ := hrel
      clear HF0 HM0 p0 p1 f0 f1
      obtain ⟨wi, rfl⟩ : ∃ wi : World, wi = wr := ⟨_, rfl⟩
      by_cases hlt : i < f.length
      · have hltz : (i : Int) < (f.length : Int) := by omega
        obtain ⟨gf, capf, heq, hmf⟩ := HMi.out.get hlt
        injection heq with hAF _ hcF
        subst hAF
        subst hcF
        obtain ⟨cs, hat, hK⟩ := hmf.at_ hlt (Nat.le_refl _)
        obtain ⟨A1, c1, hcs, hl1, hr1⟩ := k55_open hK
        have hx0 : wi.cell? ⟨gf, i * 2, none⟩ = some (.int .i64 f[i].f0) := hat.cell (q := 0) (show 0 < 2 by omega) (by rw [hcs]; rfl)
        have hx1 : wi.cell? ⟨gf, i * 2 + 1, none⟩ = some (.slice A1 f[i].f1.length c1) := hat.cell (q := 1) (show 1 < 2 by omega) (by rw [hcs]; rfl)
        have hfm := HFB.out f[i] (List.getElem_mem hlt)
        have HMF := Aside0.mk hmf
        have HAT := Aside0.mk hat
        have HCS := Aside0.mk hcs
        have HR1 := Aside0.mk hr1
        have HFM := Aside0.mk hfm
        clear hmf hat hK hcs hr1 hfm hl1 HMi
        go_upto_region 5 with fail
        have HCB := Aside0.mk (cloneB_calls A1 c1 f[i].f1 w (wi.alloc (.cells #[.int .i64 f[i].f0, .slice A1 f[i].f1.length c1] 55)).drew (Below.drew (below_alloc HFi.out.below _)) HR1.out (by have := HFM.out.1; omega))
        have HBX := Aside0.mk (blk_new wi (.cells #[.int .i64 f[i].f0, .slice A1 f[i].f1.length c1] 55))
        have hbox := blk_alloc HFi.out.box (.cells #[.int .i64 f[i].f0, .slice A1 f[i].f1.length c1] 55)
        obtain ⟨p0, p1, -⟩ := blk2 hbox
        obtain ⟨b0, b1, -⟩ := blk2 HBX.out
        have hat1 := HAT.out.below (Below.drew (below_alloc (Below.refl wi.heap.size wi) (.cells #[.int .i64 f[i].f0, .slice A1 f[i].f1.length c1] 55)))
        have HAT1 := Aside0.mk hat1
        clear hx0 hx1 hbox hat1
        go_cut [4] (fun s4 wx => s4 = .pointer (some ⟨wi.heap.size, 0, none⟩) ∧ ∃ vB, Aside0 (Up1 w (.slice AT t.length cT) (.slice (some ⟨gf, 0, none⟩) f.length cF) t f gf cF i wi.heap.size f[i].f0 vB wx) ∧ Aside0 (wx.heap[wi.heap.size]? = some (.cells #[.int .i64 f[i].f0, .slice A1 f[i].f1.length c1] 55 (0, 0))) ∧ Aside0 (MixV k58 58 w wi.heap.size (fun _ => True) f[i].f1 vB 0 0 wx))
        case first =>
          generalize hW1 : wi.alloc (.cells #[.int .i64 f[i].f0, .slice A1 f[i].f1.length c1] 55) = W1 at *
          have HW1 := Aside0.mk hW1
          clear hW1
          go_region_with (first | (go_at_call 54; (with_reducible refine HCB.out.mono ?_); rintro e w3 ⟨vB, rfl, hR3, hb3⟩; have hs3 : ∃ A c, vB = .slice A f[i].f1.length c := Kd.R_slice hR3; obtain ⟨AB, cB, rfl⟩ := hs3; have HR3 := Aside0.mk hR3; have HB3 := Aside0.mk hb3; have hat3 := HAT1.out.below hb3; have y1 : w3.cell? ⟨gf, i * 2 + 1, none⟩ = some (.slice A1 f[i].f1.length c1) := hat3.cell (q := 1) (show 1 < 2 by omega) (by rw [HCS.out]; rfl); have y2 := hat3.frozen (i * 2 + 1); have y3 := (hb3.cell (p := ⟨w.heap.size, 1, none⟩) (World.block_lt_of_cell? W1 _ p1)).trans p1; clear hR3 hb3 hat3))
          all_goals
            go_wp2_with fail
            go_meet
            have e1 := HW1.out
            subst e1
            have hfin := up1_start HFi.out HMF.out (HCS.out ▸ HAT.out) HB3.out HR3.out
            exact ⟨rfl, _, ⟨hfin.1⟩, ⟨hfin.2.1⟩, ⟨hfin.2.2⟩⟩
        case rest =>
          obtain ⟨rfl, vB, HU1, HBX2, HMV⟩ := hcut
          obtain ⟨AB, cB, rfl⟩ := HMV.out.slice_
          clear p0 p1 b0 b1 HCB HBX HAT HAT1 HMF HFi HCS
          obtain ⟨b0, b1, -⟩ := blk2 HBX2.out
          have hl20 : f[i].f1.length ≤ 20 := HFM.out.1
          go_wp2_with fail
          go_loopg [37] f[i].f1.length (fun gg v37 Wr => ∃ k : Nat, k ≤ f[i].f1.length ∧ f[i].f1.length - k ≤ gg ∧ v37 = .int .i64 k ∧ Aside0 (Up1 w (.slice AT t.length cT) (.slice (some ⟨gf, 0, none⟩) f.length cF) t f gf cF i wi.heap.size f[i].f0 (.slice AB f[i].f1.length cB) Wr) ∧ Aside0 (MixV k58 58 w wi.heap.size (fun _ => True) f[i].f1 (.slice AB f[i].f1.length cB) k k Wr))
          case atStart => exact ⟨0, Nat.zero_le _, by omega, rfl, HU1, HMV⟩
          case round =>
            obtain ⟨k, hk, hgk, rfl, HUk, HMk⟩ := hrel
            clear HU1 HMV HBX2 b0 b1
            obtain ⟨wk, rfl⟩ : ∃ wk : World, wk = wr := ⟨_, rfl⟩
            by_cases hltk : k < f[i].f1.length
            · have hltkz : (k : Int) < (f[i].f1.length : Int) := by omega
              obtain ⟨gb, capb, heqb, hmb⟩ := HMk.out.get hltk
              injection heqb with hAB _ hcB
              subst hAB
              subst hcB
              obtain ⟨cs, hat, hK⟩ := hmb.at_ hltk (Nat.le_refl _)
              obtain ⟨A0', c0', hcs, _, _⟩ := k58_open hK
              obtain ⟨ad, A2, c2, ead, hx0, hx1, hx2, hx3, hx4, ux0, ux1⟩ := at_T58 HR1.out (k : Int) (by omega) hltkz
              rw [rdT58_at hltk] at hx0 hx1 hx2 hx3 hx4 ux0 ux1
              cases ead
              simp only [Int.toNat_natCast] at hx0 hx1 hx2 hx3 hx4
              replace hx0 := pw_cell_below HUk.out.F.below hx0
              replace hx1 := pw_cell_below HUk.out.F.below hx1
              replace hx2 := pw_cell_below HUk.out.F.below hx2
              replace hx3 := pw_cell_below HUk.out.F.below hx3
              replace hx4 := pw_cell_below HUk.out.F.below hx4
              have hbm := HFM.out.2 f[i].f1[k] (List.getElem_mem hltk)
              have HBM := Aside0.mk hbm
              have HMB := Aside0.mk hmb
              have HATB := Aside0.mk (hcs ▸ hat)
              have HCX := Aside0.mk (fun (V : World) (hb : Below w.heap.size w V) => cloneX_calls A2 c2 f[i].f1[k].f0 w V hb ux1 (by have := hbm.1; omega))
              have HNk := Aside0.mk (show wi.heap.size ≤ wk.heap.size from by
                obtain ⟨cur, hh⟩ := hmb.blk_
                have := blk_lt hh
                have := hmb.hg
                omega)
              clear hmb hat hK hcs hbm ux0 ux1 HMk
              go_wp2_with fail
              refine (HCX.out _ (below_alloc HUk.out.F.below _)).mono ?_
              rintro e w3 ⟨vL, rfl, hR3, hb3⟩
              have hfin := up2_start HUk.out HMB.out HATB.out HNk.out hb3 hR3
              have HU2 := Aside0.mk hfin.1
              have HML := Aside0.mk hfin.2
              obtain ⟨AL, cL, rfl⟩ := hfin.2.slice_
              clear hfin hR3 hb3 HCX hx0 hx1 hx2 hx3 hx4 HATB HMB HUk
              have hl300 : f[i].f1[k].f0.length ≤ 300 := HBM.out.1
              go_wp2_with fail
              go_loopg [47] f[i].f1[k].f0.length (fun gg v47 Wr => ∃ n : Nat, n ≤ f[i].f1[k].f0.length ∧ f[i].f1[k].f0.length - n ≤ gg ∧ v47 = .int .i64 n ∧ Aside0 (Up2 w (.slice AT t.length cT) (.slice (some ⟨gf, 0, none⟩) f.length cF) t f gf cF i wi.heap.size f[i].f0 (.slice (some ⟨gb, 0, none⟩) f[i].f1.length cB) f[i].f1 gb cB k wk.heap.size [.slice A0' f[i].f1[k].f0.length c0', .int .u8 f[i].f1[k].f1.f0, .int .i64 f[i].f1[k].f1.f1, .int .i64 f[i].f1[k].f1.f2, .int .i64 f[i].f1[k].f1.f3] Wr) ∧ Aside0 (MixV k24 24 w wk.heap.size (fun _ => True) f[i].f1[k].f0 (.slice AL f[i].f1[k].f0.length cL) n n Wr))
              case atStart => exact ⟨0, Nat.zero_le _, by omega, rfl, HU2, HML⟩
              case round =>
                obtain ⟨n, hn, hgn, rfl, HUn, HMn⟩ := hrel
                clear HU2 HML
                by_cases hltn : n < f[i].f1[k].f0.length
                · have hltnz : (n : Int) < (f[i].f1[k].f0.length : Int) := by omega
                  obtain ⟨gl, capl, heql, hml⟩ := HMn.out.get hltn
                  injection heql with hAL _ hcL
                  subst hAL
                  subst hcL
                  obtain ⟨cs, hat, hK⟩ := hml.at_ hltn (Nat.le_refl _)
                  obtain ⟨A5, c5, A6, c6, hcs, l5, r5, l6, r6⟩ := k24_open hK
                  have hx0 : wr.cell? ⟨gl, n * 7, none⟩ = some (.int .u8 f[i].f1[k].f0[n].f0) := hat.cell (q := 0) (show 0 < 7 by omega) (by rw [hcs]; rfl)
                  have hx1 : wr.cell? ⟨gl, n * 7 + 1, none⟩ = some (.int .i64 f[i].f1[k].f0[n].f1) := hat.cell (q := 1) (show 1 < 7 by omega) (by rw [hcs]; rfl)
                  have hx2 : wr.cell? ⟨gl, n * 7 + 2, none⟩ = some (.int .i64 f[i].f1[k].f0[n].f2) := hat.cell (q := 2) (show 2 < 7 by omega) (by rw [hcs]; rfl)
                  have hx3 : wr.cell? ⟨gl, n * 7 + 3, none⟩ = some (.int .i64 f[i].f1[k].f0[n].f3) := hat.cell (q := 3) (show 3 < 7 by omega) (by rw [hcs]; rfl)
                  have hx4 : wr.cell? ⟨gl, n * 7 + 4, none⟩ = some (.int .i64 f[i].f1[k].f0[n].f4) := hat.cell (q := 4) (show 4 < 7 by omega) (by rw [hcs]; rfl)
                  have hx5 : wr.cell? ⟨gl, n * 7 + 5, none⟩ = some (.slice A5 f[i].f1[k].f0[n].f5.length c5) := hat.cell (q := 5) (show 5 < 7 by omega) (by rw [hcs]; rfl)
                  have hx6 : wr.cell? ⟨gl, n * 7 + 6, none⟩ = some (.slice A6 f[i].f1[k].f0[n].f6.length c6) := hat.cell (q := 6) (show 6 < 7 by omega) (by rw [hcs]; rfl)
                  have hxm := HBM.out.2 f[i].f1[k].f0[n] (List.getElem_mem hltn)
                  have HC5 := Aside0.mk (fun (V : World) (hb : Below w.heap.size w V) => cloneI_calls A5 c5 f[i].f1[k].f0[n].f5 w V hb r5 (by have := hxm.1; omega))
                  have HC6 := Aside0.mk (fun (V : World) (hb : Below w.heap.size w V) => cloneI_calls A6 c6 f[i].f1[k].f0[n].f6 w V hb r6 (by have := hxm.2; omega))
                  have HMl := Aside0.mk hml
                  have HATn := Aside0.mk (hcs ▸ hat)
                  have HNn := Aside0.mk (show wk.heap.size ≤ wr.heap.size from by
                    obtain ⟨cur, hh⟩ := hml.blk_
                    have := blk_lt hh
                    have := hml.hg
                    omega)
                  clear hml hat hK hcs l5 r5 l6 r6 hxm HMn
                  go_upto_region 13 with fail
                  have hbx := blk_new wr (.cells #[.int .u8 f[i].f1[k].f0[n].f0, .int .i64 f[i].f1[k].f0[n].f1, .int .i64 f[i].f1[k].f0[n].f2, .int .i64 f[i].f1[k].f0[n].f3, .int .i64 f[i].f1[k].f0[n].f4, .slice A5 f[i].f1[k].f0[n].f5.length c5, .slice A6 f[i].f1[k].f0[n].f6.length c6] 24)
                  have HC51 := Aside0.mk (HC5.out (wr.alloc (.cells #[.int .u8 f[i].f1[k].f0[n].f0, .int .i64 f[i].f1[k].f0[n].f1, .int .i64 f[i].f1[k].f0[n].f2, .int .i64 f[i].f1[k].f0[n].f3, .int .i64 f[i].f1[k].f0[n].f4, .slice A5 f[i].f1[k].f0[n].f5.length c5, .slice A6 f[i].f1[k].f0[n].f6.length c6] 24)).drew (Below.drew (below_alloc HUn.out.u.F.below _)))
                  have HAT2 := Aside0.mk (HATn.out.below (Below.drew (below_alloc (Below.refl wr.heap.size wr) (.cells #[.int .u8 f[i].f1[k].f0[n].f0, .int .i64 f[i].f1[k].f0[n].f1, .int .i64 f[i].f1[k].f0[n].f2, .int .i64 f[i].f1[k].f0[n].f3, .int .i64 f[i].f1[k].f0[n].f4, .slice A5 f[i].f1[k].f0[n].f5.length c5, .slice A6 f[i].f1[k].f0[n].f6.length c6] 24))))
                  have HBL := Aside0.mk (Below.drew (below_alloc HUn.out.u.F.below (.cells #[.int .u8 f[i].f1[k].f0[n].f0, .int .i64 f[i].f1[k].f0[n].f1, .int .i64 f[i].f1[k].f0[n].f2, .int .i64 f[i].f1[k].f0[n].f3, .int .i64 f[i].f1[k].f0[n].f4, .slice A5 f[i].f1[k].f0[n].f5.length c5, .slice A6 f[i].f1[k].f0[n].f6.length c6] 24)))
                  have HBX := Aside0.mk hbx
                  obtain ⟨z0, z1, z2, z3, z4, z5, z6, -⟩ := blk7 hbx
                  clear hx0 hx1 hx2 hx3 hx4 hx5 hx6 hbx HC5
                  generalize hW1 : wr.alloc (.cells #[.int .u8 f[i].f1[k].f0[n].f0, .int .i64 f[i].f1[k].f0[n].f1, .int .i64 f[i].f1[k].f0[n].f2, .int .i64 f[i].f1[k].f0[n].f3, .int .i64 f[i].f1[k].f0[n].f4, .slice A5 f[i].f1[k].f0[n].f5.length c5, .slice A6 f[i].f1[k].f0[n].f6.length c6] 24) = W1 at *
                  have HW1 := Aside0.mk hW1
                  clear hW1
                  go_region_with (first | (go_at_call 56; (with_reducible refine HC51.out.mono ?_); rintro e w3 ⟨v5, rfl, hR3, hb3⟩; have hs3 : ∃ A c, v5 = .slice A f[i].f1[k].f0[n].f5.length c := Kd.R_slice hR3; obtain ⟨A5v, c5v, rfl⟩ := hs3; have HR3 := Aside0.mk hR3; have HB3 := Aside0.mk hb3; have HW3 := Aside0.mk (below_then HBL.out HBL.out.size hb3); have HAT3 := Aside0.mk (HAT2.out.below hb3); have y6 := (hb3.cell (p := ⟨wr.heap.size, 6, none⟩) (World.block_lt_of_cell? W1 _ z6)).trans z6; clear hR3 hb3) | (go_at_call 56; (with_reducible refine (HC6.out _ HW3.out).mono ?_); rintro e w4 ⟨v6, rfl, hR4, hb4⟩; have hs4 : ∃ A c, v6 = .slice A f[i].f1[k].f0[n].f6.length c := Kd.R_slice hR4; obtain ⟨A6v, c6v, rfl⟩ := hs4; have HR4 := Aside0.mk hR4; have HB4 := Aside0.mk hb4; have hat4 := HAT3.out.below hb4; have u5 : w4.cell? ⟨gl, n * 7 + 5, none⟩ = some (.slice A5 f[i].f1[k].f0[n].f5.length c5) := hat4.cell (q := 5) (show 5 < 7 by omega) rfl; have u6 : w4.cell? ⟨gl, n * 7 + 6, none⟩ = some (.slice A6 f[i].f1[k].f0[n].f6.length c6) := hat4.cell (q := 6) (show 6 < 7 by omega) rfl; have e5 := hat4.frozen (n * 7 + 5); have e6 := hat4.frozen (n * 7 + 6); clear hR4 hb4 hat4 y6))
                  all_goals
                    have e1 := HW1.out
                    subst e1
                    have hfin := up2_ins HUn.out HMl.out hltn HATn.out HNn.out HB3.out HR3.out HB4.out HR4.out
                    have HU3 := Aside0.mk hfin.1
                    have HM3 := Aside0.mk hfin.2
                    clear hfin z0 z1 z2 z3 z4 z5 z6 HC6 HC51 HAT2 HBL HBX HATn HMl HNn HUn HW1 HR3 HR4 HB3 HB4 HW3 HAT3
                    go_wp2_with fail
                    go_roundg (f[i].f1[k].f0.length - (n + 1))
                    case measure => omega
                    case rel => exact ⟨n + 1, by omega, by omega, by go_num, HU3, ⟨.inr ⟨gl, cL, rfl, HM3.out⟩⟩⟩
                · have hltnz : ¬ (n : Int) < (f[i].f1[k].f0.length : Int) := by omega
                  have hfin := up2_done hltk HUn.out (HMn.out.done (Nat.le_of_not_lt hltn))
                  have HF1 := Aside0.mk hfin.1
                  have HF2 := Aside0.mk hfin.2
                  obtain ⟨p0, p1, -⟩ := blk2 HUn.out.u.F.box
                  have y1 := HUn.out.u.at_.cell (q := 1) (by omega) rfl
                  have y2 : wr.cell? ⟨gb, k * 5, none⟩ = some (.slice A0' f[i].f1[k].f0.length c0') := HUn.out.at_.cell (q := 0) (show 0 < 5 by omega) rfl
                  have y3 := HUn.out.at_.frozen (k * 5)
                  clear hfin
                  go_wp2_with fail
                  go_roundg (f[i].f1.length - (k + 1))
                  case measure => omega
                  case rel => exact ⟨k + 1, by omega, by omega, by go_num, HF1, ⟨.inr ⟨gb, cB, rfl, HF2.out⟩⟩⟩
            · have hltkz : ¬ (k : Int) < (f[i].f1.length : Int) := by omega
              have hfin := up1_done hlt HUk.out (HMk.out.done (show f[i].f1.length ≤ k by omega))
              have HFF := Aside0.mk hfin.1
              have HMM := Aside0.mk hfin.2
              clear hfin
              go_wp2_with fail
              go_roundg (f.length - (i + 1))
              case measure => omega
              case rel => exact ⟨i + 1, by omega, by omega, by go_num, HFF, ⟨.inr ⟨gf, cF, rfl, HMM.out⟩⟩⟩
      · have hltz : ¬ (i : Int) < (f.length : Int) := by omega
        obtain ⟨p0, p1, -⟩ := blk2 HFi.out.box
        obtain ⟨o0, o1, g0, g1⟩ := blk2 HFi.out.out
        have HE := Aside0.mk (show f.length ≤ i by omega)
        go_wp2_with fail
        have hfin := HFi.out
        refine bodyPost_ret (results_cell_row rfl _ _ (w.heap.size + 1) 35 #[.slice AT t.length cT, .slice AF f.length cF] (0, 0) _ rfl (blk_put (blk_put hfin.out 0 _ rfl) 1 _ rfl) Tryd.underlying35 rfl (by kernel_rfl)) rfl ?_
        have hne : ∀ q, q ∈ 78 :: k78.E → q ≠ 35 := by decide
        have hne' : ∀ q, q ∈ 55 :: k55.E → q ≠ 35 := by decide
        have hr := HMi.out.done HE.out
        have ho := blk_put hfin.out 0 (.slice AT t.length cT) rfl
        exact ⟨_, _, rfl, (hfin.below.setCell (p := ⟨w.heap.size + 1, 0, none⟩) (by show w.heap.size ≤ w.heap.size + 1; omega) _).setCell (p := ⟨w.heap.size + 1, 1, none⟩) (by show w.heap.size ≤ w.heap.size + 1; omega) _, Kd.R_set (Kd.R_set hfin.rows hfin.out hne 0 _) ho hne 1 _, Kd.R_set (Kd.R_set hr hfin.out hne' 0 _) ho hne' 1 _⟩
end Go.Proofs.YtfjmpfecnemoiaaDoor.Q
