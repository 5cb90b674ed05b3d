/-
  The walk of the law ShapeAsks.
-/
import Derived.Test.YtfjmpfecnemoiaaDoorQAskR
import Derived.Test.YtfjmpfecnemoiaaDoorQSh
import Derived.Test.YtfjmpfecnemoiaaDoorQSameR
import Derived.Test.YtfjmpfecnemoiaaDoorQTwR
namespace Go.Proofs.YtfjmpfecnemoiaaDoor.Q
open Go.RowKit Go.Proofs.YtfjmpfecnemoiaaDoorW.PrintWords Go.Proofs.YtfjmpfecnemoiaaDoorW.PrintLast Go.Proofs.YtfjmpfecnemoiaaDoorW.PrintMore
set_option linter.unusedVariables false
set_option linter.unusedSimpArgs false
set_option maxRecDepth 100000

/-! ### plain -/
theorem askV_no {t : List S78} {fs : List S55} {i : Int} (h : ¬ (chkP t fs = 0 ∧ 0 ≤ i ∧ i < fs.length)) : askV t fs i ≠ 0 ∧ (if chkP t fs = 0 then 2 else chkP t fs) = askV t fs i := by
  unfold askV
  by_cases h0 : chkP t fs = 0
  · rw [if_pos h0, if_pos h0, if_neg (fun hi => h ⟨h0, hi⟩)]
    exact ⟨by decide, rfl⟩
  · rw [if_neg h0, if_neg h0]
    exact ⟨h0, rfl⟩
section
variable {t : List S78} {fs : List S55} (hS : SaneP fs) (hM : SmallP t fs)
include hS hM
theorem regsP_no' (i : Int) (h : ¬ (chkP t fs = 0 ∧ 0 ≤ i ∧ i < fs.length)) (k : Nat) (hk : 24 ≤ k) : shape_Regs.f k t fs i = some (0, askV t fs i) := by
  rw [regsP_no t fs hS hM.few i h k hk, (askV_no h).2]
theorem placeP_no' (i r : Int) (h : ¬ (chkP t fs = 0 ∧ 0 ≤ i ∧ i < fs.length)) (k : Nat) (hk : 24 ≤ k) : shape_Place.f k t fs i r = some (0, 0, askV t fs i) := by
  unfold shape_Place.f
  rw [askedP_no t fs hS hM.few i h k hk, Option.bind_some, (askV_no h).2]
  dsimp only
  rw [if_neg (askV_no h).1]
theorem regP_no' (i b a : Int) (h : ¬ (chkP t fs = 0 ∧ 0 ≤ i ∧ i < fs.length)) (k : Nat) (hk : 24 ≤ k) : shape_Reg.f k t fs i b a = some (0, askV t fs i) := by
  unfold shape_Reg.f
  rw [askedP_no t fs hS hM.few i h k hk, Option.bind_some, (askV_no h).2]
  dsimp only
  rw [if_neg (askV_no h).1]
theorem regP_bad (h0 : chkP t fs = 0) (i : Nat) (hi : i < fs.length) (b a : Int) (hba : ¬ (0 ≤ b ∧ b < fs[i].f1.length) ∨ ∃ (n : Nat) (hn : n < fs[i].f1.length), b = n ∧ ¬ (0 ≤ a ∧ a < (fs[i].f1[n]'hn).f0.length)) (k : Nat) (hk : 24 ≤ k) : shape_Reg.f k t fs (i : Int) b a = some (0, 2) := by
  have i0 : (0 : Int) ≤ (i : Int) := by omega
  have i1 : (i : Int) < (fs.length : Int) := by omega
  unfold shape_Reg.f
  rw [askedP_yes t fs hS hM.few h0 i hi k hk, Option.bind_some]
  dsimp only
  rw [if_pos rfl, if_pos i0, if_pos i1, below_some, Option.bind_some, rdT55_is hi]
  rcases hba with hb | ⟨n, hn, rfl, ha⟩
  · rw [if_neg]
    rw [Bool.and_eq_true, decide_eq_true_eq, decide_eq_true_eq]
    exact hb
  · have b0 : (0 : Int) ≤ (n : Int) := by omega
    have b1 : (n : Int) < (fs[i].f1.length : Int) := by omega
    rw [decide_eq_true b0, decide_eq_true b1, Bool.and_self, if_pos rfl, if_pos b0, if_pos b1, below_some, Option.bind_some, rdT58_at hn, if_neg]
    rw [Bool.and_eq_true, decide_eq_true_eq, decide_eq_true_eq]
    exact ha
end
theorem where_one {L : List S58} {par : Nat} {r x y : Int} {b a : Nat} (hw : WhereOk L par r x y) (hb : b < L.length) (ha : a < (L[b]'hb).f0.length) (h : ((par + cnt (L.take b) + a : Nat) : Int) = r) : x = b ∧ y = a := by
  rcases hw with ⟨b2, a2, rfl, rfl, hb2, ha2, h2⟩ | ⟨_, _, hn⟩
  · have s1 := cnt_take_succ L b hb
    have s2 := cnt_take_succ L b2 hb2
    rcases Nat.lt_trichotomy b2 b with hlt | rfl | hgt
    · have := cnt_mono L (show b2 + 1 ≤ b by omega) (by omega)
      omega
    · exact ⟨rfl, by omega⟩
    · have := cnt_mono L (show b + 1 ≤ b2 by omega) (by omega)
      omega
  · exact absurd h (hn b hb a ha)
theorem where_none {L : List S58} {par : Nat} {r x y : Int} (hw : WhereOk L par r x y) (h : r < par) : x = -1 ∧ y = r := by
  rcases hw with ⟨b2, a2, rfl, rfl, hb2, ha2, h2⟩ | ⟨hx, hy, hn⟩
  · omega
  · exact ⟨hx, hy⟩

/-! ### the walk -/
/-- What stays, while the law asks: the boxes of the program and of its copy. -/
structure Ask (w wo : World) (o4 o9 : Obj) (W : World) : Prop where
  b : Below w.heap.size w W
  bo : Below wo.heap.size wo W
  p4 : W.heap[w.heap.size]? = some o4
  p9 : W.heap[wo.heap.size]? = some o9
theorem Ask.step {w wo W W1 : World} {o4 o9 : Obj} (h : Ask w wo o4 o9 W) (hb : Below W.heap.size W W1) : Ask w wo o4 o9 W1 :=
  ⟨below_then h.b h.b.size hb, below_then h.bo h.bo.size hb, blk_below h.p4 hb, blk_below h.p9 hb⟩
/-- What both answer: registers, a place, a register. -/
structure Both (A0 B0 A1 B1 : Option Addr) (c0 d0 c1 d1 : Nat) (t : List S78) (f : List S55) (i r at_ : Int) (x e a b g n j : Int) (w wo : World) : Prop where
  h17 : ∀ V, Below wo.heap.size wo V → Below w.heap.size w V → Calls Tryd.prog 17 #[.agg #[.slice A1 t.length c1, .slice B1 f.length d1], .int .i64 i] V fun q w' => q = .returned (.tuple #[.int .i64 x, .int .i64 e]) ∧ Below V.heap.size V w'
  h18 : ∀ V, Below w.heap.size w V → Calls Tryd.prog 18 #[.agg #[.slice A0 t.length c0, .slice B0 f.length d0], .int .i64 i] V fun q w' => q = .returned (.tuple #[.int .i64 x, .int .i64 e]) ∧ Below V.heap.size V w'
  h19 : ∀ V, Below wo.heap.size wo V → Below w.heap.size w V → Calls Tryd.prog 19 #[.agg #[.slice A1 t.length c1, .slice B1 f.length d1], .int .i64 i, .int .i64 r] V fun q w' => q = .returned (.tuple #[.int .i64 a, .int .i64 b, .int .i64 g]) ∧ Below V.heap.size V w'
  h20 : ∀ V, Below w.heap.size w V → Calls Tryd.prog 20 #[.agg #[.slice A0 t.length c0, .slice B0 f.length d0], .int .i64 i, .int .i64 r] V fun q w' => q = .returned (.tuple #[.int .i64 a, .int .i64 b, .int .i64 g]) ∧ Below V.heap.size V w'
  h21 : ∀ V, Below wo.heap.size wo V → Below w.heap.size w V → Calls Tryd.prog 21 #[.agg #[.slice A1 t.length c1, .slice B1 f.length d1], .int .i64 i, .int .i64 r, .int .i64 at_] V fun q w' => q = .returned (.tuple #[.int .i64 n, .int .i64 j]) ∧ Below V.heap.size V w'
  h22 : ∀ V, Below w.heap.size w V → Calls Tryd.prog 22 #[.agg #[.slice A0 t.length c0, .slice B0 f.length d0], .int .i64 i, .int .i64 r, .int .i64 at_] V fun q w' => q = .returned (.tuple #[.int .i64 n, .int .i64 j]) ∧ Below V.heap.size V w'
section
variable (A0 B0 A1 B1 : Option Addr) (c0 d0 c1 d1 : Nat) (t : List S78) (f : List S55) (w wo : World)
theorem both_some (i r at_ : Int) (hT : Tab w) (ht : Kd.C k78 w A0 t.length t) (hct : t.length ≤ c0) (hf : Kd.C k55 w B0 f.length f) (hcf : f.length ≤ d0) (ht' : Kd.C k78 wo A1 t.length t) (hct' : t.length ≤ c1) (hf' : Kd.C k55 wo B1 f.length f) (hcf' : f.length ≤ d1) (hM : SmallP t f) (hS : SaneP f) :
    ∃ x e a b g n j, Both A0 B0 A1 B1 c0 d0 c1 d1 t f i r at_ x e a b g n j w wo := by
  by_cases h : chkP t f = 0 ∧ 0 ≤ i ∧ i < f.length
  · obtain ⟨h0, hi0, hi1⟩ := h
    obtain ⟨m, rfl⟩ := Int.eq_ofNat_of_zero_le hi0
    have hi : m < f.length := by omega
    have hs := chkP_sig h0 hi
    have hpl : ∃ a b g : Int, (∀ V, Below wo.heap.size wo V → Below w.heap.size w V → Calls Tryd.prog 19 #[.agg #[.slice A1 t.length c1, .slice B1 f.length d1], .int .i64 (m : Int), .int .i64 r] V fun q w' => q = .returned (.tuple #[.int .i64 a, .int .i64 b, .int .i64 g]) ∧ Below V.heap.size V w') ∧
        ∀ V, Below w.heap.size w V → Calls Tryd.prog 20 #[.agg #[.slice A0 t.length c0, .slice B0 f.length d0], .int .i64 (m : Int), .int .i64 r] V fun q w' => q = .returned (.tuple #[.int .i64 a, .int .i64 b, .int .i64 g]) ∧ Below V.heap.size V w' := by
      by_cases hr : 0 ≤ r ∧ r < regN t f[m]
      · have hin := fun (V : World) (b : Below w.heap.size w V) => placeR_in A0 B0 c0 d0 t f V m hi h0 hs r hr (Kd.C_below ht b) hct (Kd.C_below hf b) hcf hM hS
        obtain ⟨q, rfl⟩ := Int.eq_ofNat_of_zero_le hr.1
        have hr1 : q < regN t f[m] := by omega
        by_cases hq : q < parN t f[m]
        · refine ⟨-1, q, 0, fun V bo b => shape_Place.calls 24 A1 c1 t B1 d1 f m q (-1) q 0 V (Kd.C_below ht' bo) hct' (Kd.C_below hf' bo) hcf' (Tab_below hT b) (placeP_par hS hM h0 m hi q hq 24 (Nat.le_refl _)), fun V b => (hin V b).mono ?_⟩
          rintro e w' ⟨x, y, rfl, hw, hb⟩
          obtain ⟨rfl, rfl⟩ := where_none hw (by omega)
          exact ⟨rfl, hb⟩
        · obtain ⟨b', a', hp, hb', ha', hc'⟩ := placeP_at hS hM h0 m hi q (by omega) hr1 24 (Nat.le_refl _)
          refine ⟨b', a', 0, fun V bo b => shape_Place.calls 24 A1 c1 t B1 d1 f m q b' a' 0 V (Kd.C_below ht' bo) hct' (Kd.C_below hf' bo) hcf' (Tab_below hT b) hp, fun V b => (hin V b).mono ?_⟩
          rintro e w' ⟨x, y, rfl, hw, hb⟩
          obtain ⟨rfl, rfl⟩ := where_one hw hb' ha' (by omega)
          exact ⟨rfl, hb⟩
      · exact ⟨0, 0, 2, fun V bo b => shape_Place.calls 24 A1 c1 t B1 d1 f m r 0 0 2 V (Kd.C_below ht' bo) hct' (Kd.C_below hf' bo) hcf' (Tab_below hT b) (placeP_far hS hM h0 m hi r hr 24 (Nat.le_refl _)), fun V b => placeR_far A0 B0 c0 d0 t f V m hi h0 hs r hr (Kd.C_below ht b) hct (Kd.C_below hf b) hcf hM hS⟩
    have hrg : ∃ n j : Int, (∀ V, Below wo.heap.size wo V → Below w.heap.size w V → Calls Tryd.prog 21 #[.agg #[.slice A1 t.length c1, .slice B1 f.length d1], .int .i64 (m : Int), .int .i64 r, .int .i64 at_] V fun q w' => q = .returned (.tuple #[.int .i64 n, .int .i64 j]) ∧ Below V.heap.size V w') ∧
        ∀ V, Below w.heap.size w V → Calls Tryd.prog 22 #[.agg #[.slice A0 t.length c0, .slice B0 f.length d0], .int .i64 (m : Int), .int .i64 r, .int .i64 at_] V fun q w' => q = .returned (.tuple #[.int .i64 n, .int .i64 j]) ∧ Below V.heap.size V w' := by
      have hbad := fun (hba : ¬ (0 ≤ r ∧ r < f[m].f1.length) ∨ ∃ (n : Nat) (hn : n < f[m].f1.length), r = n ∧ ¬ (0 ≤ at_ ∧ at_ < (f[m].f1[n]'hn).f0.length)) =>
        (⟨0, 2, fun V bo b => shape_Reg.calls 24 A1 c1 t B1 d1 f m r at_ 0 2 V (Kd.C_below ht' bo) hct' (Kd.C_below hf' bo) hcf' (Tab_below hT b) (regP_bad hS hM h0 m hi r at_ hba 24 (Nat.le_refl _)), fun V b => regR_bad A0 B0 c0 d0 t f V m hi h0 r at_ hba (Kd.C_below ht b) hct (Kd.C_below hf b) hcf hM hS⟩ : ∃ n j : Int, (∀ V, Below wo.heap.size wo V → Below w.heap.size w V → Calls Tryd.prog 21 #[.agg #[.slice A1 t.length c1, .slice B1 f.length d1], .int .i64 (m : Int), .int .i64 r, .int .i64 at_] V fun q w' => q = .returned (.tuple #[.int .i64 n, .int .i64 j]) ∧ Below V.heap.size V w') ∧
        ∀ V, Below w.heap.size w V → Calls Tryd.prog 22 #[.agg #[.slice A0 t.length c0, .slice B0 f.length d0], .int .i64 (m : Int), .int .i64 r, .int .i64 at_] V fun q w' => q = .returned (.tuple #[.int .i64 n, .int .i64 j]) ∧ Below V.heap.size V w')
      by_cases hb : 0 ≤ r ∧ r < f[m].f1.length
      · obtain ⟨n, rfl⟩ := Int.eq_ofNat_of_zero_le hb.1
        have hn : n < f[m].f1.length := by omega
        by_cases ha : 0 ≤ at_ ∧ at_ < (f[m].f1[n]'hn).f0.length
        · obtain ⟨a, rfl⟩ := Int.eq_ofNat_of_zero_le ha.1
          have ha' : a < (f[m].f1[n]'hn).f0.length := by omega
          exact ⟨_, 0, fun V bo b => shape_Reg.calls 24 A1 c1 t B1 d1 f m n a _ 0 V (Kd.C_below ht' bo) hct' (Kd.C_below hf' bo) hcf' (Tab_below hT b) (regP_at hS hM h0 m hi n a hn ha' 24 (Nat.le_refl _)), fun V b => regR_at A0 B0 c0 d0 t f V m hi h0 hs n a hn ha' (Kd.C_below ht b) hct (Kd.C_below hf b) hcf hM hS⟩
        · exact hbad (.inr ⟨n, hn, rfl, ha⟩)
      · exact hbad (.inl hb)
    obtain ⟨a, b, g, h19, h20⟩ := hpl
    obtain ⟨n, j, h21, h22⟩ := hrg
    exact ⟨_, 0, a, b, g, n, j, ⟨fun V bo b => shape_Regs.calls 24 A1 c1 t B1 d1 f m _ 0 V (Kd.C_below ht' bo) hct' (Kd.C_below hf' bo) hcf' (Tab_below hT b) (regsP_yes hS hM h0 m hi 24 (Nat.le_refl _)), fun V b => regsR_yes A0 B0 c0 d0 t f V m hi h0 hs (Kd.C_below ht b) hct (Kd.C_below hf b) hcf hM hS, h19, h20, h21, h22⟩⟩
  · have he := (askV_no h).1
    exact ⟨0, askV t f i, 0, 0, askV t f i, 0, askV t f i, ⟨fun V bo b => shape_Regs.calls 24 A1 c1 t B1 d1 f i 0 _ V (Kd.C_below ht' bo) hct' (Kd.C_below hf' bo) hcf' (Tab_below hT b) (regsP_no' hS hM i h 24 (Nat.le_refl _)), fun V b => regsR_no A0 B0 c0 d0 t f V i he (Kd.C_below ht b) hct (Kd.C_below hf b) hcf hM hS,
      fun V bo b => shape_Place.calls 24 A1 c1 t B1 d1 f i r 0 0 _ V (Kd.C_below ht' bo) hct' (Kd.C_below hf' bo) hcf' (Tab_below hT b) (placeP_no' hS hM i r h 24 (Nat.le_refl _)), fun V b => placeR_no A0 B0 c0 d0 t f V i r he (Kd.C_below ht b) hct (Kd.C_below hf b) hcf hM hS,
      fun V bo b => shape_Reg.calls 24 A1 c1 t B1 d1 f i r at_ 0 _ V (Kd.C_below ht' bo) hct' (Kd.C_below hf' bo) hcf' (Tab_below hT b) (regP_no' hS hM i r at_ h 24 (Nat.le_refl _)), fun V b => regR_no A0 B0 c0 d0 t f V i r at_ he (Kd.C_below ht b) hct (Kd.C_below hf b) hcf hM hS⟩⟩
end

set_option maxHeartbeats 16000000 in
theorem asks_walk (A0 B0 : Option Addr) (c0 d0 : Nat) (t : List S78) (f : List S55) (w : World) (i r at_ : Int) (hT : Tab w) (ht : Kd.C k78 w A0 t.length t) (hct : t.length ≤ c0) (hf : Kd.C k55 w B0 f.length f) (hcf : f.length ≤ d0) (hS : SaneP f) :
    Calls Tryd.prog 4 #[.agg #[.slice A0 t.length c0, .slice B0 f.length d0], .int .i64 i, .int .i64 r, .int .i64 at_] w fun e w' => e = .returned (.bool true) ∧ Below w.heap.size w w' := by
  have hu35 := Tryd.underlying35
  obtain ⟨K1, gb, hK1, hgb⟩ := greatP_some t f hS
  have hg := hK1 K1 (Nat.le_refl _)
  have HG := Aside0.mk (fun (V : World) (hb : Below w.heap.size w V) => fescueref06_Great.calls K1 A0 c0 t B0 d0 f 300 gb V (Kd.C_below ht hb) hct (Kd.C_below hf hb) hcf hg)
  have HP := Aside0.mk (blk_new w (.cells #[.slice A0 t.length c0, .slice B0 f.length d0] 35))
  have HB := Aside0.mk (below_alloc (Below.refl w.heap.size w) (.cells #[.slice A0 t.length c0, .slice B0 f.length d0] 35))
  cases gb
  · have hM := hgb rfl
    have HTW := Aside0.mk (fun (V : World) (hb : Below w.heap.size w V) => fescueref06_Twin.calls 6320 A0 c0 t B0 d0 f t f V (Kd.C_below ht hb) hct (Kd.C_below hf hb) hcf (twinP_some t f hM 6320 (Nat.le_refl _)))
    have HBO := Aside0.mk (fun (A1 B1 : Option Addr) (c1 d1 : Nat) (wo : World) (h1 : Kd.C k78 wo A1 t.length t) (h2 : t.length ≤ c1) (h3 : Kd.C k55 wo B1 f.length f) (h4 : f.length ≤ d1) => both_some A0 B0 A1 B1 c0 d0 c1 d1 t f w wo i r at_ hT ht hct hf hcf h1 h2 h3 h4 hM hS)
    have h8 := fun (A1 B1 : Option Addr) (c1 d1 : Nat) (wo : World) (h1 : Kd.C k78 wo A1 t.length t) (h2 : t.length ≤ c1) (h3 : Kd.C k55 wo B1 f.length f) (h4 : f.length ≤ d1) (V : World) (b : Below w.heap.size w V) (bo : Below wo.heap.size wo V) => sameR_calls A1 B1 A0 B0 c1 d1 c0 d0 t t f f V hM.few (Kd.C_below h1 bo) h2 (Kd.C_below h3 bo) h4 (Kd.C_below ht b) hct (Kd.C_below hf b) hcf
    rw [sameP_self] at h8
    have H8 := Aside0.mk h8
    clear h8 ht hct hf hcf hT hM hS hg hK1 hgb
    go_enter Tryd.func4, Tryd.ntmps4
    go_wp2_with fail
    refine (HG.out _ HB.out).mono ?_
    rintro e w1 ⟨rfl, hb⟩
    have KB1 := Aside0.mk (below_then HB.out HB.out.size hb)
    have KP1 := Aside0.mk (blk_below HP.out hb)
    obtain ⟨z0, z1, -⟩ := blk2 KP1.out
    clear hb HG HB HP
    go_wp2_with fail
    refine (HTW.out _ KB1.out).mono ?_
    rintro e wo ⟨v0, v1, rfl, hSo, hRo, hb⟩
    obtain ⟨A1, c1, rfl, hc1, hC1⟩ := Kd.S_reads hSo
    obtain ⟨B1, d1, rfl, hd1, hD1⟩ := Kd.R_reads hRo
    obtain ⟨x, e, a, b, g, n, j, hbo⟩ := HBO.out A1 B1 c1 d1 wo hC1 hc1 hD1 hd1
    have HH := Aside0.mk hbo
    have H8' := Aside0.mk (H8.out A1 B1 c1 d1 wo hC1 hc1 hD1 hd1)
    have KB2 := below_then KB1.out KB1.out.size hb
    have K0 := Aside0.mk (show Ask w wo (.cells #[.slice A0 t.length c0, .slice B0 f.length d0] 35) (.cells #[.slice A1 t.length c1, .slice B1 f.length d1] 35) (wo.alloc (.cells #[.slice A1 t.length c1, .slice B1 f.length d1] 35)) from ⟨below_alloc KB2 _, below_alloc (Below.refl _ _) _, blk_alloc (blk_below KP1.out hb) _, blk_new wo _⟩)
    clear hb hSo hRo hC1 hD1 hbo KB2 HBO H8 KB1 KP1 z0 z1 HTW hc1 hd1
    obtain ⟨z0, z1, -⟩ := blk2 K0.out.p4
    obtain ⟨z2, z3, -⟩ := blk2 K0.out.p9
    go_wp2_with fail
    refine (HH.out.h17 _ K0.out.bo K0.out.b).mono ?_
    rintro q u1 ⟨rfl, hb⟩
    have K1 := Aside0.mk (K0.out.step hb)
    clear hb z0 z1 z2 z3 K0
    obtain ⟨z0, z1, -⟩ := blk2 K1.out.p4
    go_wp2_with fail
    refine (HH.out.h18 _ K1.out.b).mono ?_
    rintro q u2 ⟨rfl, hb⟩
    have K2 := Aside0.mk (K1.out.step hb)
    clear hb z0 z1 K1
    obtain ⟨z2, z3, -⟩ := blk2 K2.out.p9
    go_wp2_with fail
    refine (HH.out.h19 _ K2.out.bo K2.out.b).mono ?_
    rintro q u3 ⟨rfl, hb⟩
    have K3 := Aside0.mk (K2.out.step hb)
    clear hb z2 z3 K2
    obtain ⟨z0, z1, -⟩ := blk2 K3.out.p4
    go_wp2_with fail
    refine (HH.out.h20 _ K3.out.b).mono ?_
    rintro q u4 ⟨rfl, hb⟩
    have K4 := Aside0.mk (K3.out.step hb)
    clear hb z0 z1 K3
    obtain ⟨z2, z3, -⟩ := blk2 K4.out.p9
    go_wp2_with fail
    refine (HH.out.h21 _ K4.out.bo K4.out.b).mono ?_
    rintro q u5 ⟨rfl, hb⟩
    have K5 := Aside0.mk (K4.out.step hb)
    clear hb z2 z3 K4
    obtain ⟨z0, z1, -⟩ := blk2 K5.out.p4
    go_wp2_with fail
    refine (HH.out.h22 _ K5.out.b).mono ?_
    rintro q u6 ⟨rfl, hb⟩
    have K6 := Aside0.mk (K5.out.step hb)
    clear hb z0 z1 K5
    obtain ⟨z0, z1, -⟩ := blk2 K6.out.p4
    obtain ⟨z2, z3, -⟩ := blk2 K6.out.p9
    go_wp2_with fail
    refine (H8'.out _ K6.out.b K6.out.bo).mono ?_
    rintro q u7 ⟨rfl, hb⟩
    have KB7 := Aside0.mk (K6.out.step hb).b
    clear hb z0 z1 z2 z3 K6
    go_wp2_with fail
    go_ret
    exact ⟨rfl, KB7.out⟩
  · clear ht hct hf hcf hT hS hg hK1 hgb
    go_enter Tryd.func4, Tryd.ntmps4
    go_wp2_with fail
    refine (HG.out _ HB.out).mono ?_
    rintro e w1 ⟨rfl, hb⟩
    have KB1 := Aside0.mk (below_then HB.out HB.out.size hb)
    clear hb HG HB HP
    go_wp2_with fail
    go_ret
    exact ⟨rfl, KB1.out⟩
def fescuelaw06_ShapeAsks.f (_ : Nat) (_ : List S78) (f : List S55) (_ _ _ : Int) : Prop := SaneP f
theorem fescuelaw06_ShapeAsks.calls (k : Nat) (A0 : Option Addr) (c0 : Nat) (t : List S78) (B0 : Option Addr) (d0 : Nat) (f : List S55) (i r at_ : Int) (b : Bool) (w : World) (ht : Kd.C k78 w A0 t.length t) (hct : t.length ≤ c0) (hf : Kd.C k55 w B0 f.length f) (hcf : f.length ≤ d0) (hT : Tab w) (h : fescuelaw06_ShapeAsks.f k t f i r at_ ∧ b = true) :
    Calls Tryd.prog 4 #[.agg #[.slice A0 t.length c0, .slice B0 f.length d0], .int .i64 i, .int .i64 r, .int .i64 at_] w fun e w' => e = .returned (.bool b) ∧ Below w.heap.size w w' := by
  obtain ⟨hS, rfl⟩ := h
  exact asks_walk A0 B0 c0 d0 t f w i r at_ hT ht hct hf hcf hS
end Go.Proofs.YtfjmpfecnemoiaaDoor.Q
