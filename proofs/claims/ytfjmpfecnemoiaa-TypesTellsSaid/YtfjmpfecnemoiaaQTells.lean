/-
  The law TypesTells: what is written over in the copy, and the walk of the law.
-/
import Derived.Test.YtfjmpfecnemoiaaQTwin
import Derived.Test.YtfjmpfecnemoiaaQSame
import Derived.Test.YtfjmpfecnemoiaaQRefB
namespace Go.Proofs.Ytfjmpfecnemoiaa.Q
open Go.RowKit Go.Proofs.YtfjmpfecnemoiaaW.PrintWords Go.Proofs.YtfjmpfecnemoiaaW.PrintLast Go.Proofs.YtfjmpfecnemoiaaW.PrintMore
set_option linter.unusedVariables false
set_option linter.unusedSimpArgs false
set_option maxRecDepth 100000

/-! ### the slow comparison, of any two tables -/
theorem sameR2_l1 (t o : List S31) (i : Nat) (hi : i < t.length) (ho_ : i < o.length) (hlen : t[i].f3.length = o[i].f3.length) (hl : t[i].f3.length ≤ 20) (m : Nat) (b : Bool) (ho : ∀ k, m ≤ k → fescueref03_Same.l0 k t o (wrap64 ((i : Int) + 1)) = some b) (d : Nat) :
    ∀ (k j : Nat), j + d = t[i].f3.length → m + d < k → fescueref03_Same.l1 k t o (i : Int) (j : Int) = some ((t[i].f3.drop j == o[i].f3.drop j) && b) := by
  have e1 := rd31_at hi
  have e2 := rd31_at ho_
  induction d with
  | zero =>
    intro k j hj hk
    obtain ⟨k, rfl⟩ : ∃ q, k = q + 1 := ⟨k - 1, by omega⟩
    simp only [fescueref03_Same.l1, e1, e2]
    rw [if_pos (by omega), if_pos (by omega), if_neg (by omega), ho k (by omega), List.drop_eq_nil_of_le (by omega), List.drop_eq_nil_of_le (by omega)]
    rfl
  | succ d ih =>
    intro k j hj hk
    obtain ⟨k, rfl⟩ : ∃ q, k = q + 1 := ⟨k - 1, by omega⟩
    have h1 : j < t[i].f3.length := by omega
    have h2 : j < o[i].f3.length := by omega
    simp only [fescueref03_Same.l1, e1, e2]
    rw [if_pos (by omega), if_pos (by omega), if_pos (by omega), if_pos (by omega), if_pos (by omega), if_pos (by omega), rd_at h1, rd_at h2, wrap_nat (by omega), ih k (j + 1) (by omega) (by omega), List.drop_eq_getElem_cons h1, List.drop_eq_getElem_cons h2]
    by_cases h : t[i].f3[j] = o[i].f3[j]
    · rw [if_pos h, h]
      refine congrArg (fun x => some (x && b)) ?_
      rw [Bool.eq_iff_iff]
      simp only [beq_iff_eq, List.cons.injEq, true_and]
    · rw [if_neg h, show (t[i].f3[j] :: t[i].f3.drop (j + 1) == o[i].f3[j] :: o[i].f3.drop (j + 1)) = false from beq_eq_false_iff_ne.mpr fun e => h (List.cons.inj e).1]
      rfl
theorem sameR2_l0 (t o : List S31) (hF : Few t) (hlen : t.length = o.length) (d : Nat) : ∀ (k i : Nat), i + d = t.length → 30 * d < k → fescueref03_Same.l0 k t o (i : Int) = some (sameL (t.drop i) (o.drop i)) := by
  have h20 := hF.1
  induction d with
  | zero =>
    intro k i hi hk
    obtain ⟨k, rfl⟩ : ∃ q, k = q + 1 := ⟨k - 1, by omega⟩
    rw [fescueref03_Same.l0, if_neg (by omega), List.drop_eq_nil_of_le (by omega), List.drop_eq_nil_of_le (by omega)]
    rfl
  | succ d ih =>
    intro k i hi hk
    obtain ⟨k, rfl⟩ : ∃ q, k = q + 2 := ⟨k - 2, by omega⟩
    have h1 : i < t.length := by omega
    have h2 : i < o.length := by omega
    have hp : t[i].f3.length ≤ 20 := by have := hF.2 i h1; rwa [rd31_at h1] at this
    have hj : ∀ b, fescueref03_Same.j1 (k + 1) t o (i : Int) b = if b = true then some false else fescueref03_Same.l1 k t o (i : Int) 0 := fun b => by rw [fescueref03_Same.j1]
    simp only [fescueref03_Same.l0, rd31_at h1, rd31_at h2, hj]
    rw [if_pos (by omega), if_pos (by omega), if_pos (by omega), List.drop_eq_getElem_cons h1, List.drop_eq_getElem_cons h2, sameL]
    unfold sameT
    by_cases a : t[i].f0 = o[i].f0
    · by_cases b : t[i].f1 = o[i].f1
      · by_cases c : t[i].f2 = o[i].f2
        · rw [if_pos a, if_pos b, if_pos c, beq_iff_eq.mpr a, beq_iff_eq.mpr b, beq_iff_eq.mpr c]
          by_cases e : t[i].f3.length = o[i].f3.length
          · have := sameR2_l1 t o i h1 h2 e hp (30 * d + 1) _ (fun k hk => by rw [wrap_nat (by omega)]; exact ih k (i + 1) (by omega) (by omega)) t[i].f3.length k 0 (by omega) (by omega)
            rw [if_neg (by simp [e])]
            refine this.trans ?_
            rw [List.drop_zero, List.drop_zero]
            rfl
          · rw [if_pos (by simp; omega), show (t[i].f3 == o[i].f3) = false from beq_eq_false_iff_ne.mpr fun h => e (by rw [h])]
            rfl
        · rw [if_pos a, if_pos b, if_neg c, if_pos trivial, beq_eq_false_iff_ne.mpr c, Bool.false_and, Bool.and_false, Bool.and_false, Bool.false_and]
      · rw [if_pos a, if_neg b, if_pos trivial, beq_eq_false_iff_ne.mpr b, Bool.false_and, Bool.and_false, Bool.false_and]
    · rw [if_neg a, if_pos trivial, beq_eq_false_iff_ne.mpr a, Bool.false_and, Bool.false_and]
theorem sameR2_some (t o : List S31) (hF : Few t) (k : Nat) (hk : 640 ≤ k) : fescueref03_Same.f k t o = some (sameL t o) := by
  have h20 := hF.1
  unfold fescueref03_Same.f
  by_cases h : t.length = o.length
  · rw [if_pos (by omega)]
    exact sameR2_l0 t o hF h t.length k 0 (by omega) (by omega)
  · rw [if_neg (by omega), sameL_len t o h]
theorem sameL_self : ∀ t : List S31, sameL t t = true
  | [] => rfl
  | x :: t => by rw [sameL, sameL_self t]; unfold sameT; simp

/-! ### what is written over -/
theorem R_any_store {W : World} {base : Nat} {v : Value} {ys : List Int} (h : (Kd.int .i64).R 3 W base (fun _ => True) v ys) (p k : Nat) (x : Int) : ∃ ys' : List Int, ys'.length = ys.length ∧ (Kd.int .i64).R 3 (W.setCell ⟨p, k, none⟩ (.int .i64 x)) base (fun _ => True) v ys' := by
  by_cases hp : v.ownBlock = some p
  · obtain ⟨A, c, rfl⟩ := Kd.R_slice h
    rcases A with _ | ad
    · simp [Value.ownBlock] at hp
    · obtain ⟨g, rfl⟩ := Kd.R_head h
      obtain rfl : g = p := by simpa [Value.ownBlock] using hp
      exact ⟨ys.set k x, by simp, (Kd.R_put h (k : Int) x).1⟩
  · exact ⟨ys, rfl, Kd.R_mono (Kd.R_far (p := ⟨p, k, none⟩) (Kd.R_tight rfl h) (fun q hq he => hp (by rw [← hq, he])) (.int .i64 x)) (fun _ _ => trivial)⟩
/-- The copy while it is written over: its rows' lengths stay. -/
structure Spoil (w : World) (l : List S31) (g : Nat) (W : World) : Prop where
  below : Below w.heap.size w W
  hg : w.heap.size ≤ g
  blk : ∃ cur : Array Value, W.heap[g]? = some (.cells cur 31 (0, 0)) ∧ ∀ i (hi : i < l.length), (∃ u, cur[i * 4]? = some u) ∧ ∃ A c ys, cur[i * 4 + 3]? = some (.slice A l[i].f3.length c) ∧ ys.length = l[i].f3.length ∧ (Kd.int .i64).R 3 W w.heap.size (fun _ => True) (.slice A l[i].f3.length c) ys
theorem TwinInv.step {w W W1 : World} {l : List S31} {g cap : Nat} (h : TwinInv w l g cap l.length W) (hb : Below W.heap.size W W1) : TwinInv w l g cap l.length W1 := by
  obtain ⟨cur, hh, hs, hc⟩ := h.blk
  refine ⟨below_then h.below h.below.size hb, h.hg, h.cap_, cur, blk_below hh hb, hs, fun i hi => ?_⟩
  obtain ⟨e0, e1, e2, A, c, e3, hl, hC, hR⟩ := hc i hi
  exact ⟨e0, e1, e2, A, c, e3, hl, hC, fun h => Kd.R_below (hR h) hb⟩
theorem TwinInv.spoil {w W : World} {l : List S31} {g cap : Nat} (h : TwinInv w l g cap l.length W) : Spoil w l g W := by
  obtain ⟨cur, hh, hs, hc⟩ := h.blk
  refine ⟨h.below, h.hg, cur, hh, fun i hi => ?_⟩
  obtain ⟨e0, e1, e2, A, c, e3, hl, hC, hR⟩ := hc i hi
  exact ⟨⟨_, e0⟩, A, c, _, e3, rfl, hR hi⟩
theorem TwinInv.reads {w W : World} {l : List S31} {g cap : Nat} (h : TwinInv w l g cap l.length W) (hcap : l.length ≤ 20) : k31.C W (some ⟨g, 0, none⟩) l.length l := by
  obtain ⟨cur, hh, hs, hc⟩ := h.blk
  refine ⟨rfl, by omega, fun _ => ⟨⟨g, 0, none⟩, rfl, fun j p hj => ?_⟩⟩
  obtain ⟨hjl, rfl⟩ := List.getElem?_eq_some_iff.1 hj
  obtain ⟨e0, e1, e2, A, c, e3, hl, hC, hR⟩ := hc j hjl
  obtain ⟨A', c', hv, hle, hr⟩ := Kd.R_reads (hR hjl)
  injection hv with hA _ hcc
  subst hA
  refine ⟨[.int .u8 l[j].f0, .int .i64 l[j].f1, .int .i64 l[j].f2, .slice A l[j].f3.length c], rfl, k31_mk W l[j] hl hr, fun i u hu => ?_⟩
  rw [add_plain, blk_cell hh]
  have hi : i < 4 := (List.getElem?_eq_some_iff.1 hu).1
  have : k31.sz = 4 := rfl
  rw [this]
  match i, hi with
  | 0, _ => exact e0.trans hu
  | 1, _ => exact e1.trans hu
  | 2, _ => exact e2.trans hu
  | 3, _ => exact e3.trans hu
theorem Spoil.row {w W : World} {l : List S31} {g : Nat} (h : Spoil w l g W) (p k : Nat) (x : Int) (hp : w.heap.size ≤ p) (hne : p ≠ g) : Spoil w l g (W.setCell ⟨p, k, none⟩ (.int .i64 x)) := by
  obtain ⟨cur, hh, hc⟩ := h.blk
  refine ⟨h.below.setCell hp _, h.hg, cur, blk_far hh (fun e => hne e.symm) _, fun i hi => ?_⟩
  obtain ⟨e0, A, c, ys, e3, hl, hR⟩ := hc i hi
  obtain ⟨ys', hl', hR'⟩ := R_any_store hR p k x
  exact ⟨e0, A, c, ys', e3, hl'.trans hl, hR'⟩
theorem Spoil.kind {w W : World} {l : List S31} {g : Nat} (h : Spoil w l g W) (i : Nat) (u : Value) : Spoil w l g (W.setCell ⟨g, i * 4, none⟩ u) := by
  obtain ⟨cur, hh, hc⟩ := h.blk
  refine ⟨h.below.setCell h.hg _, h.hg, cur.setIfInBounds (i * 4) u, blk_put hh (i * 4) _ rfl, fun j hj => ?_⟩
  obtain ⟨⟨u0, e0⟩, A, c, ys, e3, hl, hR⟩ := hc j hj
  refine ⟨?_, A, c, ys, (Array.getElem?_setIfInBounds_ne (by omega)).trans e3, hl, Kd.R_set hR hh (by decide) _ _⟩
  by_cases hij : i = j
  · subst hij
    exact ⟨u, by rw [Array.getElem?_setIfInBounds_self_of_lt (by have := (Array.getElem?_eq_some_iff.1 e0).1; omega)]⟩
  · exact ⟨u0, (Array.getElem?_setIfInBounds_ne (by omega)).trans e0⟩
/-- A cell of a row that is written over. -/
theorem spoil_cell {W : World} {base n c : Nat} {A : Option Addr} {ys : List Int} (h : (Kd.int .i64).R 3 W base (fun _ => True) (.slice A n c) ys) (hn : ys.length = n) (k : Nat) (hk : k < n) : ∃ p, A = some ⟨p, 0, none⟩ ∧ base ≤ p ∧ (∃ u, W.cell? ⟨p, k, none⟩ = some u) ∧ W.frozen? ⟨p, k, none⟩ = false ∧ ∃ cells, W.heap[p]? = some (.cells cells 3 (0, 0)) := by
  subst hn
  rcases A with _ | ad
  · have := Kd.R_reads h
    obtain ⟨A, c', hv, _, hr⟩ := this
    injection hv with hA _ _
    subst hA
    obtain ⟨ad, he, _⟩ := hr.2.2 (by omega)
    cases he
  · obtain ⟨p, rfl⟩ := Kd.R_head h
    have h1 := Kd.R_cell 0 h (k : Int) (by omega) (by omega)
    exact ⟨p, rfl, Kd.R_base h p rfl, ⟨_, h1.1⟩, h1.2, Kd.R_typed h p rfl⟩
end Go.Proofs.Ytfjmpfecnemoiaa.Q
