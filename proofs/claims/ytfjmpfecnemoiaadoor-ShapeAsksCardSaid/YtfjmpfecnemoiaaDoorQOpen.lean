/-
  How an instruction and an end that read as data stand.
-/
import Derived.Test.YtfjmpfecnemoiaaDoorRows
import Derived.Test.YtfjmpfecnemoiaaDoorQOf
import Derived.Deep.Slices
import Derived.Lib.SmallJoins
import Derived.ProofKit
import Derived.LaidMore
import Derived.LaidLaws
import Derived.MakeChecks
import Derived.OpenShut
import Derived.Stop.Joined
import Derived.Test.YtfjmpfecnemoiaaDoorQx0
namespace Go.Proofs.YtfjmpfecnemoiaaDoor.Q
open Go.RowKit Go.Proofs.YtfjmpfecnemoiaaDoorW.PrintWords Go.Proofs.YtfjmpfecnemoiaaDoorW.PrintLast Go.Proofs.YtfjmpfecnemoiaaDoorW.PrintMore
set_option linter.unusedVariables false
set_option linter.unusedSimpArgs false
open Go.ChangeShapes Go.WideShapes
set_option maxRecDepth 100000

section
theorem gTab : Tryd.prog.globalNamed "fescue/shape.table" = some 0 := by kernel_rfl
theorem tTab : (Tryd.prog.globals[0]?).map (·.type) = some 93 := by kernel_rfl
theorem c65 : Tryd.prog.cellsOf 65 = 6 := by kernel_rfl
theorem c4 : Tryd.prog.cellsOf 4 = 1 := by kernel_rfl
def rowLit {H : Type} (h : Has) : DataW H := .agg [.lit (.bool h.1), .lit (.bool h.2.1), .lit (.bool h.2.2.1), .lit (.bool h.2.2.2.1), .lit (.bool h.2.2.2.2.1), .lit (.bool h.2.2.2.2.2)]
theorem laid_rows : (Rows.laid_fescue_shape_table : DataW Unit) = .agg (tabL.map rowLit) := rfl

abbrev laidT : List (String × DataW Unit) := [("fescue/shape.table", Rows.laid_fescue_shape_table)]
theorem bool_cell {H : Type} {enc : TypeId × Value → H} {w : World} {base : Nat} {sp : Nat → Bool} {held : Bool} {n off : Nat} {l : List Value} {y : DataW H × List MemPlace} {b : Bool}
    (h : DataW.trod enc Tryd.prog w base sp held n 4 ((l.drop off).take (Tryd.prog.cellsOf 4)) = some y) (e : y.1 = .lit (.bool b)) : l[off]? = some (.bool b) := by
  obtain ⟨b', hc, rfl⟩ := DataW.trod_bool Tryd.underlying4 h
  rw [c4] at hc
  have hb : b' = b := by simpa using e
  subst hb
  have : ((l.drop off).take 1)[0]? = some (.bool b') := by rw [hc]; rfl
  rw [List.getElem?_take_of_lt (by omega), List.getElem?_drop] at this
  simpa using this
theorem tab_of_laid {W : World} (h : laidMetH Tryd.prog laidT W) : Tab W := by
  have h' : laidMet Tryd.prog laidT W := h
  obtain ⟨ps, ⟨g, t, cs, fuel, p, q, hg, ht, hvar, hd, _, _⟩, _⟩ := h'
  obtain rfl := Option.some.inj (gTab.symm.trans hg)
  obtain rfl := Option.some.inj (tTab.symm.trans ht)
  obtain ⟨xs, m, _, hx, hlen, hxl, hel⟩ := DataW.trod_array Tryd.underlying93 hd
  rw [laid_rows] at hx
  simp only [Prod.mk.injEq, DataW.agg.injEq] at hx
  intro n hn
  have hxn := hel n hn
  rw [c65] at hxn
  obtain ⟨y, hy⟩ : ∃ y, xs[n]? = some y := ⟨_, List.getElem?_eq_getElem (by omega)⟩
  have hy1 : y.1 = rowLit (rowOf n) := by
    have : (xs.map (·.1))[n]? = some y.1 := by rw [List.getElem?_map, hy]; rfl
    rw [← hx.1, List.getElem?_map, List.getElem?_eq_getElem (show n < tabL.length from hn)] at this
    unfold rowOf
    rw [Int.toNat_natCast, List.getD_eq_getElem?_getD, List.getElem?_eq_getElem (show n < tabL.length from hn)]
    exact (Option.some.inj this).symm
  rw [hy] at hxn
  obtain ⟨zs, k, _, hz, _, hzl, hf⟩ := DataW.trod_struct Tryd.underlying65 hxn
  match zs, hzl with
  | [z0, z1, z2, z3, z4, z5], _ =>
    rw [hz] at hy1
    unfold rowLit at hy1
    simp only [List.map_cons, List.map_nil, DataW.agg.injEq, List.cons.injEq, and_true] at hy1
    obtain ⟨q0, q1, q2, q3, q4, q5⟩ := hy1
    have cell : ∀ (off : Nat) (b : Bool), off < 6 → (((cs.toList.drop (n * 6)).take 6))[off]? = some (.bool b) → W.cell? ⟨0, n * 6 + off, none⟩ = some (.bool b) := by
      intro off b ho hc
      rw [List.getElem?_take_of_lt ho, List.getElem?_drop] at hc
      have := World.var?_cell gTab hvar (n * 6 + off)
      rw [this]
      simpa using hc
    exact ⟨cell 0 _ (by omega) (bool_cell (hf 0 _ rfl) q0), cell 1 _ (by omega) (bool_cell (hf 1 _ rfl) q1), cell 2 _ (by omega) (bool_cell (hf 2 _ rfl) q2), cell 3 _ (by omega) (bool_cell (hf 3 _ rfl) q3), cell 4 _ (by omega) (bool_cell (hf 4 _ rfl) q4), cell 5 _ (by omega) (bool_cell (hf 5 _ rfl) q5)⟩
end

/-- What reads as data at this type is of this kind. -/
def Opens {α : Type} (t : TypeId) (d : Kd α) : Prop := ∀ (H : Type) (enc : TypeId × Value → H) (w : World) (base : Nat) (spare : Nat → Bool) (held : Bool) (fuel : Nat) (cs : List Value) (x : DataW H × List MemPlace),
  DataW.trod enc Tryd.prog w base spare held fuel t cs = some x → ∃ a, d.K w a cs

theorem opens_int {t : TypeId} {k : IntKind} (ht : Tryd.prog.underlying t = some (.int k)) : Opens t (Kd.int k) := by
  intro H enc w base spare held fuel cs x h
  obtain ⟨n, rfl, _, _⟩ := DataW.trod_int ht h
  exact ⟨n, rfl⟩
theorem opens_bool {t : TypeId} (ht : Tryd.prog.underlying t = some .bool) : Opens t Kd.bool := by
  intro H enc w base spare held fuel cs x h
  obtain ⟨b, rfl, _⟩ := DataW.trod_bool ht h
  exact ⟨b, rfl⟩

theorem choose_list {α : Type} {n : Nat} {p : Nat → α → Prop} : (∀ i, i < n → ∃ y, p i y) → ∃ xs : List α, xs.length = n ∧ ∀ i y, xs[i]? = some y → p i y := by
  induction n with
  | zero => exact fun _ => ⟨[], rfl, fun i y h => by simp at h⟩
  | succ n ih =>
    intro hch
    obtain ⟨xs, h1, h2⟩ := ih (fun i hi => hch i (by omega))
    obtain ⟨y, hy⟩ := hch n (by omega)
    refine ⟨xs ++ [y], by simp [h1], fun i z hz => ?_⟩
    by_cases hi : i < xs.length
    · rw [List.getElem?_append_left hi] at hz
      exact h2 i z hz
    · rw [List.getElem?_append_right (by omega)] at hz
      obtain ⟨hlt, hz⟩ := List.getElem?_eq_some_iff.1 hz
      simp at hlt
      have : i = n := by omega
      subst this
      simp at hz
      subst hz
      exact hy

theorem opens_slice {α : Type} {t e : TypeId} {d : Kd α} (ht : Tryd.prog.underlying t = some (.slice e)) (hsz : Tryd.prog.cellsOf e = d.sz) (he : Opens e d) : Opens t (Kd.slice e d) := by
  intro H enc w base spare held fuel cs x h
  rcases Go.Deep.open_slice ht h with ⟨rfl, _⟩ | ⟨a, len, cap, m, n, D, Pl, rfl, hb, hl, hm, hmm, _, hel⟩
  · exact ⟨[], none, 0, rfl, Nat.le_refl _, Kd.C_nil _ _⟩
  · have hlm : len ≤ m := by rw [hmm]; split <;> omega
    have hch : ∀ i, i < len → ∃ (y : α) (c : List Value), w.cells? base (a.add (i * Tryd.prog.cellsOf e)) (Tryd.prog.cellsOf e) = some c ∧ d.K w y c := fun i hi => by
      obtain ⟨c, hc, ht⟩ := hel i (by omega)
      obtain ⟨y, hy⟩ := he H enc w base spare held n c _ ht
      exact ⟨y, c, hc, hy⟩
    obtain ⟨xs, hxl, hxs⟩ := choose_list hch
    subst hxl
    refine ⟨xs, some a, cap, rfl, hl, rfl, by simp only [maxLen] at hm; omega, fun _ => ⟨a, rfl, fun j p hj => ?_⟩⟩
    obtain ⟨c, hc, hy⟩ := hxs j p hj
    obtain ⟨_, hcl, hcell⟩ := World.cells?_some hc
    refine ⟨c, by rw [hcl, hsz], hy, fun i u hu => ?_⟩
    have := hcell i (by have := (List.getElem?_eq_some_iff.1 hu).1; omega)
    rw [hu] at this
    rwa [Go.Deep.add_add, hsz] at this


theorem one_int {H : Type} {enc : TypeId × Value → H} {w : World} {base : Nat} {sp : Nat → Bool} {held : Bool} {n off t : Nat} {k : IntKind} {l : List Value} {y : DataW H × List MemPlace} (ht : Tryd.prog.underlying t = some (.int k)) (hc : Tryd.prog.cellsOf t = 1)
    (h : DataW.trod enc Tryd.prog w base sp held n t ((l.drop off).take (Tryd.prog.cellsOf t)) = some y) : ∃ a, l[off]? = some (.int k a) ∧ (Lit.int k a).wf = true := by
  obtain ⟨a, e, _, hw⟩ := DataW.trod_int ht h
  rw [hc] at e
  have : ((l.drop off).take 1)[0]? = some (.int k a) := by rw [e]; rfl
  rw [List.getElem?_take_of_lt (by omega), List.getElem?_drop] at this
  exact ⟨a, by simpa using this, hw⟩
theorem one_ints {H : Type} {enc : TypeId × Value → H} {w : World} {base : Nat} {sp : Nat → Bool} {held : Bool} {n off : Nat} {l : List Value} {y : DataW H × List MemPlace}
    (h : DataW.trod enc Tryd.prog w base sp held n 22 ((l.drop off).take (Tryd.prog.cellsOf 22)) = some y) : ∃ (A : Option Addr) (c : Nat) (L : List Int), l[off]? = some (.slice A L.length c) ∧ Kd.C (Kd.int .i64) w A L.length L ∧ L.length ≤ c := by
  obtain ⟨L, A, c, e, hcap, hr⟩ := opens_slice Tryd.underlying22 (by kernel_rfl) (opens_int Tryd.underlying3) H enc w base sp held n _ _ h
  rw [show Tryd.prog.cellsOf 22 = 1 from by kernel_rfl] at e
  have : ((l.drop off).take 1)[0]? = some (.slice A L.length c) := by rw [e]; rfl
  rw [List.getElem?_take_of_lt (by omega), List.getElem?_drop] at this
  exact ⟨A, c, L, by simpa using this, hr, hcap⟩
/-- An instruction that reads as data. -/
theorem ins_opens {H : Type} {enc : TypeId × Value → H} {w : World} {v : Value} {d : DataW H} {p : List MemPlace} {r : Reach} {b0 : Nat} (hv : Value.okWide Tryd.prog w r b0 24 v) (h : DataW.Trod enc Tryd.prog w 0 (fun _ => true) true 24 v d p) :
    ∃ (a0 a1 a2 a3 a4 : Int) (A5 : Option Addr) (c5 : Nat) (l5 : List Int) (A6 : Option Addr) (c6 : Nat) (l6 : List Int), v = .agg #[.int .u8 a0, .int .i64 a1, .int .i64 a2, .int .i64 a3, .int .i64 a4, .slice A5 l5.length c5, .slice A6 l6.length c6] ∧ 0 ≤ a0 ∧ a0 < 256 ∧
      Kd.C (Kd.int .i64) w A5 l5.length l5 ∧ l5.length ≤ c5 ∧ Kd.C (Kd.int .i64) w A6 l6.length l6 ∧ l6.length ≤ c6 := by
  obtain ⟨cs, rfl, hsz⟩ := okWide_struct Tryd.underlying24 hv
  obtain ⟨fuel, hf⟩ := h
  obtain ⟨xs, n, _, _, hlen, hxl, hel⟩ := DataW.trod_struct Tryd.underlying24 hf
  have c24 : Tryd.prog.cellsOf 24 = 7 := by kernel_rfl
  rw [c24] at hsz
  obtain ⟨l⟩ := cs
  match l, hsz, xs, hxl with
  | [v0, v1, v2, v3, v4, v5, v6], _, [y0, y1, y2, y3, y4, y5, y6], _ =>
    obtain ⟨a0, e0, w0⟩ := one_int Tryd.underlying5 (by kernel_rfl) (hel 0 _ rfl)
    obtain ⟨a1, e1, _⟩ := one_int Tryd.underlying3 (by kernel_rfl) (hel 1 _ rfl)
    obtain ⟨a2, e2, _⟩ := one_int Tryd.underlying3 (by kernel_rfl) (hel 2 _ rfl)
    obtain ⟨a3, e3, _⟩ := one_int Tryd.underlying3 (by kernel_rfl) (hel 3 _ rfl)
    obtain ⟨a4, e4, _⟩ := one_int Tryd.underlying2 (by kernel_rfl) (hel 4 _ rfl)
    obtain ⟨A5, c5, l5, e5, r5, p5⟩ := one_ints (hel 5 _ rfl)
    obtain ⟨A6, c6, l6, e6, r6, p6⟩ := one_ints (hel 6 _ rfl)
    have hb := bounds_u8 w0
    obtain rfl : v0 = .int .u8 a0 := Option.some.inj e0
    obtain rfl : v1 = .int .i64 a1 := Option.some.inj e1
    obtain rfl : v2 = .int .i64 a2 := Option.some.inj e2
    obtain rfl : v3 = .int .i64 a3 := Option.some.inj e3
    obtain rfl : v4 = .int .i64 a4 := Option.some.inj e4
    obtain rfl : v5 = .slice A5 l5.length c5 := Option.some.inj e5
    obtain rfl : v6 = .slice A6 l6.length c6 := Option.some.inj e6
    exact ⟨a0, a1, a2, a3, a4, A5, c5, l5, A6, c6, l6, rfl, hb.1, by omega, r5, p5, r6, p6⟩
theorem end_opens {H : Type} {enc : TypeId × Value → H} {w : World} {v : Value} {d : DataW H} {p : List MemPlace} {r : Reach} {b0 : Nat} (hv : Value.okWide Tryd.prog w r b0 26 v) (h : DataW.Trod enc Tryd.prog w 0 (fun _ => true) true 26 v d p) :
    ∃ (b0 b1 b2 b3 : Int), v = .agg #[.int .u8 b0, .int .i64 b1, .int .i64 b2, .int .i64 b3] := by
  obtain ⟨cs, rfl, hsz⟩ := okWide_struct Tryd.underlying26 hv
  obtain ⟨fuel, hf⟩ := h
  obtain ⟨xs, n, _, _, hlen, hxl, hel⟩ := DataW.trod_struct Tryd.underlying26 hf
  have c26 : Tryd.prog.cellsOf 26 = 4 := by kernel_rfl
  rw [c26] at hsz
  obtain ⟨l⟩ := cs
  match l, hsz, xs, hxl with
  | [v0, v1, v2, v3], _, [y0, y1, y2, y3], _ =>
    obtain ⟨a0, e0, _⟩ := one_int Tryd.underlying5 (by kernel_rfl) (hel 0 _ rfl)
    obtain ⟨a1, e1, _⟩ := one_int Tryd.underlying3 (by kernel_rfl) (hel 1 _ rfl)
    obtain ⟨a2, e2, _⟩ := one_int Tryd.underlying3 (by kernel_rfl) (hel 2 _ rfl)
    obtain ⟨a3, e3, _⟩ := one_int Tryd.underlying3 (by kernel_rfl) (hel 3 _ rfl)
    obtain rfl : v0 = .int .u8 a0 := Option.some.inj e0
    obtain rfl : v1 = .int .i64 a1 := Option.some.inj e1
    obtain rfl : v2 = .int .i64 a2 := Option.some.inj e2
    obtain rfl : v3 = .int .i64 a3 := Option.some.inj e3
    exact ⟨a0, a1, a2, a3, rfl⟩
end Go.Proofs.YtfjmpfecnemoiaaDoor.Q
