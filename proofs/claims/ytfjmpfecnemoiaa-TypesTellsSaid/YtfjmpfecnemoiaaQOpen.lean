/-
  How an argument that reads as data stands in memory: slices and structs, by their kinds.
-/
import Derived.Test.YtfjmpfecnemoiaaQx0
import Derived.Deep.Slices
import Derived.Lib.SmallJoins
namespace Go.Proofs.Ytfjmpfecnemoiaa.Q
open Go.RowKit Go.Proofs.YtfjmpfecnemoiaaW.PrintWords Go.Proofs.YtfjmpfecnemoiaaW.PrintLast Go.Proofs.YtfjmpfecnemoiaaW.PrintMore
set_option linter.unusedVariables false
set_option linter.unusedSimpArgs false
open Go.ChangeShapes Go.WideShapes

/-- What reads as data at this type is of this kind. -/
def Opens {α : Type} (t : TypeId) (d : Kd α) : Prop := ∀ (H : Type) (enc : TypeId × Value → H) (w : World) (base : Nat) (spare : Nat → Bool) (held : Bool) (fuel : Nat) (cs : List Value) (x : DataW H × List MemPlace),
  DataW.trod enc Try.prog w base spare held fuel t cs = some x → ∃ a, d.K w a cs

theorem opens_int {t : TypeId} {k : IntKind} (ht : Try.prog.underlying t = some (.int k)) : Opens t (Kd.int k) := by
  intro H enc w base spare held fuel cs x h
  obtain ⟨n, rfl, _, _⟩ := DataW.trod_int ht h
  exact ⟨n, rfl⟩
theorem opens_bool {t : TypeId} (ht : Try.prog.underlying t = some .bool) : Opens t Kd.bool := by
  intro H enc w base spare held fuel cs x h
  obtain ⟨b, rfl, _⟩ := DataW.trod_bool ht h
  exact ⟨b, rfl⟩

theorem choose_list {α : Type} {n : Nat} {p : Nat → α → Prop} : (∀ i, i < n → ∃ y, p i y) → ∃ xs : List α, xs.length = n ∧ ∀ i y, xs[i]? = some y → p i y := by
  induction n with
  | zero => exact fun _ => ⟨[], rfl, fun i y h => by simp at h⟩
  | succ n ih =>
    intro hch
    obtain ⟨xs, h1, h2⟩ := ih (fun i hi => hch i (by omega))
    obtain ⟨y, hy⟩ := hch n (by omega)
    refine ⟨xs ++ [y], by simp [h1], fun i z hz => ?_⟩
    by_cases hi : i < xs.length
    · rw [List.getElem?_append_left hi] at hz
      exact h2 i z hz
    · rw [List.getElem?_append_right (by omega)] at hz
      obtain ⟨hlt, hz⟩ := List.getElem?_eq_some_iff.1 hz
      simp at hlt
      have : i = n := by omega
      subst this
      simp at hz
      subst hz
      exact hy

theorem opens_slice {α : Type} {t e : TypeId} {d : Kd α} (ht : Try.prog.underlying t = some (.slice e)) (hsz : Try.prog.cellsOf e = d.sz) (he : Opens e d) : Opens t (Kd.slice e d) := by
  intro H enc w base spare held fuel cs x h
  rcases Go.Deep.open_slice ht h with ⟨rfl, _⟩ | ⟨a, len, cap, m, n, D, Pl, rfl, hb, hl, hm, hmm, _, hel⟩
  · exact ⟨[], none, 0, rfl, Nat.le_refl _, Kd.C_nil _ _⟩
  · have hlm : len ≤ m := by rw [hmm]; split <;> omega
    have hch : ∀ i, i < len → ∃ (y : α) (c : List Value), w.cells? base (a.add (i * Try.prog.cellsOf e)) (Try.prog.cellsOf e) = some c ∧ d.K w y c := fun i hi => by
      obtain ⟨c, hc, ht⟩ := hel i (by omega)
      obtain ⟨y, hy⟩ := he H enc w base spare held n c _ ht
      exact ⟨y, c, hc, hy⟩
    obtain ⟨xs, hxl, hxs⟩ := choose_list hch
    subst hxl
    refine ⟨xs, some a, cap, rfl, hl, rfl, by simp only [maxLen] at hm; omega, fun _ => ⟨a, rfl, fun j p hj => ?_⟩⟩
    obtain ⟨c, hc, hy⟩ := hxs j p hj
    obtain ⟨_, hcl, hcell⟩ := World.cells?_some hc
    refine ⟨c, by rw [hcl, hsz], hy, fun i u hu => ?_⟩
    have := hcell i (by have := (List.getElem?_eq_some_iff.1 hu).1; omega)
    rw [hu] at this
    rwa [Go.Deep.add_add, hsz] at this

theorem opens31 : Opens 31 k31 := by
  intro H enc w base spare held fuel cs x h
  obtain ⟨y0, y1, y2, y3, n, _, hlen, h0, h1, h2, h3⟩ := Go.Joins.trod_struct4 Try.underlying31 h
  rw [show Try.prog.cellsOf 31 = 4 from by kernel_rfl] at hlen
  match cs, hlen with
  | [c0, c1, c2, c3], _ =>
    rw [show Try.prog.cellsOf 5 = 1 from by kernel_rfl] at h0
    rw [show Try.prog.cellsOf 3 = 1 from by kernel_rfl] at h1 h2
    rw [show Try.prog.cellsOf 29 = 1 from by kernel_rfl] at h3
    obtain ⟨a0, e0⟩ := opens_int Try.underlying5 H enc w base spare held n _ _ h0
    obtain ⟨a1, e1⟩ := opens_int Try.underlying3 H enc w base spare held n _ _ h1
    obtain ⟨a2, e2⟩ := opens_int Try.underlying3 H enc w base spare held n _ _ h2
    obtain ⟨a3, e3⟩ := opens_slice Try.underlying29 (by kernel_rfl) (opens_int Try.underlying3) H enc w base spare held n _ _ h3
    simp at e0 e1 e2 e3
    exact ⟨⟨a0, a1, a2, a3⟩, _, _, rfl, e0, _, _, rfl, e1, _, _, rfl, e2, e3⟩
/-- A table of types that reads as data. -/
theorem table_opens {H : Type} {enc : TypeId × Value → H} {w : World} {a : Option Addr} {len cap : Nat} {d : DataW H} {p : List MemPlace} (h : DataW.Trod enc Try.prog w 0 (fun _ => true) true 22 (.slice a len cap) d p) :
    ∃ l : List S31, len = l.length ∧ l.length ≤ cap ∧ Kd.C k31 w a l.length l := by
  obtain ⟨fuel, hf⟩ := h
  obtain ⟨l, A, c, e, hc, hr⟩ := opens_slice Try.underlying22 (by kernel_rfl) opens31 H enc w 0 _ _ fuel _ _ hf
  obtain ⟨rfl, rfl, rfl⟩ : a = A ∧ len = l.length ∧ cap = c := by simpa [Value.cells] using e
  exact ⟨l, rfl, hc, hr⟩
end Go.Proofs.Ytfjmpfecnemoiaa.Q
