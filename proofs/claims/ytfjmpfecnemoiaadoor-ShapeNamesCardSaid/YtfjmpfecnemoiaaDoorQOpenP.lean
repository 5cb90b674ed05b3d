/-
  How a program that reads as data stands: its types, functions, blocks and instructions, none of them longer than a machine's memory, every operation a byte.
-/
import Derived.Test.YtfjmpfecnemoiaaDoorQOpen
import Derived.Test.YtfjmpfecnemoiaaDoorQSa
import Derived.SizedLaws
namespace Go.Proofs.YtfjmpfecnemoiaaDoor.Q
open Go.RowKit Go.Proofs.YtfjmpfecnemoiaaDoorW.PrintWords Go.Proofs.YtfjmpfecnemoiaaDoorW.PrintLast Go.Proofs.YtfjmpfecnemoiaaDoorW.PrintMore
set_option linter.unusedVariables false
set_option linter.unusedSimpArgs false
open Go.ChangeShapes Go.WideShapes
set_option maxRecDepth 100000

/-- No weight is beyond a machine's reach. -/
def Light {H : Type} (t : TypeId) (d : DataW H) : Prop := ∀ n ∈ d.weights Tryd.prog t, n ≤ reachBytes
/-- What reads as data at this type, within reach, is of this kind, and P holds of it. -/
def OpensP {α : Type} (t : TypeId) (d : Kd α) (P : α → Prop) : Prop := ∀ (H : Type) (enc : TypeId × Value → H) (w : World) (base : Nat) (spare : Nat → Bool) (held : Bool) (fuel : Nat) (cs : List Value) (x : DataW H × List MemPlace),
  DataW.trod enc Tryd.prog w base spare held fuel t cs = some x → Light t x.1 → ∃ a, d.K w a cs ∧ P a
theorem opensP_int {t : TypeId} {k : IntKind} (ht : Tryd.prog.underlying t = some (.int k)) : OpensP t (Kd.int k) (fun _ => True) := by
  intro H enc w base spare held fuel cs x h _
  obtain ⟨n, rfl, _, _⟩ := DataW.trod_int ht h
  exact ⟨n, rfl, trivial⟩
theorem weightsAll_mem {H : Type} {e : TypeId} {l : List (DataW H)} {d : DataW H} (hd : d ∈ l) {n : Nat} (hn : n ∈ d.weights Tryd.prog e) : n ∈ DataW.weightsAll Tryd.prog e l := by
  induction l with
  | nil => cases hd
  | cons a l ih =>
    rw [DataW.weightsAll, List.mem_append]
    rcases List.mem_cons.1 hd with rfl | hd
    · exact .inl hn
    · exact .inr (ih hd)
theorem opensP_slice {α : Type} {t e : TypeId} {d : Kd α} {P : α → Prop} (ht : Tryd.prog.underlying t = some (.slice e)) (hsz : Tryd.prog.cellsOf e = d.sz) (hby : 0 < Tryd.prog.bytesOf e) (he : OpensP e d P) : OpensP t (Kd.slice e d) (fun l => l.length ≤ reach ∧ ∀ x ∈ l, P x) := by
  intro H enc w base spare held fuel cs x h hL
  rcases Go.Deep.open_slice ht h with ⟨rfl, _⟩ | ⟨a, len, cap, m, n, D, Pl, rfl, hb, hl, hm, hmm, hx, hel⟩
  · exact ⟨[], ⟨none, 0, rfl, Nat.le_refl _, Kd.C_nil _ _⟩, Nat.zero_le _, fun x hx => by cases hx⟩
  · subst hx
    have hlm : len ≤ m := by rw [hmm]; split <;> omega
    have hlen : len ≤ reach := by
      have hk := hL ((((List.range len).map D).length + ((List.range (m - len)).map fun j => D (len + j)).length) * Tryd.prog.bytesOf e) (by simp [DataW.weights, ht])
      have h1 : (((List.range len).map D).length + ((List.range (m - len)).map fun j => D (len + j)).length) * 1 ≤ (((List.range len).map D).length + ((List.range (m - len)).map fun j => D (len + j)).length) * Tryd.prog.bytesOf e := Nat.mul_le_mul_left _ hby
      simp only [List.length_map, List.length_range] at h1 hk
      have hr : reachBytes = reach := rfl
      omega
    have hch : ∀ i, i < len → ∃ (y : α), (∃ c : List Value, w.cells? base (a.add (i * Tryd.prog.cellsOf e)) (Tryd.prog.cellsOf e) = some c ∧ d.K w y c) ∧ P y := fun i hi => by
      obtain ⟨c, hc, ht'⟩ := hel i (by omega)
      obtain ⟨y, hy, hp⟩ := he H enc w base spare held n c _ ht' (fun n hn => hL n (by
        simp only [DataW.weights, ht, List.mem_cons, List.mem_append]
        exact .inr (.inl (weightsAll_mem (List.mem_map.2 ⟨i, List.mem_range.2 hi, rfl⟩) hn))))
      exact ⟨y, ⟨c, hc, hy⟩, hp⟩
    obtain ⟨xs, hxl, hxs⟩ := choose_list hch
    subst hxl
    refine ⟨xs, ⟨some a, cap, rfl, hl, rfl, by simp only [maxLen] at hm; omega, fun _ => ⟨a, rfl, fun j p hj => ?_⟩⟩, hlen, fun x hx => ?_⟩
    · obtain ⟨⟨c, hc, hy⟩, _⟩ := hxs j p hj
      obtain ⟨_, hcl, hcell⟩ := World.cells?_some hc
      refine ⟨c, by rw [hcl, hsz], hy, fun i u hu => ?_⟩
      have := hcell i (by have := (List.getElem?_eq_some_iff.1 hu).1; omega)
      rw [hu] at this
      rwa [Go.Deep.add_add, hsz] at this
    · obtain ⟨i, hi⟩ := List.getElem?_of_mem hx
      exact (hxs i x hi).2

/-- A struct's field that is a slice. -/
theorem one_slice {H : Type} {enc : TypeId × Value → H} {w : World} {base : Nat} {sp : Nat → Bool} {held : Bool} {n off : Nat} {l : List Value} {y : DataW H × List MemPlace} {α : Type} {t e : TypeId} {d : Kd α} {P : α → Prop} (hO : OpensP t (Kd.slice e d) (fun l => l.length ≤ reach ∧ ∀ x ∈ l, P x)) (hc : Tryd.prog.cellsOf t = 1)
    (h : DataW.trod enc Tryd.prog w base sp held n t ((l.drop off).take (Tryd.prog.cellsOf t)) = some y) (hL : Light t y.1) : ∃ (A : Option Addr) (c : Nat) (L : List α), l[off]? = some (.slice A L.length c) ∧ Kd.C d w A L.length L ∧ L.length ≤ c ∧ L.length ≤ reach ∧ ∀ x ∈ L, P x := by
  obtain ⟨L, ⟨A, c, e1, hcap, hr⟩, hle, hp⟩ := hO H enc w base sp held n _ _ h hL
  rw [hc] at e1
  have : ((l.drop off).take 1)[0]? = some (.slice A L.length c) := by rw [e1]; rfl
  rw [List.getElem?_take_of_lt (by omega), List.getElem?_drop] at this
  exact ⟨A, c, L, by simpa using this, hr, hcap, hle, hp⟩
/-- A field's weights are the struct's. -/
theorem light_field {H : Type} {t u : TypeId} {fs : Array Field} {xs : List (DataW H × List MemPlace)} {i : Nat} {y : DataW H × List MemPlace} (ht : Tryd.prog.underlying t = some (.struct fs)) (hL : Light t (.agg (xs.map (·.1)))) (hf : (fs.toList.map (·.type))[i]? = some u) (hx : xs[i]? = some y) : Light u y.1 := fun n hn =>
  hL n (by
    simp only [DataW.weights, ht]
    exact DataW.weights_mem_each hf (by rw [List.getElem?_map, hx]; rfl) n hn)

theorem opensI : OpensP 22 (Kd.slice 3 (Kd.int .i64)) (fun l => l.length ≤ reach ∧ ∀ x ∈ l, True) := opensP_slice Tryd.underlying22 (by kernel_rfl) (of_decide_eq_true (by kernel_rfl)) (opensP_int Tryd.underlying3)
theorem opens24 : OpensP 24 k24 sane24 := by
  intro H enc w base spare held fuel cs x h hL
  obtain ⟨xs, n, _, rfl, hlen, hxl, hel⟩ := DataW.trod_struct Tryd.underlying24 h
  rw [show Tryd.prog.cellsOf 24 = 7 from by kernel_rfl] at hlen
  match cs, hlen, xs, hxl with
  | [v0, v1, v2, v3, v4, v5, v6], _, [y0, y1, y2, y3, y4, y5, y6], _ =>
    obtain ⟨a0, e0, w0⟩ := one_int Tryd.underlying5 (by kernel_rfl) (hel 0 _ rfl)
    obtain ⟨a1, e1, _⟩ := one_int Tryd.underlying3 (by kernel_rfl) (hel 1 _ rfl)
    obtain ⟨a2, e2, _⟩ := one_int Tryd.underlying3 (by kernel_rfl) (hel 2 _ rfl)
    obtain ⟨a3, e3, _⟩ := one_int Tryd.underlying3 (by kernel_rfl) (hel 3 _ rfl)
    obtain ⟨a4, e4, _⟩ := one_int Tryd.underlying2 (by kernel_rfl) (hel 4 _ rfl)
    obtain ⟨A5, c5, l5, e5, r5, p5, q5, _⟩ := one_slice opensI (by kernel_rfl) (hel 5 _ rfl) (light_field Tryd.underlying24 hL (i := 5) rfl rfl)
    obtain ⟨A6, c6, l6, e6, r6, p6, q6, _⟩ := one_slice opensI (by kernel_rfl) (hel 6 _ rfl) (light_field Tryd.underlying24 hL (i := 6) rfl rfl)
    have hb := bounds_u8 w0
    obtain rfl : v0 = .int .u8 a0 := Option.some.inj e0
    obtain rfl : v1 = .int .i64 a1 := Option.some.inj e1
    obtain rfl : v2 = .int .i64 a2 := Option.some.inj e2
    obtain rfl : v3 = .int .i64 a3 := Option.some.inj e3
    obtain rfl : v4 = .int .i64 a4 := Option.some.inj e4
    obtain rfl : v5 = .slice A5 l5.length c5 := Option.some.inj e5
    obtain rfl : v6 = .slice A6 l6.length c6 := Option.some.inj e6
    exact ⟨⟨a0, a1, a2, a3, a4, l5, l6⟩, k24_mk w ⟨a0, a1, a2, a3, a4, l5, l6⟩ p5 r5 p6 r6, ⟨hb.1, show a0 < 256 by omega⟩, q5, q6⟩
theorem opens56 : OpensP 56 (Kd.slice 24 k24) (fun l => l.length ≤ reach ∧ ∀ x ∈ l, sane24 x) := opensP_slice Tryd.underlying56 (by kernel_rfl) (of_decide_eq_true (by kernel_rfl)) opens24
theorem opens58 : OpensP 58 k58 sane58 := by
  intro H enc w base spare held fuel cs x h hL
  obtain ⟨xs, n, _, rfl, hlen, hxl, hel⟩ := DataW.trod_struct Tryd.underlying58 h
  rw [show Tryd.prog.cellsOf 58 = 5 from by kernel_rfl] at hlen
  match cs, hlen, xs, hxl with
  | [v0, v1, v2, v3, v4], _, [y0, y1], _ =>
    obtain ⟨A0, c0, l0, e0, r0, p0, q0, s0⟩ := one_slice opens56 (by kernel_rfl) (hel 0 _ rfl) (light_field Tryd.underlying58 hL (i := 0) rfl rfl)
    have h1 : DataW.trod enc Tryd.prog w base spare held n 26 (([v0, v1, v2, v3, v4].drop 1).take (Tryd.prog.cellsOf 26)) = some y1 := hel 1 _ rfl
    rw [show Tryd.prog.cellsOf 26 = 4 from by kernel_rfl] at h1
    obtain ⟨zs, m, _, _, _, hzl, hez⟩ := DataW.trod_struct Tryd.underlying26 h1
    match zs, hzl with
    | [z0, z1, z2, z3], _ =>
      obtain ⟨a1, e1, _⟩ := one_int Tryd.underlying5 (by kernel_rfl) (hez 0 _ rfl)
      obtain ⟨a2, e2, _⟩ := one_int Tryd.underlying3 (by kernel_rfl) (hez 1 _ rfl)
      obtain ⟨a3, e3, _⟩ := one_int Tryd.underlying3 (by kernel_rfl) (hez 2 _ rfl)
      obtain ⟨a4, e4, _⟩ := one_int Tryd.underlying3 (by kernel_rfl) (hez 3 _ rfl)
      obtain rfl : v0 = .slice A0 l0.length c0 := Option.some.inj e0
      obtain rfl : v1 = .int .u8 a1 := Option.some.inj e1
      obtain rfl : v2 = .int .i64 a2 := Option.some.inj e2
      obtain rfl : v3 = .int .i64 a3 := Option.some.inj e3
      obtain rfl : v4 = .int .i64 a4 := Option.some.inj e4
      exact ⟨⟨l0, ⟨a1, a2, a3, a4⟩⟩, k58_mk w ⟨l0, ⟨a1, a2, a3, a4⟩⟩ p0 r0, q0, s0⟩
theorem opens53 : OpensP 53 (Kd.slice 58 k58) (fun l => l.length ≤ reach ∧ ∀ x ∈ l, sane58 x) := opensP_slice Tryd.underlying53 (by kernel_rfl) (of_decide_eq_true (by kernel_rfl)) opens58
theorem opens55 : OpensP 55 k55 sane55 := by
  intro H enc w base spare held fuel cs x h hL
  obtain ⟨xs, n, _, rfl, hlen, hxl, hel⟩ := DataW.trod_struct Tryd.underlying55 h
  rw [show Tryd.prog.cellsOf 55 = 2 from by kernel_rfl] at hlen
  match cs, hlen, xs, hxl with
  | [v0, v1], _, [y0, y1], _ =>
    obtain ⟨a0, e0, _⟩ := one_int Tryd.underlying3 (by kernel_rfl) (hel 0 _ rfl)
    obtain ⟨A1, c1, l1, e1, r1, p1, q1, s1⟩ := one_slice opens53 (by kernel_rfl) (hel 1 _ rfl) (light_field Tryd.underlying55 hL (i := 1) rfl rfl)
    obtain rfl : v0 = .int .i64 a0 := Option.some.inj e0
    obtain rfl : v1 = .slice A1 l1.length c1 := Option.some.inj e1
    exact ⟨⟨a0, l1⟩, k55_mk w ⟨a0, l1⟩ p1 r1, q1, s1⟩
theorem opens33 : OpensP 33 (Kd.slice 55 k55) (fun l => l.length ≤ reach ∧ ∀ x ∈ l, sane55 x) := opensP_slice Tryd.underlying33 (by kernel_rfl) (of_decide_eq_true (by kernel_rfl)) opens55
theorem opens78 : OpensP 78 k78 (fun x => x.f3.length ≤ reach) := by
  intro H enc w base spare held fuel cs x h hL
  obtain ⟨xs, n, _, rfl, hlen, hxl, hel⟩ := DataW.trod_struct Tryd.underlying78 h
  rw [show Tryd.prog.cellsOf 78 = 4 from by kernel_rfl] at hlen
  match cs, hlen, xs, hxl with
  | [v0, v1, v2, v3], _, [y0, y1, y2, y3], _ =>
    obtain ⟨a0, e0, _⟩ := one_int Tryd.underlying5 (by kernel_rfl) (hel 0 _ rfl)
    obtain ⟨a1, e1, _⟩ := one_int Tryd.underlying3 (by kernel_rfl) (hel 1 _ rfl)
    obtain ⟨a2, e2, _⟩ := one_int Tryd.underlying3 (by kernel_rfl) (hel 2 _ rfl)
    obtain ⟨A3, c3, l3, e3, r3, p3, q3, _⟩ := one_slice opensI (by kernel_rfl) (hel 3 _ rfl) (light_field Tryd.underlying78 hL (i := 3) rfl rfl)
    obtain rfl : v0 = .int .u8 a0 := Option.some.inj e0
    obtain rfl : v1 = .int .i64 a1 := Option.some.inj e1
    obtain rfl : v2 = .int .i64 a2 := Option.some.inj e2
    obtain rfl : v3 = .slice A3 l3.length c3 := Option.some.inj e3
    exact ⟨⟨a0, a1, a2, l3⟩, k78_mk w ⟨a0, a1, a2, l3⟩ p3 r3, q3⟩
theorem opens32 : OpensP 32 (Kd.slice 78 k78) (fun l => l.length ≤ reach ∧ ∀ x ∈ l, x.f3.length ≤ reach) := opensP_slice Tryd.underlying32 (by kernel_rfl) (of_decide_eq_true (by kernel_rfl)) opens78
/-- A program that reads as data. -/
theorem prog_opens {H : Type} {enc : TypeId × Value → H} {w : World} {v : Value} {d : DataW H} {p : List MemPlace} {r : Reach} {b0 : Nat} (hv : Value.okWide Tryd.prog w r b0 35 v) (h : DataW.Trod enc Tryd.prog w 0 (fun _ => true) true 35 v d p) (hL : Light 35 d) :
    ∃ (A0 : Option Addr) (c0 : Nat) (t : List S78) (A1 : Option Addr) (c1 : Nat) (fs : List S55), v = .agg #[.slice A0 t.length c0, .slice A1 fs.length c1] ∧ Kd.C k78 w A0 t.length t ∧ t.length ≤ c0 ∧ Kd.C k55 w A1 fs.length fs ∧ fs.length ≤ c1 ∧ SaneP fs ∧ t.length ≤ reach ∧ ∀ x ∈ t, x.f3.length ≤ reach := by
  obtain ⟨cs, rfl, hsz⟩ := okWide_struct Tryd.underlying35 hv
  obtain ⟨fuel, hf⟩ := h
  obtain ⟨xs, n, _, hx, hlen, hxl, hel⟩ := DataW.trod_struct Tryd.underlying35 hf
  rw [show Tryd.prog.cellsOf 35 = 2 from by kernel_rfl] at hsz
  obtain ⟨rfl, _⟩ := Prod.mk.inj hx
  obtain ⟨l⟩ := cs
  match l, hsz, xs, hxl with
  | [v0, v1], _, [y0, y1], _ =>
    obtain ⟨A0, c0, l0, e0, r0, p0, q0, s0⟩ := one_slice opens32 (by kernel_rfl) (hel 0 _ rfl) (light_field Tryd.underlying35 hL (i := 0) rfl rfl)
    obtain ⟨A1, c1, l1, e1, r1, p1, q1, s1⟩ := one_slice opens33 (by kernel_rfl) (hel 1 _ rfl) (light_field Tryd.underlying35 hL (i := 1) rfl rfl)
    obtain rfl : v0 = .slice A0 l0.length c0 := Option.some.inj e0
    obtain rfl : v1 = .slice A1 l1.length c1 := Option.some.inj e1
    exact ⟨A0, c0, l0, A1, c1, l1, rfl, r0, p0, r1, p1, ⟨q1, s1⟩, q0, s0⟩
end Go.Proofs.YtfjmpfecnemoiaaDoor.Q
