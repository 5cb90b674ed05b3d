/-
  A row that is being made over: its first elements lead to new rows, the others still to what was read.
-/
import Derived.Test.YtfjmpfecnemoiaaDoorQClone
namespace Go.Proofs.YtfjmpfecnemoiaaDoor.Q
open Go.RowKit Go.Proofs.YtfjmpfecnemoiaaDoorW.PrintWords Go.Proofs.YtfjmpfecnemoiaaDoorW.PrintLast Go.Proofs.YtfjmpfecnemoiaaDoorW.PrintMore
set_option linter.unusedVariables false
set_option linter.unusedSimpArgs false

/-- An element's cells in a block. -/
def part (cur : Array Value) (sz n : Nat) : List Value := (cur.toList.drop (n * sz)).take sz
theorem part_get {cur : Array Value} {sz n q : Nat} (hq : q < sz) : (part cur sz n)[q]? = cur[n * sz + q]? := by
  unfold part
  rw [List.getElem?_take_of_lt hq, List.getElem?_drop, Array.getElem?_toList]
theorem part_set_ne {cur : Array Value} {sz n m q : Nat} {u : Value} (hq : q < sz) (hne : n ≠ m) : part (cur.setIfInBounds (n * sz + q) u) sz m = part cur sz m := by
  apply List.ext_getElem?
  intro k
  by_cases hk : k < sz
  · rw [part_get hk, part_get hk, Array.getElem?_setIfInBounds_ne]
    intro h
    rcases Nat.lt_or_gt_of_ne hne with h1 | h1
    · have := Nat.mul_le_mul_right sz (show n + 1 ≤ m from h1)
      rw [Nat.succ_mul] at this
      omega
    · have := Nat.mul_le_mul_right sz (show m + 1 ≤ n from h1)
      rw [Nat.succ_mul] at this
      omega
  · have hl : ∀ c : Array Value, (part c sz m)[k]? = none := fun c => List.getElem?_eq_none (by unfold part; rw [List.length_take]; omega)
    rw [hl, hl]
theorem part_set_eq {cur : Array Value} {sz n q : Nat} {u : Value} (hq : q < sz) (hb : n * sz + q < cur.size) : part (cur.setIfInBounds (n * sz + q) u) sz n = (part cur sz n).set q u := by
  apply List.ext_getElem?
  intro k
  by_cases hk : k < sz
  · rw [part_get hk, List.getElem?_set]
    by_cases he : q = k
    · subst he
      have hlen : q < (part cur sz n).length := by unfold part; rw [List.length_take, List.length_drop, Array.length_toList]; omega
      rw [Array.getElem?_setIfInBounds_self_of_lt hb, if_pos rfl, if_pos hlen]
    · rw [Array.getElem?_setIfInBounds_ne (by omega), if_neg he, part_get hk]
  · have h1 : (part (cur.setIfInBounds (n * sz + q) u) sz n)[k]? = none := List.getElem?_eq_none (by unfold part; rw [List.length_take]; omega)
    have h2 : ((part cur sz n).set q u)[k]? = none := List.getElem?_eq_none (by rw [List.length_set]; unfold part; rw [List.length_take]; omega)
    rw [h1, h2]

/-- A row of so many elements at a block: the first i are made, those from j on read as they did in w. -/
structure Mix {α : Type} (d : Kd α) (e : Nat) (w : World) (base : Nat) (ok : Nat → Prop) (l : List α) (g cap i j : Nat) (W : World) : Prop where
  hg : base ≤ g
  cap_ : l.length ≤ cap
  max_ : cap ≤ 9223372036854775807
  blk : ∃ cur : Array Value, W.heap[g]? = some (.cells cur e (0, 0)) ∧ cur.size = cap * d.sz ∧ ∀ n (hn : n < l.length), (n < i → d.M W base (fun k => ok k ∧ k ≠ g) l[n] (part cur d.sz n)) ∧ (j ≤ n → d.K w l[n] (part cur d.sz n))
section
variable {α : Type} {d : Kd α} {e base g cap i j : Nat} {w W : World} {ok ok' : Nat → Prop} {l : List α}
theorem Mix.start {v : Value} (hR : (Kd.fixed d w).R e W base ok v l) : (l = [] ∧ v = .slice none 0 0) ∨ ∃ g cap, v = .slice (some ⟨g, 0, none⟩) l.length cap ∧ Mix d e w base ok l g cap 0 0 W := by
  obtain ⟨_, inner, ho, hrep⟩ := hR
  rcases ho.2 with ⟨rfl, h0⟩ | ⟨g, cap, cur, rfl, hg, hh, hcap, hm, hs, ht⟩
  · exact .inl ⟨List.length_eq_zero_iff.1 h0, rfl⟩
  · refine .inr ⟨g, cap, rfl, hg, hcap, by simpa [maxLen] using hm, cur, hh, hs, fun n hn => ⟨fun h => by omega, fun _ => ?_⟩⟩
    have hk : d.K w l[n] ((inner.drop (n * d.sz)).take d.sz) := hrep.2 n l[n] (List.getElem?_eq_getElem hn)
    have hp : (inner.drop (n * d.sz)).take d.sz = part cur d.sz n := by
      have ht' : cur.toList.take (l.length * d.sz) = inner := ht
      rw [← ht']
      unfold part
      have h1 : n * d.sz + d.sz ≤ l.length * d.sz := by rw [← Nat.succ_mul]; exact Nat.mul_le_mul_right _ hn
      rw [List.drop_take, List.take_take, Nat.min_eq_left (by omega)]
    rwa [hp] at hk
theorem Mix.below {W1 : World} (h : Mix d e w base ok l g cap i j W) (hb : Below W.heap.size W W1) : Mix d e w base ok l g cap i j W1 := by
  obtain ⟨cur, hh, hs, hc⟩ := h.blk
  exact ⟨h.hg, h.cap_, h.max_, cur, blk_below hh hb, hs, fun n hn => ⟨fun hi => Kd.M_below ((hc n hn).1 hi) hb, (hc n hn).2⟩⟩
theorem Mix.mono (h : Mix d e w base ok l g cap i j W) (hok : ∀ k, ok k → ok' k) : Mix d e w base ok' l g cap i j W := by
  obtain ⟨cur, hh, hs, hc⟩ := h.blk
  exact ⟨h.hg, h.cap_, h.max_, cur, hh, hs, fun n hn => ⟨fun hi => d.M_mono (fun k hk => ⟨hok k hk.1, hk.2⟩) ((hc n hn).1 hi), (hc n hn).2⟩⟩
theorem Mix.tight (h : Mix d e w base ok l g cap i j W) : Mix d e w base (fun k => k < W.heap.size) l g cap i j W := by
  obtain ⟨cur, hh, hs, hc⟩ := h.blk
  exact ⟨h.hg, h.cap_, h.max_, cur, hh, hs, fun n hn => ⟨fun hi => d.M_mono (fun k hk => ⟨hk.2.2.1, hk.1.2⟩) (d.M_bound ((hc n hn).1 hi)), (hc n hn).2⟩⟩
theorem Mix.far {p : Addr} (h : Mix d e w base ok l g cap i j W) (hp : g ≠ p.block) (hok : ∀ k, ok k → k ≠ p.block) (u : Value) : Mix d e w base ok l g cap i j (W.setCell p u) := by
  obtain ⟨cur, hh, hs, hc⟩ := h.blk
  exact ⟨h.hg, h.cap_, h.max_, cur, blk_far hh hp u, hs, fun n hn => ⟨fun hi => Kd.M_far ((hc n hn).1 hi) (fun k hk => hok k hk.1) u, (hc n hn).2⟩⟩
/-- A store into a block of another type. -/
theorem Mix.other {g2 t : Nat} {cells : Array Value} (h : Mix d e w base ok l g cap i j W) (hb : W.heap[g2]? = some (.cells cells t (0, 0))) (he : e ≠ t) (ht : ∀ q, q ∈ d.E → q ≠ t) (k : Nat) (u : Value) : Mix d e w base ok l g cap i j (W.setCell ⟨g2, k, none⟩ u) := by
  obtain ⟨cur, hh, hs, hc⟩ := h.blk
  exact ⟨h.hg, h.cap_, h.max_, cur, blk_far hh (p := ⟨g2, k, none⟩) (blk_ne hh hb he) u, hs, fun n hn => ⟨fun hi => d.M_mono (fun _ hk => hk.1) (Kd.M_far (p := ⟨g2, k, none⟩) (Kd.M_types ((hc n hn).1 hi) hb ht) (fun _ hk => hk.2) u), (hc n hn).2⟩⟩
theorem Mix.hole {j' : Nat} (h : Mix d e w base ok l g cap i j W) (hj : j ≤ j') : Mix d e w base ok l g cap i j' W := by
  obtain ⟨cur, hh, hs, hc⟩ := h.blk
  exact ⟨h.hg, h.cap_, h.max_, cur, hh, hs, fun n hn => ⟨(hc n hn).1, fun hn' => (hc n hn).2 (by omega)⟩⟩
/-- What the element in the hole holds. -/
def Mix.At (sz g n : Nat) (cs : List Value) (W : World) : Prop := ∃ cur e, W.heap[g]? = some (.cells cur e (0, 0)) ∧ n * sz + sz ≤ cur.size ∧ part cur sz n = cs
theorem Mix.at_ (h : Mix d e w base ok l g cap i j W) {n : Nat} (hn : n < l.length) (hj : j ≤ n) : ∃ cs, Mix.At d.sz g n cs W ∧ d.K w l[n] cs := by
  obtain ⟨cur, hh, hs, hc⟩ := h.blk
  refine ⟨part cur d.sz n, ⟨cur, e, hh, ?_, rfl⟩, (hc n hn).2 hj⟩
  have h1 : n * d.sz + d.sz ≤ l.length * d.sz := by rw [← Nat.succ_mul]; exact Nat.mul_le_mul_right _ hn
  have h2 := Nat.mul_le_mul_right d.sz h.cap_
  omega
theorem Mix.At.cell {sz g n q : Nat} {cs : List Value} {v : Value} {W : World} (h : Mix.At sz g n cs W) (hq : q < sz) (hv : cs[q]? = some v) : W.cell? ⟨g, n * sz + q, none⟩ = some v := by
  obtain ⟨cur, e, hh, hs, rfl⟩ := h
  rw [blk_cell hh, ← part_get hq, hv]
theorem Mix.At.frozen {sz g n : Nat} {cs : List Value} {W : World} (h : Mix.At sz g n cs W) (q : Nat) : W.frozen? ⟨g, q, none⟩ = false := by
  obtain ⟨cur, e, hh, _⟩ := h
  exact blk_frozen hh q
theorem Mix.At.below {sz g n : Nat} {cs : List Value} {W W1 : World} (h : Mix.At sz g n cs W) (hb : Below W.heap.size W W1) : Mix.At sz g n cs W1 := by
  obtain ⟨cur, e, hh, hs, hp⟩ := h
  exact ⟨cur, e, blk_below hh hb, hs, hp⟩
theorem Mix.At.far {sz g n : Nat} {cs : List Value} {W : World} (h : Mix.At sz g n cs W) {p : Addr} (hp : g ≠ p.block) (u : Value) : Mix.At sz g n cs (W.setCell p u) := by
  obtain ⟨cur, e, hh, hs, hc⟩ := h
  exact ⟨cur, e, blk_far hh hp u, hs, hc⟩
theorem Mix.At.put {sz g n q : Nat} {cs : List Value} {W : World} (h : Mix.At sz g n cs W) (hq : q < sz) (u : Value) : Mix.At sz g n (cs.set q u) (W.setCell ⟨g, n * sz + q, none⟩ u) := by
  obtain ⟨cur, e, hh, hs, rfl⟩ := h
  exact ⟨_, e, blk_set hh _ u, by rw [Array.size_setIfInBounds]; exact hs, part_set_eq hq (by omega)⟩
theorem Mix.put {n q : Nat} (h : Mix d e w base ok l g cap i j W) (hi : i ≤ n) (hj : n < j) (hq : q < d.sz) (u : Value) : Mix d e w base ok l g cap i j (W.setCell ⟨g, n * d.sz + q, none⟩ u) := by
  obtain ⟨cur, hh, hs, hc⟩ := h.blk
  refine ⟨h.hg, h.cap_, h.max_, _, blk_set hh _ u, by rw [Array.size_setIfInBounds]; exact hs, fun m hm => ⟨fun hmi => ?_, fun hmj => ?_⟩⟩
  · rw [part_set_ne hq (by omega)]
    exact Kd.M_far (p := ⟨g, n * d.sz + q, none⟩) ((hc m hm).1 hmi) (fun k hk => hk.2) u
  · rw [part_set_ne hq (by omega)]
    exact (hc m hm).2 hmj
theorem Mix.fill {cs : List Value} (h : Mix d e w base ok l g cap i (i + 1) W) (hi : i < l.length) (hat : Mix.At d.sz g i cs W) (hM : d.M W base (fun k => ok k ∧ k ≠ g) l[i] cs) : Mix d e w base ok l g cap (i + 1) (i + 1) W := by
  obtain ⟨cur, hh, hs, hc⟩ := h.blk
  obtain ⟨cur', e', hh', _, hp⟩ := hat
  obtain ⟨rfl, -⟩ : cur = cur' ∧ e = e' := by
    rw [hh] at hh'
    injection hh' with h1
    injection h1 with h1 h2
    exact ⟨h1, h2⟩
  refine ⟨h.hg, h.cap_, h.max_, cur, hh, hs, fun n hn => ⟨fun hni => ?_, (hc n hn).2⟩⟩
  by_cases hne : n = i
  · subst hne
    rw [hp]
    exact hM
  · exact (hc n hn).1 (by omega)
theorem Mix.done (h : Mix d e w base ok l g cap i j W) (hi : l.length ≤ i) (hok : ok g) : d.R e W base ok (.slice (some ⟨g, 0, none⟩) l.length cap) l := by
  obtain ⟨cur, hh, hs, hc⟩ := h.blk
  have hm := h.max_
  have hle : l.length * d.sz ≤ cur.toList.length := by rw [show cur.toList.length = cap * d.sz from by rw [Array.length_toList]; exact hs]; exact Nat.mul_le_mul_right _ h.cap_
  refine ⟨fun k hk => ?_, cur.toList.take (l.length * d.sz), ⟨by rw [List.length_take]; omega, .inr ⟨g, cap, cur, rfl, h.hg, hh, h.cap_, by simpa [maxLen] using hm, hs, rfl⟩⟩, by rw [List.length_take]; omega, fun n p hp => ?_⟩
  · have : g = k := by simpa [Value.ownBlock] using hk
    exact this ▸ hok
  · obtain ⟨hn, rfl⟩ := List.getElem?_eq_some_iff.1 hp
    have h1 : n * d.sz + d.sz ≤ l.length * d.sz := by rw [← Nat.succ_mul]; exact Nat.mul_le_mul_right _ hn
    have hq : ((cur.toList.take (l.length * d.sz)).drop (n * d.sz)).take d.sz = part cur d.sz n := by
      unfold part
      rw [List.drop_take, List.take_take, Nat.min_eq_left (by omega)]
    rw [hq]
    refine d.M_mono (fun k hk => ⟨hk.1, fun he => hk.2 ?_⟩) ((hc n hn).1 (by omega))
    simpa [Value.ownBlock] using he
end
end Go.Proofs.YtfjmpfecnemoiaaDoor.Q
