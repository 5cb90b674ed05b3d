/-
  fescuelaw06.chapter: the chapter's program, in new memory.
-/
import Derived.Test.YtfjmpfecnemoiaaDoorQBlk
namespace Go.Proofs.YtfjmpfecnemoiaaDoor.Q
open Go.RowKit Go.Proofs.YtfjmpfecnemoiaaDoorW.PrintWords Go.Proofs.YtfjmpfecnemoiaaDoorW.PrintLast Go.Proofs.YtfjmpfecnemoiaaDoorW.PrintMore
set_option linter.unusedVariables false
set_option linter.unusedSimpArgs false
set_option maxRecDepth 100000

/-- A block whose cells are a row's elements, all of them. -/
theorem R_of_blk {α : Type} (d : Kd α) {e : Nat} {w : World} {base g : Nat} {ok : Nat → Prop} {xs : List α} {inner : List Value} (hb : w.heap[g]? = some (.cells inner.toArray e (0, 0))) (hbase : base ≤ g) (hok : ok g) (hm : xs.length ≤ 1000)
    (hrep : Reps (d.M w base (fun k => ok k ∧ k ≠ g)) d.sz xs inner) : d.R e w base ok (.slice (some ⟨g, 0, none⟩) xs.length xs.length) xs := by
  refine ⟨fun k hk => ?_, inner, ⟨hrep.1, .inr ⟨g, xs.length, inner.toArray, rfl, hbase, hb, Nat.le_refl _, by unfold maxLen; omega, by simpa using hrep.1, ?_⟩⟩, hrep.imp_ (fun p c hp => d.M_mono (fun k hk => ⟨hk.1, ?_⟩) hp)⟩
  · have : g = k := by simpa [Value.ownBlock] using hk
    exact this ▸ hok
  · exact List.take_of_length_le (by rw [hrep.1]; exact Nat.le_refl _)
  · intro he
    exact hk.2 (by simpa [Value.ownBlock] using he)

theorem blk_at {W : World} {n : Nat} (h : W.heap.size = n) (o : Obj) : (W.alloc o).heap[n]? = some o := h ▸ blk_new W o
theorem size_at {W : World} {n : Nat} (h : W.heap.size = n) (o : Obj) : (W.alloc o).heap.size = n + 1 := by simp [h]
theorem Reps_one {α : Type} {R : α → List Value → Prop} {size : Nat} {p : α} {c : List Value} (h : R p c) (hc : c.length = size) : Reps R size [p] c := by
  have := Reps.snoc (Reps.none R size) h hc
  simpa using this
theorem Reps_two {α : Type} {R : α → List Value → Prop} {size : Nat} {p q : α} {c d : List Value} (h : R p c) (hc : c.length = size) (h' : R q d) (hd : d.length = size) : Reps R size [p, q] (c ++ d) := by
  have := Reps.snoc (Reps_one h hc) h' hd
  simpa using this

abbrev chapA : S24 := ⟨1, 0, 0, 0, 5, [], []⟩
abbrev chapB : S24 := ⟨4, 0, 0, 0, 0, [], []⟩
abbrev chapT : List S78 := [⟨1, 0, 0, []⟩, ⟨3, 0, 0, []⟩]
abbrev chapBs : List S58 := [⟨[chapA], ⟨1, 0, 1, 0⟩⟩, ⟨[chapB], ⟨3, 1, 0, 0⟩⟩]
abbrev chapF : List S55 := [⟨1, chapBs⟩]

/-- The chapter's program, in a world whose blocks from g + 1 on hold it. -/
theorem chap_reads {W : World} {g : Nat} (b1 : W.heap[g + 1]? = some (.cells #[.int .u8 1, .int .i64 0, .int .i64 0, .int .i64 0, .int .i64 5, .slice none 0 0, .slice none 0 0] 24 (0, 0)))
    (b3 : W.heap[g + 3]? = some (.cells #[.int .u8 4, .int .i64 0, .int .i64 0, .int .i64 0, .int .i64 0, .slice none 0 0, .slice none 0 0] 24 (0, 0)))
    (b5 : W.heap[g + 5]? = some (.cells #[.int .u8 1, .int .i64 0, .int .i64 0, .slice none 0 0, .int .u8 3, .int .i64 0, .int .i64 0, .slice none 0 0] 78 (0, 0)))
    (b6 : W.heap[g + 6]? = some (.cells #[.slice (some ⟨g + 1, 0, none⟩) 1 1, .int .u8 1, .int .i64 0, .int .i64 1, .int .i64 0, .slice (some ⟨g + 3, 0, none⟩) 1 1, .int .u8 3, .int .i64 1, .int .i64 0, .int .i64 0] 58 (0, 0)))
    (b7 : W.heap[g + 7]? = some (.cells #[.int .i64 1, .slice (some ⟨g + 6, 0, none⟩) 2 2] 55 (0, 0))) :
    Kd.S k78 78 W g (fun _ => True) (.slice (some ⟨g + 5, 0, none⟩) 2 2) chapT ∧ Kd.R k55 55 W g (fun _ => True) (.slice (some ⟨g + 7, 0, none⟩) 1 1) chapF := by
  have r1 : Kd.R k24 24 W g (fun k => k = g + 1) (.slice (some ⟨g + 1, 0, none⟩) 1 1) [chapA] :=
    R_of_blk k24 (inner := [.int .u8 1, .int .i64 0, .int .i64 0, .int .i64 0, .int .i64 5, .slice none 0 0, .slice none 0 0]) b1 (by omega) rfl (by decide) (Reps_one (k24_mkM _ _ _ chapA (Kd.R_nil _ _ _ _ _) (Kd.R_nil _ _ _ _ _)) rfl)
  have r3 : Kd.R k24 24 W g (fun k => k = g + 3) (.slice (some ⟨g + 3, 0, none⟩) 1 1) [chapB] :=
    R_of_blk k24 (inner := [.int .u8 4, .int .i64 0, .int .i64 0, .int .i64 0, .int .i64 0, .slice none 0 0, .slice none 0 0]) b3 (by omega) rfl (by decide) (Reps_one (k24_mkM _ _ _ chapB (Kd.R_nil _ _ _ _ _) (Kd.R_nil _ _ _ _ _)) rfl)
  have r6 : Kd.R k58 58 W g (fun k => k < g + 7) (.slice (some ⟨g + 6, 0, none⟩) 2 2) chapBs :=
    R_of_blk k58 (inner := [.slice (some ⟨g + 1, 0, none⟩) 1 1, .int .u8 1, .int .i64 0, .int .i64 1, .int .i64 0] ++ [.slice (some ⟨g + 3, 0, none⟩) 1 1, .int .u8 3, .int .i64 1, .int .i64 0, .int .i64 0]) b6 (by omega) (by omega) (by decide)
      (Reps_two (k58_mkM _ _ _ ⟨[chapA], ⟨1, 0, 1, 0⟩⟩ (Kd.R_mono r1 (fun k hk => ⟨by omega, by omega⟩))) rfl (k58_mkM _ _ _ ⟨[chapB], ⟨3, 1, 0, 0⟩⟩ (Kd.R_mono r3 (fun k hk => ⟨by omega, by omega⟩))) rfl)
  refine ⟨⟨fun k => 0, ?_⟩, ?_⟩
  · exact R_of_blk (Kd.tag (fun _ => 0) k78) (xs := chapT.zipIdx) (inner := [.int .u8 1, .int .i64 0, .int .i64 0, .slice none 0 0] ++ [.int .u8 3, .int .i64 0, .int .i64 0, .slice none 0 0]) b5 (by omega) trivial (by decide)
      (Reps_two (show (Kd.tag (fun _ => 0) k78).M W g _ (⟨1, 0, 0, []⟩, 0) [.int .u8 1, .int .i64 0, .int .i64 0, .slice none 0 0] from k78_mkM W g _ ⟨1, 0, 0, []⟩ (Kd.R_nil _ _ _ _ _)) rfl (show (Kd.tag (fun _ => 0) k78).M W g _ (⟨3, 0, 0, []⟩, 1) [.int .u8 3, .int .i64 0, .int .i64 0, .slice none 0 0] from k78_mkM W g _ ⟨3, 0, 0, []⟩ (Kd.R_nil _ _ _ _ _)) rfl)
  · exact R_of_blk k55 (inner := [.int .i64 1, .slice (some ⟨g + 6, 0, none⟩) 2 2]) b7 (by omega) trivial (by decide) (Reps_one (k55_mkM _ _ _ ⟨1, chapBs⟩ (Kd.R_mono r6 (fun k hk => ⟨trivial, by omega⟩))) rfl)

set_option maxHeartbeats 2000000 in
theorem chap_run (w : World) : Calls Tryd.prog 25 #[] w fun e w' => e = .returned (.agg #[.slice (some ⟨w.heap.size + 5, 0, none⟩) 2 2, .slice (some ⟨w.heap.size + 7, 0, none⟩) 1 1]) ∧ (Kd.S k78 78 w' w.heap.size (fun _ => True) (.slice (some ⟨w.heap.size + 5, 0, none⟩) 2 2) chapT ∧ Kd.R k55 55 w' w.heap.size (fun _ => True) (.slice (some ⟨w.heap.size + 7, 0, none⟩) 1 1) chapF) ∧ Below w.heap.size w w' := by
  have hu35 := Tryd.underlying35
  have hu24 := Tryd.underlying24
  have hu26 := Tryd.underlying26
  have hu58 := Tryd.underlying58
  have hu78 := Tryd.underlying78
  have hu55 := Tryd.underlying55
  go_enter Tryd.func25, Tryd.ntmps25
  go_wp2
  have s0 : w.heap.size = w.heap.size := rfl
  refine bodyPost_ret (results_cell_row rfl _ _ w.heap.size 35 #[.slice (some ⟨w.heap.size + 1 + 1 + 1 + 1 + 1, 0, none⟩) 2 2, .slice (some ⟨w.heap.size + 1 + 1 + 1 + 1 + 1 + 1 + 1, 0, none⟩) 1 1] (0, 0) _ rfl (blk_alloc (blk_alloc (blk_alloc (blk_alloc (blk_alloc (blk_alloc (blk_alloc (blk_at rfl _) _) _) _) _) _) _) _) Tryd.underlying35 rfl (by kernel_rfl)) rfl ?_
  have b1 := fun (o0 o1 o2 o3 o4 o5 o6 o7 : Obj) => (blk_alloc (blk_alloc (blk_alloc (blk_alloc (blk_alloc (blk_alloc (blk_at (size_at s0 o0) o1) o2) o3) o4) o5) o6) o7)
  have b3 := fun (o0 o1 o2 o3 o4 o5 o6 o7 : Obj) => (blk_alloc (blk_alloc (blk_alloc (blk_alloc (blk_at (size_at (size_at (size_at s0 o0) o1) o2) o3) o4) o5) o6) o7)
  have b5 := fun (o0 o1 o2 o3 o4 o5 o6 o7 : Obj) => (blk_alloc (blk_alloc (blk_at (size_at (size_at (size_at (size_at (size_at s0 o0) o1) o2) o3) o4) o5) o6) o7)
  have b6 := fun (o0 o1 o2 o3 o4 o5 o6 o7 : Obj) => (blk_alloc (blk_at (size_at (size_at (size_at (size_at (size_at (size_at s0 o0) o1) o2) o3) o4) o5) o6) o7)
  have b7 := fun (o0 o1 o2 o3 o4 o5 o6 o7 : Obj) => (blk_at (size_at (size_at (size_at (size_at (size_at (size_at (size_at s0 o0) o1) o2) o3) o4) o5) o6) o7)
  exact ⟨rfl, chap_reads (b1 _ _ _ _ _ _ _ _) (b3 _ _ _ _ _ _ _ _) (b5 _ _ _ _ _ _ _ _) (b6 _ _ _ _ _ _ _ _) (b7 _ _ _ _ _ _ _ _), below_alloc (below_alloc (below_alloc (below_alloc (below_alloc (below_alloc (below_alloc (below_alloc (Below.refl _ _) _) _) _) _) _) _) _) _⟩

def fescuelaw06_chapter.f : Option (List S78 × List S55) := some (chapT, chapF)
theorem fescuelaw06_chapter.calls (r1 : List S78) (r2 : List S55) (w : World) (h : fescuelaw06_chapter.f = some (r1, r2)) :
    Calls Tryd.prog 25 #[] w fun e w' => ∃ v0_ v1_ : Value, e = .returned (.agg #[v0_, v1_]) ∧ Kd.S k78 78 w' w.heap.size (fun _ => True) v0_ r1 ∧ Kd.R k55 55 w' w.heap.size (fun _ => True) v1_ r2 ∧ Below w.heap.size w w' := by
  have h := Option.some.inj h
  simp only [Prod.mk.injEq] at h
  obtain ⟨rfl, rfl⟩ := h
  exact (chap_run w).mono fun e w' ⟨he, ⟨h1, h2⟩, hb⟩ => ⟨_, _, he, h1, h2, hb⟩
end Go.Proofs.YtfjmpfecnemoiaaDoor.Q
