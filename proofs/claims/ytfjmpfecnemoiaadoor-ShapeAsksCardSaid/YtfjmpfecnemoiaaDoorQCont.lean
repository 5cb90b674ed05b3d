/-
  slices.ContainsFunc and slices.IndexFunc at functions, blocks and instructions: what they answer, whatever the predicate that is handed in (a function value that only makes memory of its own).
-/
import Derived.Test.YtfjmpfecnemoiaaDoorQThere
namespace Go.Proofs.YtfjmpfecnemoiaaDoor.Q
open Go.RowKit Go.Proofs.YtfjmpfecnemoiaaDoorW.PrintWords Go.Proofs.YtfjmpfecnemoiaaDoorW.PrintLast Go.Proofs.YtfjmpfecnemoiaaDoorW.PrintMore
set_option linter.unusedVariables false
set_option linter.unusedSimpArgs false
set_option maxRecDepth 100000

/-- An index, or a number below 0: whether there is one. -/
def FoundB (b : Bool) (w : World) (e : Ending) (w' : World) : Prop := ∃ i : Int, e = .returned (.int .i64 i) ∧ decide (0 ≤ i) = b ∧ Below w.heap.size w w'

def Pred55 (g : Nat) (lb : Array Value) (p : S55 → Bool) (xs : List S55) (w : World) : Prop :=
  ∀ (W : World) (x : S55) (A1 : Option Addr) (c1 : Nat), Below w.heap.size w W → x ∈ xs → x.f1.length ≤ c1 → k58.C W A1 x.f1.length x.f1 → Calls Tryd.prog g (#[.agg #[.int .i64 x.f0, .slice A1 x.f1.length c1]] ++ lb) W fun e w' => e = .returned (.bool (p x)) ∧ Below W.heap.size W w'
theorem rdT55_at {xs : List S55} {j : Nat} (h : j < xs.length) : rd_T55 xs (j : Int) = xs[j] := by simp [rd_T55, h]
theorem any_take_succ55 {p : S55 → Bool} {xs : List S55} {k : Nat} (h : k < xs.length) (h0 : (xs.take k).any p = false) (h1 : p xs[k] = false) : (xs.take (k + 1)).any p = false := by
  rw [List.take_succ_eq_append_getElem h, List.any_append, h0]
  simpa using h1
set_option maxHeartbeats 2000000 in
theorem index55_calls (g : Nat) (lb : Array Value) (eg : ∀ args w, (callFunc g args).run Tryd.prog w = .ok (.enter g args) w) (p : S55 → Bool) (A : Option Addr) (c : Nat) (xs : List S55) (w : World)
    (hr : Kd.C k55 w A xs.length xs) (hp : Pred55 g lb p xs w) :
    Calls Tryd.prog 71 #[.slice A xs.length c, .func (.func g) #[] lb] w (FoundB (xs.any p) w) := by
  have hut := Tryd.underlying55
  have HR := Aside0.mk hr
  have HP := Aside0.mk hp
  have hbig : (xs.length : Int) ≤ 9223372036854775807 := by have := hr.2.1; omega
  clear hr hp
  go_enter Tryd.func71, Tryd.ntmps71
  go_wp2
  go_loopg [5, 8] xs.length (fun gg _ s8 wr => ∃ kk : Nat, kk ≤ xs.length ∧ xs.length - kk ≤ gg ∧ s8 = .int .i64 kk ∧ Aside0 (Below w.heap.size w wr) ∧ Aside0 ((xs.take kk).any p = false))
  case atStart => exact ⟨0, Nat.zero_le _, by omega, rfl, ⟨Below.refl _ w⟩, ⟨by simp⟩⟩
  case round =>
    obtain ⟨kk, hkk, hg, rfl, BW, A0_⟩ := hrel
    by_cases hlt : kk < xs.length
    · have hltz : (kk : Int) < (xs.length : Int) := by omega
      obtain ⟨ad, A1, c1, ead, hx0, hx1, hf0, hf1⟩ := at_T55 (Kd.C_below HR.out BW.out) (kk : Int) (by omega) hltz
      rw [rdT55_at hlt] at hx0 hx1 hf0 hf1
      have hmem : xs[kk] ∈ xs := List.getElem_mem hlt
      have HT := Aside0.mk (fun h1 => any_take_succ55 (p := p) hlt A0_.out h1)
      have HY := Aside0.mk (fun (h1 : p xs[kk] = true) => List.any_eq_true.2 ⟨xs[kk], hmem, h1⟩)
      generalize xs[kk] = x at *
      have hcall := HP.out wr x A1 c1 BW.out hmem hf0 hf1
      cases ead
      simp only [Int.toNat_natCast] at hx0 hx1
      have hblk := World.block_lt_of_cell? wr _ hx0
      clear hmem hf0 hf1
      cases hq : p x with
      | true =>
        rw [hq] at hcall
        have HQ := Aside0.mk hq
        clear hq
        have HC := Aside0.mk hcall
        clear hcall
        go_wp2_with fail
        refine HC.out.mono ?_
        rintro e w' ⟨rfl, hb'⟩
        clear HC eg hx0 hx1 hblk
        go_wp2_with fail
        go_ret
        exact ⟨kk, rfl, by rw [HY.out HQ.out]; simp, below_then BW.out BW.out.size hb'⟩
      | false =>
        rw [hq] at hcall
        have HQ := Aside0.mk hq
        clear hq
        have HC := Aside0.mk hcall
        clear hcall
        go_wp2_with fail
        refine HC.out.mono ?_
        rintro e w' ⟨rfl, hb'⟩
        clear HC eg hx0 hx1 hblk
        go_wp2_with fail
        go_roundg (xs.length - (kk + 1))
        case measure => omega
        case rel => exact ⟨kk + 1, by omega, by omega, by go_num, ⟨below_then BW.out BW.out.size hb'⟩, ⟨HT.out HQ.out⟩⟩
    · have hltz : ¬ (kk : Int) < (xs.length : Int) := by omega
      have K := Aside0.mk (show kk = xs.length by omega)
      go_wp2
      go_ret
      exact ⟨-1, rfl, by rw [show xs.any p = false from by have := A0_.out; rwa [List.take_of_length_le (by have := K.out; omega)] at this]; rfl, BW.out⟩
theorem contains55_calls (g : Nat) (lb : Array Value) (eg : ∀ args w, (callFunc g args).run Tryd.prog w = .ok (.enter g args) w) (p : S55 → Bool) (A : Option Addr) (c : Nat) (xs : List S55) (w : World)
    (hr : Kd.C k55 w A xs.length xs) (hp : Pred55 g lb p xs w) :
    Calls Tryd.prog 49 #[.slice A xs.length c, .func (.func g) #[] lb] w fun e w' => e = .returned (.bool (xs.any p)) ∧ Below w.heap.size w w' := by
  have hcall := index55_calls g lb eg p A c xs w hr hp
  clear hr hp
  go_enter Tryd.func49, Tryd.ntmps49
  go_wp2_with fail
  refine hcall.mono ?_
  rintro e w' ⟨i, rfl, hi, hb⟩
  have HI := Aside0.mk hi
  clear hcall eg hi
  go_wp2_with fail
  go_ret
  exact ⟨by rw [← HI.out]; rfl, hb⟩

def Pred58 (g : Nat) (lb : Array Value) (p : S58 → Bool) (xs : List S58) (w : World) : Prop :=
  ∀ (W : World) (x : S58) (A0 : Option Addr) (c0 : Nat), Below w.heap.size w W → x ∈ xs → x.f0.length ≤ c0 → k24.C W A0 x.f0.length x.f0 → Calls Tryd.prog g (#[.agg #[.slice A0 x.f0.length c0, .int .u8 x.f1.f0, .int .i64 x.f1.f1, .int .i64 x.f1.f2, .int .i64 x.f1.f3]] ++ lb) W fun e w' => e = .returned (.bool (p x)) ∧ Below W.heap.size W w'
theorem rdT58_at {xs : List S58} {j : Nat} (h : j < xs.length) : rd_T58 xs (j : Int) = xs[j] := by simp [rd_T58, h]
theorem any_take_succ58 {p : S58 → Bool} {xs : List S58} {k : Nat} (h : k < xs.length) (h0 : (xs.take k).any p = false) (h1 : p xs[k] = false) : (xs.take (k + 1)).any p = false := by
  rw [List.take_succ_eq_append_getElem h, List.any_append, h0]
  simpa using h1
set_option maxHeartbeats 2000000 in
theorem index58_calls (g : Nat) (lb : Array Value) (eg : ∀ args w, (callFunc g args).run Tryd.prog w = .ok (.enter g args) w) (p : S58 → Bool) (A : Option Addr) (c : Nat) (xs : List S58) (w : World)
    (hr : Kd.C k58 w A xs.length xs) (hp : Pred58 g lb p xs w) :
    Calls Tryd.prog 93 #[.slice A xs.length c, .func (.func g) #[] lb] w (FoundB (xs.any p) w) := by
  have hut := Tryd.underlying58
  have HR := Aside0.mk hr
  have HP := Aside0.mk hp
  have hbig : (xs.length : Int) ≤ 9223372036854775807 := by have := hr.2.1; omega
  clear hr hp
  go_enter Tryd.func93, Tryd.ntmps93
  go_wp2
  go_loopg [5, 8] xs.length (fun gg _ s8 wr => ∃ kk : Nat, kk ≤ xs.length ∧ xs.length - kk ≤ gg ∧ s8 = .int .i64 kk ∧ Aside0 (Below w.heap.size w wr) ∧ Aside0 ((xs.take kk).any p = false))
  case atStart => exact ⟨0, Nat.zero_le _, by omega, rfl, ⟨Below.refl _ w⟩, ⟨by simp⟩⟩
  case round =>
    obtain ⟨kk, hkk, hg, rfl, BW, A0_⟩ := hrel
    by_cases hlt : kk < xs.length
    · have hltz : (kk : Int) < (xs.length : Int) := by omega
      obtain ⟨ad, A0, c0, ead, hx0, hx1, hx2, hx3, hx4, hf0, hf1⟩ := at_T58 (Kd.C_below HR.out BW.out) (kk : Int) (by omega) hltz
      rw [rdT58_at hlt] at hx0 hx1 hx2 hx3 hx4 hf0 hf1
      have hmem : xs[kk] ∈ xs := List.getElem_mem hlt
      have HT := Aside0.mk (fun h1 => any_take_succ58 (p := p) hlt A0_.out h1)
      have HY := Aside0.mk (fun (h1 : p xs[kk] = true) => List.any_eq_true.2 ⟨xs[kk], hmem, h1⟩)
      generalize xs[kk] = x at *
      have hcall := HP.out wr x A0 c0 BW.out hmem hf0 hf1
      cases ead
      simp only [Int.toNat_natCast] at hx0 hx1 hx2 hx3 hx4
      have hblk := World.block_lt_of_cell? wr _ hx0
      clear hmem hf0 hf1
      cases hq : p x with
      | true =>
        rw [hq] at hcall
        have HQ := Aside0.mk hq
        clear hq
        have HC := Aside0.mk hcall
        clear hcall
        go_wp2_with fail
        refine HC.out.mono ?_
        rintro e w' ⟨rfl, hb'⟩
        clear HC eg hx0 hx1 hx2 hx3 hx4 hblk
        go_wp2_with fail
        go_ret
        exact ⟨kk, rfl, by rw [HY.out HQ.out]; simp, below_then BW.out BW.out.size hb'⟩
      | false =>
        rw [hq] at hcall
        have HQ := Aside0.mk hq
        clear hq
        have HC := Aside0.mk hcall
        clear hcall
        go_wp2_with fail
        refine HC.out.mono ?_
        rintro e w' ⟨rfl, hb'⟩
        clear HC eg hx0 hx1 hx2 hx3 hx4 hblk
        go_wp2_with fail
        go_roundg (xs.length - (kk + 1))
        case measure => omega
        case rel => exact ⟨kk + 1, by omega, by omega, by go_num, ⟨below_then BW.out BW.out.size hb'⟩, ⟨HT.out HQ.out⟩⟩
    · have hltz : ¬ (kk : Int) < (xs.length : Int) := by omega
      have K := Aside0.mk (show kk = xs.length by omega)
      go_wp2
      go_ret
      exact ⟨-1, rfl, by rw [show xs.any p = false from by have := A0_.out; rwa [List.take_of_length_le (by have := K.out; omega)] at this]; rfl, BW.out⟩
theorem contains58_calls (g : Nat) (lb : Array Value) (eg : ∀ args w, (callFunc g args).run Tryd.prog w = .ok (.enter g args) w) (p : S58 → Bool) (A : Option Addr) (c : Nat) (xs : List S58) (w : World)
    (hr : Kd.C k58 w A xs.length xs) (hp : Pred58 g lb p xs w) :
    Calls Tryd.prog 74 #[.slice A xs.length c, .func (.func g) #[] lb] w fun e w' => e = .returned (.bool (xs.any p)) ∧ Below w.heap.size w w' := by
  have hcall := index58_calls g lb eg p A c xs w hr hp
  clear hr hp
  go_enter Tryd.func74, Tryd.ntmps74
  go_wp2_with fail
  refine hcall.mono ?_
  rintro e w' ⟨i, rfl, hi, hb⟩
  have HI := Aside0.mk hi
  clear hcall eg hi
  go_wp2_with fail
  go_ret
  exact ⟨by rw [← HI.out]; rfl, hb⟩

def Pred24 (g : Nat) (lb : Array Value) (p : S24 → Bool) (xs : List S24) (w : World) : Prop :=
  ∀ (W : World) (x : S24) (A5 : Option Addr) (c5 : Nat) (A6 : Option Addr) (c6 : Nat), Below w.heap.size w W → x ∈ xs → x.f5.length ≤ c5 → (Kd.int .i64).C W A5 x.f5.length x.f5 → x.f6.length ≤ c6 → (Kd.int .i64).C W A6 x.f6.length x.f6 → Calls Tryd.prog g (#[.agg #[.int .u8 x.f0, .int .i64 x.f1, .int .i64 x.f2, .int .i64 x.f3, .int .i64 x.f4, .slice A5 x.f5.length c5, .slice A6 x.f6.length c6]] ++ lb) W fun e w' => e = .returned (.bool (p x)) ∧ Below W.heap.size W w'
theorem rdT24_at {xs : List S24} {j : Nat} (h : j < xs.length) : rd_T24 xs (j : Int) = xs[j] := by simp [rd_T24, h]
theorem any_take_succ24 {p : S24 → Bool} {xs : List S24} {k : Nat} (h : k < xs.length) (h0 : (xs.take k).any p = false) (h1 : p xs[k] = false) : (xs.take (k + 1)).any p = false := by
  rw [List.take_succ_eq_append_getElem h, List.any_append, h0]
  simpa using h1
set_option maxHeartbeats 2000000 in
theorem index24_calls (g : Nat) (lb : Array Value) (eg : ∀ args w, (callFunc g args).run Tryd.prog w = .ok (.enter g args) w) (p : S24 → Bool) (A : Option Addr) (c : Nat) (xs : List S24) (w : World)
    (hr : Kd.C k24 w A xs.length xs) (hp : Pred24 g lb p xs w) :
    Calls Tryd.prog 94 #[.slice A xs.length c, .func (.func g) #[] lb] w (FoundB (xs.any p) w) := by
  have hut := Tryd.underlying24
  have HR := Aside0.mk hr
  have HP := Aside0.mk hp
  have hbig : (xs.length : Int) ≤ 9223372036854775807 := by have := hr.2.1; omega
  clear hr hp
  go_enter Tryd.func94, Tryd.ntmps94
  go_wp2
  go_loopg [5, 8] xs.length (fun gg _ s8 wr => ∃ kk : Nat, kk ≤ xs.length ∧ xs.length - kk ≤ gg ∧ s8 = .int .i64 kk ∧ Aside0 (Below w.heap.size w wr) ∧ Aside0 ((xs.take kk).any p = false))
  case atStart => exact ⟨0, Nat.zero_le _, by omega, rfl, ⟨Below.refl _ w⟩, ⟨by simp⟩⟩
  case round =>
    obtain ⟨kk, hkk, hg, rfl, BW, A0_⟩ := hrel
    by_cases hlt : kk < xs.length
    · have hltz : (kk : Int) < (xs.length : Int) := by omega
      obtain ⟨ad, A5, c5, A6, c6, ead, hx0, hx1, hx2, hx3, hx4, hx5, hx6, hf0, hf1, hf2, hf3⟩ := at_T24 (Kd.C_below HR.out BW.out) (kk : Int) (by omega) hltz
      rw [rdT24_at hlt] at hx0 hx1 hx2 hx3 hx4 hx5 hx6 hf0 hf1 hf2 hf3
      have hmem : xs[kk] ∈ xs := List.getElem_mem hlt
      have HT := Aside0.mk (fun h1 => any_take_succ24 (p := p) hlt A0_.out h1)
      have HY := Aside0.mk (fun (h1 : p xs[kk] = true) => List.any_eq_true.2 ⟨xs[kk], hmem, h1⟩)
      generalize xs[kk] = x at *
      have hcall := HP.out wr x A5 c5 A6 c6 BW.out hmem hf0 hf1 hf2 hf3
      cases ead
      simp only [Int.toNat_natCast] at hx0 hx1 hx2 hx3 hx4 hx5 hx6
      have hblk := World.block_lt_of_cell? wr _ hx0
      clear hmem hf0 hf1 hf2 hf3
      cases hq : p x with
      | true =>
        rw [hq] at hcall
        have HQ := Aside0.mk hq
        clear hq
        have HC := Aside0.mk hcall
        clear hcall
        go_wp2_with fail
        refine HC.out.mono ?_
        rintro e w' ⟨rfl, hb'⟩
        clear HC eg hx0 hx1 hx2 hx3 hx4 hx5 hx6 hblk
        go_wp2_with fail
        go_ret
        exact ⟨kk, rfl, by rw [HY.out HQ.out]; simp, below_then BW.out BW.out.size hb'⟩
      | false =>
        rw [hq] at hcall
        have HQ := Aside0.mk hq
        clear hq
        have HC := Aside0.mk hcall
        clear hcall
        go_wp2_with fail
        refine HC.out.mono ?_
        rintro e w' ⟨rfl, hb'⟩
        clear HC eg hx0 hx1 hx2 hx3 hx4 hx5 hx6 hblk
        go_wp2_with fail
        go_roundg (xs.length - (kk + 1))
        case measure => omega
        case rel => exact ⟨kk + 1, by omega, by omega, by go_num, ⟨below_then BW.out BW.out.size hb'⟩, ⟨HT.out HQ.out⟩⟩
    · have hltz : ¬ (kk : Int) < (xs.length : Int) := by omega
      have K := Aside0.mk (show kk = xs.length by omega)
      go_wp2
      go_ret
      exact ⟨-1, rfl, by rw [show xs.any p = false from by have := A0_.out; rwa [List.take_of_length_le (by have := K.out; omega)] at this]; rfl, BW.out⟩
theorem contains24_calls (g : Nat) (lb : Array Value) (eg : ∀ args w, (callFunc g args).run Tryd.prog w = .ok (.enter g args) w) (p : S24 → Bool) (A : Option Addr) (c : Nat) (xs : List S24) (w : World)
    (hr : Kd.C k24 w A xs.length xs) (hp : Pred24 g lb p xs w) :
    Calls Tryd.prog 76 #[.slice A xs.length c, .func (.func g) #[] lb] w fun e w' => e = .returned (.bool (xs.any p)) ∧ Below w.heap.size w w' := by
  have hcall := index24_calls g lb eg p A c xs w hr hp
  clear hr hp
  go_enter Tryd.func76, Tryd.ntmps76
  go_wp2_with fail
  refine hcall.mono ?_
  rintro e w' ⟨i, rfl, hi, hb⟩
  have HI := Aside0.mk hi
  clear hcall eg hi
  go_wp2_with fail
  go_ret
  exact ⟨by rw [← HI.out]; rfl, hb⟩
end Go.Proofs.YtfjmpfecnemoiaaDoor.Q
