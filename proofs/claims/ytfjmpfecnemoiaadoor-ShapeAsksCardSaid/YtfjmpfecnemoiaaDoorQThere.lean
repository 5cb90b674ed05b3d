/-
  types.there, slices.ContainsFunc and slices.IndexFunc at whole numbers: what they answer, whatever the predicate that is handed in (a function value that only makes memory of its own).
-/
import Derived.Test.YtfjmpfecnemoiaaDoorQx0
import Derived.Shelf.Abstract
namespace Go.Proofs.YtfjmpfecnemoiaaDoor.Q
open Go.RowKit Go.Proofs.YtfjmpfecnemoiaaDoorW.PrintWords Go.Proofs.YtfjmpfecnemoiaaDoorW.PrintLast Go.Proofs.YtfjmpfecnemoiaaDoorW.PrintMore
set_option linter.unusedVariables false
set_option linter.unusedSimpArgs false

/-- An index, or a number below 0: whether there is one. -/
def Found (xs : List Int) (p : Int → Bool) (w : World) (e : Ending) (w' : World) : Prop := ∃ i : Int, e = .returned (.int .i64 i) ∧ decide (0 ≤ i) = xs.any p ∧ Below w.heap.size w w'

/-- A function value that tells of numbers, and only makes memory of its own. -/
def Pred (g : Nat) (lb : Array Value) (p : Int → Bool) (xs : List Int) (w : World) : Prop :=
  ∀ (W : World) (x : Int), Below w.heap.size w W → x ∈ xs → Calls Tryd.prog g (#[.int .i64 x] ++ lb) W fun e w' => e = .returned (.bool (p x)) ∧ Below W.heap.size W w'

theorem any_take_succ {p : Int → Bool} {xs : List Int} {k : Nat} (h : k < xs.length) (h0 : (xs.take k).any p = false) (h1 : p (rd xs k) = false) : (xs.take (k + 1)).any p = false := by
  rw [List.take_succ_eq_append_getElem h, List.any_append, h0]
  simpa [rd, h] using h1
theorem any_hit {p : Int → Bool} {xs : List Int} {k : Nat} (h : k < xs.length) (h1 : p (rd xs k) = true) : xs.any p = true :=
  List.any_eq_true.2 ⟨xs[k], List.getElem_mem h, by simpa [rd, h] using h1⟩

set_option maxHeartbeats 2000000 in
theorem indexFunc_calls (g : Nat) (lb : Array Value) (eg : ∀ args w, (callFunc g args).run Tryd.prog w = .ok (.enter g args) w) (p : Int → Bool) (A : Option Addr) (c : Nat) (xs : List Int) (w : World)
    (hr : Kd.C (Kd.int .i64) w A xs.length xs) (hp : Pred g lb p xs w) :
    Calls Tryd.prog 100 #[.slice A xs.length c, .func (.func g) #[] lb] w (Found xs p w) := by
  have HR := Aside0.mk hr
  have HP := Aside0.mk hp
  have hbig : (xs.length : Int) ≤ 9223372036854775807 := by have := hr.2.1; omega
  clear hr hp
  go_enter Tryd.func100, Tryd.ntmps100
  go_wp2
  go_loopg [5, 8] xs.length (fun gg _ s8 wr => ∃ kk : Nat, kk ≤ xs.length ∧ xs.length - kk ≤ gg ∧ s8 = .int .i64 kk ∧ Aside0 (Below w.heap.size w wr) ∧ Aside0 ((xs.take kk).any p = false))
  case atStart => exact ⟨0, Nat.zero_le _, by omega, rfl, ⟨Below.refl _ w⟩, ⟨by simp⟩⟩
  case round =>
    obtain ⟨kk, hkk, hg, rfl, BW, A0⟩ := hrel
    by_cases hlt : kk < xs.length
    · have hltz : (kk : Int) < (xs.length : Int) := by omega
      obtain ⟨ad, ead, hx⟩ := Kd.at_int (Kd.C_below HR.out BW.out) (kk : Int) (by omega) hltz
      have hcall := HP.out wr (rd xs kk) BW.out (by simp [rd, hlt])
      cases ead
      rw [Int.toNat_natCast] at hx
      cases hq : p (rd xs kk) with
      | true =>
        rw [hq] at hcall
        have HQ := Aside0.mk hq
        clear hq
        go_wp2_with fail
        refine hcall.mono ?_
        rintro e w' ⟨rfl, hb'⟩
        clear hcall eg hx
        go_wp2_with fail
        go_ret
        exact ⟨kk, rfl, by rw [any_hit hlt HQ.out]; simp, below_then BW.out BW.out.size hb'⟩
      | false =>
        rw [hq] at hcall
        have HQ := Aside0.mk hq
        clear hq
        go_wp2_with fail
        refine hcall.mono ?_
        rintro e w' ⟨rfl, hb'⟩
        clear hcall eg hx
        go_wp2_with fail
        go_roundg (xs.length - (kk + 1))
        case measure => omega
        case rel => exact ⟨kk + 1, by omega, by omega, by go_num, ⟨below_then BW.out BW.out.size hb'⟩, ⟨any_take_succ hlt A0.out HQ.out⟩⟩
    · have hltz : ¬ (kk : Int) < (xs.length : Int) := by omega
      have K := Aside0.mk (show kk = xs.length by omega)
      go_wp2
      go_ret
      exact ⟨-1, rfl, by rw [show xs.any p = false from by have := A0.out; rwa [List.take_of_length_le (by have := K.out; omega)] at this]; rfl, BW.out⟩

theorem containsFunc_calls (g : Nat) (lb : Array Value) (eg : ∀ args w, (callFunc g args).run Tryd.prog w = .ok (.enter g args) w) (p : Int → Bool) (A : Option Addr) (c : Nat) (xs : List Int) (w : World)
    (hr : Kd.C (Kd.int .i64) w A xs.length xs) (hp : Pred g lb p xs w) :
    Calls Tryd.prog 87 #[.slice A xs.length c, .func (.func g) #[] lb] w fun e w' => e = .returned (.bool (xs.any p)) ∧ Below w.heap.size w w' := by
  have hcall := indexFunc_calls g lb eg p A c xs w hr hp
  clear hr hp
  go_enter Tryd.func87, Tryd.ntmps87
  go_wp2_with fail
  refine hcall.mono ?_
  rintro e w' ⟨i, rfl, hi, hb⟩
  have HI := Aside0.mk hi
  clear hcall eg hi
  go_wp2_with fail
  go_ret
  exact ⟨by rw [← HI.out]; rfl, hb⟩

theorem there1_calls (most x : Int) (b : Nat) (W : World) (hc : W.cell? ⟨b, 0, none⟩ = some (.int .i64 most)) :
    Calls Tryd.prog 99 #[.int .i64 x, .pointer (some ⟨b, 0, none⟩)] W fun e w' => e = .returned (.bool (decide (x < 0) || decide (x ≥ most))) ∧ Below W.heap.size W w' := by
  by_cases h : x < 0
  · have h1 : decide (x < 0) = true := by simpa using h
    go_enter Tryd.func99, Tryd.ntmps99
    go_wp2_with fail
    go_ret
    exact ⟨by simp [h], Below.refl _ _⟩
  · have h1 : decide (x < 0) = false := by simpa using h
    go_enter Tryd.func99, Tryd.ntmps99
    go_wp2_with fail
    go_ret
    exact ⟨by simp [h], Below.refl _ _⟩

/-- Whether all are numbers from 0 on, below another one. -/
def there (most : Int) (l : List Int) : Bool := l.all fun n => decide (0 ≤ n) && decide (n < most)
theorem there_any (most : Int) (l : List Int) : (!l.any fun n => decide (n < 0) || decide (n ≥ most)) = there most l := by
  unfold there
  induction l with
  | nil => rfl
  | cons a l ih =>
    rw [List.any_cons, List.all_cons, Bool.not_or, ih]
    congr 1
    by_cases h1 : a < 0 <;> by_cases h2 : a ≥ most <;> simp [h1, h2] <;> omega

theorem there_calls0 (most : Int) (A : Option Addr) (c : Nat) (xs : List Int) (w : World) (hr : Kd.C (Kd.int .i64) w A xs.length xs) :
    Calls Tryd.prog 86 #[.int .i64 most, .slice A xs.length c] w fun e w' => e = .returned (.bool (there most xs)) ∧ Below w.heap.size w w' := by
  have hcall := fun (W : World) (B : Nat) (hb : Below w.heap.size w W) (hB : B < W.heap.size) (hc : W.cell? ⟨B, 0, none⟩ = some (.int .i64 most)) =>
    containsFunc_calls 99 #[.pointer (some ⟨B, 0, none⟩)] (enters_of Tryd.func99 (by kernel_rfl) rfl) (fun n => decide (n < 0) || decide (n ≥ most)) A c xs W (Kd.C_below hr hb)
      (fun W' x hb' _ => there1_calls most x B W' ((hb'.cell (p := ⟨B, 0, none⟩) hB).trans hc))
  have HCALL := Aside0.mk hcall
  clear hr hcall
  go_enter Tryd.func86, Tryd.ntmps86
  go_wp2_with fail
  refine (HCALL.out _ w.heap.size ((Below.refl _ _).alloc (Nat.le_refl _) _) (by simp) (by simp)).mono ?_
  rintro e w' ⟨rfl, hb⟩
  clear HCALL
  go_wp2_with fail
  go_ret
  exact ⟨congrArg (fun b => Ending.returned (.bool b)) (there_any most xs), below_then ((Below.refl _ _).alloc (Nat.le_refl _) _) (by simp) hb⟩

def types_there.f (a0 : Int) (l1 : List Int) : Option Bool := some (there a0 l1)
theorem types_there.calls (a0 : Int) (A1 : Option Addr) (c1 : Nat) (l1 : List Int) (r : Bool) (w : World) (hr1 : Kd.C (Kd.int .i64) w A1 l1.length l1) (hc1 : l1.length ≤ c1) (h : types_there.f a0 l1 = some r) :
    Calls Tryd.prog 86 #[.int .i64 a0, .slice A1 l1.length c1] w fun e w' => e = .returned (.bool r) ∧ Below w.heap.size w w' := by
  obtain rfl := Option.some.inj h
  exact there_calls0 a0 A1 c1 l1 w hr1
end Go.Proofs.YtfjmpfecnemoiaaDoor.Q
