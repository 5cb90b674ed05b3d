/-
  The reference's copy of a program, in plain Lean: it is the program.
-/
import Derived.Test.YtfjmpfecnemoiaaDoorQRa
import Derived.Test.YtfjmpfecnemoiaaDoorQy5
namespace Go.Proofs.YtfjmpfecnemoiaaDoor.Q
open Go.RowKit Go.Proofs.YtfjmpfecnemoiaaDoorW.PrintWords Go.Proofs.YtfjmpfecnemoiaaDoorW.PrintLast Go.Proofs.YtfjmpfecnemoiaaDoorW.PrintMore
set_option linter.unusedVariables false
set_option linter.unusedSimpArgs false
set_option linter.unusedSectionVars false

section
variable (L : List S58) (hL : ∀ b ∈ L, small58 b) (h20 : L.length ≤ 20)
include hL h20
theorem twB_l1 (j : Nat) (hj : j < L.length) (out : List S58) (hout : out.length ≤ 20) (R : List S58) (m : Nat) (ho : ∀ k, m ≤ k → fescueref06_TwinBlocks.l0 k L (out ++ [L[j]]) (wrap64 ((j : Int) + 1)) = some R) (d : Nat) :
    ∀ (k i : Nat), i + d = L[j].f0.length → m + d < k → fescueref06_TwinBlocks.l1 k L out (j : Int) (i : Int) (L[j].f0.take i) L[j].f1.f0 L[j].f1.f1 L[j].f1.f2 L[j].f1.f3 = some R := by
  have hb := hL _ (List.getElem_mem hj)
  have hlim := hb.1
  induction d with
  | zero =>
    intro k i hi hk
    obtain ⟨k, rfl⟩ : ∃ q, k = q + 1 := ⟨k - 1, by omega⟩
    rw [fescueref06_TwinBlocks.l1, if_pos (by omega), if_pos (by omega), rdT58_at hj, if_neg (by omega), if_pos (by omega), List.take_of_length_le (show L[j].f0.length ≤ i by omega)]
    exact ho k (by omega)
  | succ d ih =>
    intro k i hi hk
    obtain ⟨k, rfl⟩ : ∃ q, k = q + 1 := ⟨k - 1, by omega⟩
    have hlt : i < L[j].f0.length := by omega
    have hx := hb.2 _ (List.getElem_mem hlt)
    have h5 := hx.1
    have h6 := hx.2
    have hlen := List.length_take_le i L[j].f0
    rw [fescueref06_TwinBlocks.l1, if_pos (by omega), if_pos (by omega), rdT58_at hj, if_pos (by omega), if_pos (by omega), rdT24_at hlt, Option.bind_some, List.length_nil, if_pos (by omega), Option.bind_some, List.length_nil, if_pos (by omega), if_pos (by omega), wrapS (by omega), List.nil_append, List.nil_append, ← ih k (i + 1) (by omega) (by omega), List.take_succ_eq_append_getElem hlt]
theorem twB_l0 (d : Nat) : ∀ (k j : Nat), j + d = L.length → 310 * d < k → fescueref06_TwinBlocks.l0 k L (L.take j) (j : Int) = some L := by
  induction d with
  | zero =>
    intro k j hj hk
    obtain ⟨k, rfl⟩ : ∃ q, k = q + 1 := ⟨k - 1, by omega⟩
    rw [fescueref06_TwinBlocks.l0, if_neg (by omega), List.take_of_length_le (by omega)]
  | succ d ih =>
    intro k j hj hk
    obtain ⟨k, rfl⟩ : ∃ q, k = q + 1 := ⟨k - 1, by omega⟩
    have hlt : j < L.length := by omega
    have hlim := (hL _ (List.getElem_mem hlt)).1
    have hlen := List.length_take_le j L
    have h1 := twB_l1 L hL h20 j hlt (L.take j) (by omega) L (310 * d + 1) (fun k' hk' => by rw [wrapS (by omega), ← List.take_succ_eq_append_getElem hlt]; exact ih k' (j + 1) (by omega) (by omega)) L[j].f0.length k 0 (by omega) (by omega)
    rw [fescueref06_TwinBlocks.l0, if_pos (by omega), if_pos (by omega), rdT58_at hlt]
    exact h1
theorem twB_some (k : Nat) (hk : 6300 ≤ k) : fescueref06_TwinBlocks.f k L = some L := by
  unfold fescueref06_TwinBlocks.f
  exact twB_l0 L hL h20 L.length k 0 (by omega) (by omega)
end
theorem twP_l0 (t : List S78) (fs : List S55) (hM : SmallP t fs) (d : Nat) : ∀ (k i : Nat), i + d = fs.length → 6300 + d < k → fescueref06_Twin.l0 k (i : Int) t fs t (fs.take i) = some (t, fs) := by
  have h10 := hM.fun_
  induction d with
  | zero =>
    intro k i hi hk
    obtain ⟨k, rfl⟩ : ∃ q, k = q + 1 := ⟨k - 1, by omega⟩
    rw [fescueref06_Twin.l0, if_neg (by omega), List.take_of_length_le (by omega)]
  | succ d ih =>
    intro k i hi hk
    obtain ⟨k, rfl⟩ : ∃ q, k = q + 1 := ⟨k - 1, by omega⟩
    have hlt : i < fs.length := by omega
    have hf := hM.all _ (List.getElem_mem hlt)
    have hlen := List.length_take_le i fs
    rw [fescueref06_Twin.l0, if_pos (by omega), if_pos (by omega), rdT55_is hlt, twB_some fs[i].f1 hf.2 hf.1 k (by omega), Option.bind_some, if_pos (by omega), wrapS (by omega), ← ih k (i + 1) (by omega) (by omega), List.take_succ_eq_append_getElem hlt]
theorem twinP_some (t : List S78) (fs : List S55) (hM : SmallP t fs) (k : Nat) (hk : 6320 ≤ k) : fescueref06_Twin.f k t fs = some (t, fs) := by
  have h10 := hM.fun_
  unfold fescueref06_Twin.f
  rw [Twin_some t hM.few k (by omega), Option.bind_some]
  exact twP_l0 t fs hM fs.length k 0 (by omega) (by omega)
end Go.Proofs.YtfjmpfecnemoiaaDoor.Q
