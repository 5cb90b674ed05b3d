/-
  Programs as data, in plain Lean: what Regs, Place and Reg answer.
-/
import Derived.Test.YtfjmpfecnemoiaaDoorQSa
import Derived.Test.YtfjmpfecnemoiaaDoorQx22
namespace Go.Proofs.YtfjmpfecnemoiaaDoor.Q
open Go.RowKit Go.Proofs.YtfjmpfecnemoiaaDoorW.PrintWords Go.Proofs.YtfjmpfecnemoiaaDoorW.PrintLast Go.Proofs.YtfjmpfecnemoiaaDoorW.PrintMore
set_option linter.unusedVariables false
set_option linter.unusedSimpArgs false
set_option linter.unusedSectionVars false

theorem askedP_no (t : List S78) (fs : List S55) (hS : SaneP fs) (hF : Few t) (i : Int) (h : ¬ (chkP t fs = 0 ∧ 0 ≤ i ∧ i < fs.length)) (k : Nat) (hk : 24 ≤ k) : shape_asked.f k t fs i = some (0, if chkP t fs = 0 then 2 else chkP t fs) := by
  unfold shape_asked.f
  rw [checkP_some t fs hS hF k hk, Option.bind_some, below_some, Option.bind_some]
  by_cases h0 : chkP t fs = 0
  · rw [if_pos h0, if_pos h0, if_neg]
    rw [Bool.and_eq_true, decide_eq_true_eq, decide_eq_true_eq]
    exact fun hi => h ⟨h0, hi⟩
  · rw [if_neg h0, if_neg h0]
theorem askedP_yes (t : List S78) (fs : List S55) (hS : SaneP fs) (hF : Few t) (h0 : chkP t fs = 0) (i : Nat) (hi : i < fs.length) (k : Nat) (hk : 24 ≤ k) : shape_asked.f k t fs (i : Int) = some ((parN t fs[i] : Int), 0) := by
  have hs := chkP_sig h0 hi
  unfold shape_asked.f
  rw [checkP_some t fs hS hF k hk, Option.bind_some, below_some, Option.bind_some, if_pos h0, rdT55_is hi, decide_eq_true (show (0 : Int) ≤ i by omega), decide_eq_true (show (i : Int) < fs.length by omega), Bool.and_self, if_pos rfl, if_pos (by omega), if_pos (by omega), if_pos hs.1, if_pos hs.2]
  rfl
theorem regsP_no (t : List S78) (fs : List S55) (hS : SaneP fs) (hF : Few t) (i : Int) (h : ¬ (chkP t fs = 0 ∧ 0 ≤ i ∧ i < fs.length)) (k : Nat) (hk : 24 ≤ k) : shape_Regs.f k t fs i = some (0, if chkP t fs = 0 then 2 else chkP t fs) := by
  unfold shape_Regs.f
  rw [askedP_no t fs hS hF i h k hk, Option.bind_some]
  dsimp only
  by_cases h0 : chkP t fs = 0
  · rw [if_pos h0, if_neg (by decide)]
  · rw [if_neg h0, if_neg h0]
section
variable {t : List S78} {fs : List S55} (hS : SaneP fs) (hM : SmallP t fs) (h0 : chkP t fs = 0) (i : Nat) (hi : i < fs.length)
include hS hM h0
theorem reg_le : regN t fs[i] ≤ 6020 := by
  have h1 := parN_le hM.few (chkP_sig h0 hi)
  have hb := hM.all _ (List.getElem_mem hi)
  have h2 := cnt_le fs[i].f1 hb.2
  have h3 := hb.1
  unfold regN
  omega
theorem regsP_yes (k : Nat) (hk : 24 ≤ k) : shape_Regs.f k t fs (i : Int) = some ((regN t fs[i] : Int), 0) := by
  have hb := hM.all _ (List.getElem_mem hi)
  have hr := reg_le hS hM h0 i hi
  unfold shape_Regs.f
  rw [askedP_yes t fs hS hM.few h0 i hi k hk, Option.bind_some]
  dsimp only
  rw [if_pos rfl, if_pos (by omega), if_pos (by omega), rdT55_is hi, many_cnt _ _ hb.2 hb.1 k hk, Option.bind_some]
  congr 2
  unfold regN at *
  unfold wrap64
  omega
/-- Where the instruction of a number stands: behind so many others. -/
theorem place_l0 (d : Nat) : ∀ (b q k : Nat), b + d = fs[i].f1.length → cnt (fs[i].f1.take b) + q < cnt fs[i].f1 → d < k →
    ∃ b' a : Nat, shape_Place.l0 k (i : Int) (b : Int) (q : Int) t fs = some ((b' : Int), (a : Int), 0) ∧ ∃ hb : b' < fs[i].f1.length, a < (fs[i].f1[b']'hb).f0.length ∧ cnt (fs[i].f1.take b') + a = cnt (fs[i].f1.take b) + q := by
  have hsm := hM.all _ (List.getElem_mem hi)
  induction d with
  | zero =>
    intro b q k hb hq hk
    rw [List.take_of_length_le (by omega)] at hq
    omega
  | succ d ih =>
    intro b q k hb hq hk
    obtain ⟨k, rfl⟩ : ∃ m, k = m + 1 := ⟨k - 1, by omega⟩
    have hlt : b < fs[i].f1.length := by omega
    have hl := (hsm.2 _ (List.getElem_mem hlt)).1
    have hs := cnt_take_succ fs[i].f1 b hlt
    have h20 := hsm.1
    have hcl := cnt_le fs[i].f1 hsm.2
    rw [shape_Place.l0, if_pos (by omega), if_pos (by omega), rdT55_is hi, if_pos (by omega), if_pos (by omega), rdT58_at hlt]
    by_cases hge : fs[i].f1[b].f0.length ≤ q
    · rw [if_pos (by omega), wrapS (by omega), show wrap64 ((q : Int) - (fs[i].f1[b].f0.length : Int)) = ((q - fs[i].f1[b].f0.length : Nat) : Int) from by unfold wrap64; omega]
      obtain ⟨b', a, he, hb', ha, hc⟩ := ih (b + 1) (q - fs[i].f1[b].f0.length) k (by omega) (by omega) (by omega)
      exact ⟨b', a, he, hb', ha, by omega⟩
    · rw [if_neg (by omega)]
      exact ⟨b, q, rfl, hlt, by omega, rfl⟩
theorem placeP_far (r : Int) (h : ¬ (0 ≤ r ∧ r < regN t fs[i])) (k : Nat) (hk : 24 ≤ k) : shape_Place.f k t fs (i : Int) r = some (0, 0, 2) := by
  have hb := hM.all _ (List.getElem_mem hi)
  have hr := reg_le hS hM h0 i hi
  unfold shape_Place.f
  rw [askedP_yes t fs hS hM.few h0 i hi k hk, Option.bind_some]
  dsimp only
  rw [if_pos rfl, if_pos (by omega), if_pos (by omega), rdT55_is hi, many_cnt _ _ hb.2 hb.1 k hk, Option.bind_some, below_some, Option.bind_some, show wrap64 ((parN t fs[i] : Int) + (cnt fs[i].f1 : Int)) = (regN t fs[i] : Int) from by unfold regN at *; unfold wrap64; omega, if_neg]
  rw [Bool.and_eq_true, decide_eq_true_eq, decide_eq_true_eq]
  exact h
theorem placeP_par (r : Nat) (h : r < parN t fs[i]) (k : Nat) (hk : 24 ≤ k) : shape_Place.f k t fs (i : Int) (r : Int) = some (-1, (r : Int), 0) := by
  have hb := hM.all _ (List.getElem_mem hi)
  have hr := reg_le hS hM h0 i hi
  unfold shape_Place.f
  rw [askedP_yes t fs hS hM.few h0 i hi k hk, Option.bind_some]
  dsimp only
  rw [if_pos rfl, if_pos (by omega), if_pos (by omega), rdT55_is hi, many_cnt _ _ hb.2 hb.1 k hk, Option.bind_some, below_some, Option.bind_some, show wrap64 ((parN t fs[i] : Int) + (cnt fs[i].f1 : Int)) = (regN t fs[i] : Int) from by unfold regN at *; unfold wrap64; omega,
    decide_eq_true (show (0 : Int) ≤ r by omega), decide_eq_true (show (r : Int) < regN t fs[i] by unfold regN; omega), Bool.and_self, if_pos rfl, if_pos (by omega)]
theorem placeP_at (r : Nat) (h : parN t fs[i] ≤ r) (h' : r < regN t fs[i]) (k : Nat) (hk : 24 ≤ k) :
    ∃ b a : Nat, shape_Place.f k t fs (i : Int) (r : Int) = some ((b : Int), (a : Int), 0) ∧ ∃ hb : b < fs[i].f1.length, a < (fs[i].f1[b]'hb).f0.length ∧ parN t fs[i] + cnt (fs[i].f1.take b) + a = r := by
  have hb := hM.all _ (List.getElem_mem hi)
  have hr := reg_le hS hM h0 i hi
  obtain ⟨b, a, he, hbl, ha, hc⟩ := place_l0 hS hM h0 i hi fs[i].f1.length 0 (r - parN t fs[i]) k (by omega) (by unfold regN at h'; simp [cnt] at *; omega) (by have := hb.1; omega)
  refine ⟨b, a, ?_, hbl, ha, by simp [cnt] at hc ⊢; omega⟩
  unfold shape_Place.f
  rw [askedP_yes t fs hS hM.few h0 i hi k hk, Option.bind_some]
  dsimp only
  rw [if_pos rfl, if_pos (by omega), if_pos (by omega), rdT55_is hi, many_cnt _ _ hb.2 hb.1 k hk, Option.bind_some, below_some, Option.bind_some, show wrap64 ((parN t fs[i] : Int) + (cnt fs[i].f1 : Int)) = (regN t fs[i] : Int) from by unfold regN at *; unfold wrap64; omega,
    decide_eq_true (show (0 : Int) ≤ r by omega), decide_eq_true (show (r : Int) < regN t fs[i] by omega), Bool.and_self, if_pos rfl, if_neg (by omega), show wrap64 ((r : Int) - (parN t fs[i] : Int)) = ((r - parN t fs[i] : Nat) : Int) from by unfold wrap64; omega]
  exact he
theorem regP_at (b a : Nat) (hb : b < fs[i].f1.length) (ha : a < (fs[i].f1[b]'hb).f0.length) (k : Nat) (hk : 24 ≤ k) : shape_Reg.f k t fs (i : Int) (b : Int) (a : Int) = some (((parN t fs[i] + cnt (fs[i].f1.take b) + a : Nat) : Int), 0) := by
  have hsm := hM.all _ (List.getElem_mem hi)
  have hr := reg_le hS hM h0 i hi
  have hc := cnt_take_le fs[i].f1 b
  have hl := (hsm.2 _ (List.getElem_mem hb)).1
  unfold regN at hr
  have hm := many_cnt 0 (fs[i].f1.take b) (fun x hx => hsm.2 x (List.mem_of_mem_take hx)) (by have := hsm.1; have := List.length_take_le b fs[i].f1; have := hsm.1; rw [List.length_take]; omega) k hk
  have e1 : decide ((0 : Int) ≤ (b : Int)) = true := decide_eq_true (by omega)
  have e2 : decide ((b : Int) < (fs[i].f1.length : Int)) = true := decide_eq_true (by omega)
  have e3 : decide ((0 : Int) ≤ (a : Int)) = true := decide_eq_true (by omega)
  have e4 : decide ((a : Int) < ((fs[i].f1[b]'hb).f0.length : Int)) = true := decide_eq_true (by omega)
  have i0 : (0 : Int) ≤ (i : Int) := by omega
  have i1 : (i : Int) < (fs.length : Int) := by omega
  have b0 : (0 : Int) ≤ (b : Int) := by omega
  have b1 : (b : Int) < (fs[i].f1.length : Int) := by omega
  have b2 : (b : Int) ≤ (fs[i].f1.length : Int) := by omega
  have hw : wrap64 (wrap64 ((parN t fs[i] : Int) + (cnt (fs[i].f1.take b) : Int)) + (a : Int)) = ((parN t fs[i] + cnt (fs[i].f1.take b) + a : Nat) : Int) := by
    rw [← Int.natCast_add, wrapNat (by omega), ← Int.natCast_add, wrapNat (by omega)]
  unfold shape_Reg.f
  rw [askedP_yes t fs hS hM.few h0 i hi k hk, Option.bind_some]
  dsimp only
  rw [if_pos rfl, if_pos i0, if_pos i1, below_some, Option.bind_some, rdT55_is hi, e1, e2, Bool.and_self, if_pos rfl, if_pos b0, if_pos b1, below_some, Option.bind_some, rdT58_at hb, e3, e4, Bool.and_self, if_pos rfl, if_pos b2, Int.toNat_natCast, hm, Option.bind_some, hw]
end
/-- From register to register: the next instruction, or the first one of a later block. -/
theorem next_place (L : List S58) (b a b2 a2 : Nat) (hb : b < L.length) (ha : a < (L[b]'hb).f0.length) (hb2 : b2 < L.length) (ha2 : a2 < (L[b2]'hb2).f0.length) (h : cnt (L.take b2) + a2 = cnt (L.take b) + a + 1) : (b2 = b ∧ a2 = a + 1) ∨ (b < b2 ∧ a2 = 0) := by
  have s1 := cnt_take_succ L b hb
  have s2 := cnt_take_succ L b2 hb2
  rcases Nat.lt_trichotomy b2 b with hlt | rfl | hgt
  · have := cnt_mono L (show b2 + 1 ≤ b by omega) (by omega)
    omega
  · exact .inl ⟨rfl, by omega⟩
  · have := cnt_mono L (show b + 1 ≤ b2 by omega) (by omega)
    exact .inr ⟨hgt, by omega⟩
end Go.Proofs.YtfjmpfecnemoiaaDoor.Q
