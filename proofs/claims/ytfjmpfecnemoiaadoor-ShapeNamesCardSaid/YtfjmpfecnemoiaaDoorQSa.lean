/-
  Programs as data, in plain Lean: what Great, Check, Regs, Place and Reg answer.
-/
import Derived.Test.YtfjmpfecnemoiaaDoorQTh
import Derived.Test.YtfjmpfecnemoiaaDoorQCheck
import Derived.Test.YtfjmpfecnemoiaaDoorQx4
namespace Go.Proofs.YtfjmpfecnemoiaaDoor.Q
open Go.RowKit Go.Proofs.YtfjmpfecnemoiaaDoorW.PrintWords Go.Proofs.YtfjmpfecnemoiaaDoorW.PrintLast Go.Proofs.YtfjmpfecnemoiaaDoorW.PrintMore
set_option linter.unusedVariables false
set_option linter.unusedSimpArgs false
set_option linter.unusedSectionVars false

/-- With enough rounds, one answer; 'no' tells P. -/
def Tells (g : Nat → Option Bool) (P : Prop) : Prop := ∃ (K : Nat) (b : Bool), (∀ k, K ≤ k → g k = some b) ∧ (b = false → P)
theorem Tells.step {g g' : Nat → Option Bool} {P P' : Prop} (h : Tells g P) (hs : ∀ k, g' (k + 1) = g k) (hp : P → P') : Tells g' P' := by
  obtain ⟨K, b, hk, hb⟩ := h
  refine ⟨K + 1, b, fun k hk' => ?_, fun e => hp (hb e)⟩
  obtain ⟨k, rfl⟩ : ∃ m, k = m + 1 := ⟨k - 1, by omega⟩
  rw [hs, hk k (by omega)]
theorem Tells.yes {g : Nat → Option Bool} {P : Prop} (hs : ∀ k, g (k + 1) = some true) : Tells g P := by
  refine ⟨1, true, fun k hk => ?_, fun e => by cases e⟩
  obtain ⟨k, rfl⟩ : ∃ m, k = m + 1 := ⟨k - 1, by omega⟩
  exact hs k
def small24 (x : S24) : Prop := x.f5.length ≤ 20 ∧ x.f6.length ≤ 20
def small58 (b : S58) : Prop := b.f0.length ≤ 300 ∧ ∀ x ∈ b.f0, small24 x
def small55 (f : S55) : Prop := f.f1.length ≤ 20 ∧ ∀ b ∈ f.f1, small58 b
/-- No more than statements go through. -/
structure SmallP (t : List S78) (fs : List S55) : Prop where
  few : Few t
  fun_ : fs.length ≤ 10
  all : ∀ f ∈ fs, small55 f
abbrev reach : Nat := 140737488351232
def sane24 (x : S24) : Prop := (0 ≤ x.f0 ∧ x.f0 < 256) ∧ x.f5.length ≤ reach ∧ x.f6.length ≤ reach
def sane58 (b : S58) : Prop := b.f0.length ≤ reach ∧ ∀ x ∈ b.f0, sane24 x
def sane55 (f : S55) : Prop := f.f1.length ≤ reach ∧ ∀ b ∈ f.f1, sane58 b
def SaneP (fs : List S55) : Prop := fs.length ≤ reach ∧ ∀ f ∈ fs, sane55 f

theorem rdT55_is {fs : List S55} {i : Nat} (h : i < fs.length) : rd_T55 fs (i : Int) = fs[i] := rdT55_at h
theorem wrapS {n : Nat} (h : n < 4611686018427387904) : wrap64 ((n : Int) + 1) = ((n + 1 : Nat) : Int) := by unfold wrap64; omega

theorem gr_l2 (t : List S78) (fs : List S55) (n i j : Int) (L : List S24) (hL : L.length ≤ reach) (P : Prop) (h1 : Tells (fun k => fescueref06_Great.l1 k 300 n i (wrap64 (j + 1)) t fs) P) (d : Nat) :
    ∀ a : Nat, a + d = L.length → Tells (fun k => fescueref06_Great.l2 k 300 n i j L (a : Int) t fs) (P ∧ ∀ x ∈ L.drop a, small24 x) := by
  induction d with
  | zero =>
    intro a ha
    refine h1.step (fun k => ?_) (fun hp => ⟨hp, fun x hx => by rw [List.drop_eq_nil_of_le (by omega)] at hx; cases hx⟩)
    rw [fescueref06_Great.l2, if_neg (by omega)]
  | succ d ih =>
    intro a ha
    have hlt : a < L.length := by omega
    by_cases c1 : (((rd_T24 L (a : Int)).f5).length : Int) > 20
    · exact Tells.yes (fun k => by rw [fescueref06_Great.l2, if_pos (by omega), if_pos (by omega), if_pos c1])
    · by_cases c2 : (((rd_T24 L (a : Int)).f6).length : Int) > 20
      · exact Tells.yes (fun k => by rw [fescueref06_Great.l2, if_pos (by omega), if_pos (by omega), if_neg c1, if_pos c2])
      · refine (ih (a + 1) (by omega)).step (fun k => ?_) (fun hp => ⟨hp.1, fun x hx => ?_⟩)
        · rw [fescueref06_Great.l2, if_pos (by omega), if_pos (by omega), if_neg c1, if_neg c2, wrapS (by unfold reach at hL; omega)]
        · rw [List.drop_eq_getElem_cons hlt] at hx
          rcases List.mem_cons.1 hx with rfl | hx
          · rw [rdT24_at hlt] at c1 c2
            exact ⟨by omega, by omega⟩
          · exact hp.2 x hx
theorem gr_l1 (t : List S78) (fs : List S55) (i : Nat) (hi : i < fs.length) (hB : sane55 fs[i]) (P : Prop) (h0 : ∀ n : Nat, n ≤ 300 → Tells (fun k => fescueref06_Great.l0 k 300 (n : Int) (wrap64 ((i : Int) + 1)) t fs) P) (d : Nat) :
    ∀ (j n : Nat), j + d = fs[i].f1.length → n ≤ 300 → Tells (fun k => fescueref06_Great.l1 k 300 (n : Int) (i : Int) (j : Int) t fs) (P ∧ ∀ b ∈ fs[i].f1.drop j, small58 b) := by
  induction d with
  | zero =>
    intro j n hj hn
    refine (h0 n hn).step (fun k => ?_) (fun hp => ⟨hp, fun x hx => by rw [List.drop_eq_nil_of_le (by omega)] at hx; cases hx⟩)
    rw [fescueref06_Great.l1, rdT55_is hi, if_pos (by omega), if_pos (by omega), if_neg (by omega)]
  | succ d ih =>
    intro j n hj hn
    have hlt : j < fs[i].f1.length := by omega
    have hb := hB.2 _ (List.getElem_mem hlt)
    have hw : wrap64 ((n : Int) + (fs[i].f1[j].f0.length : Int)) = ((n + fs[i].f1[j].f0.length : Nat) : Int) := by
      have := hb.1
      unfold reach at this
      unfold wrap64
      omega
    by_cases c1 : ((n + fs[i].f1[j].f0.length : Nat) : Int) > 300
    · exact Tells.yes (fun k => by rw [fescueref06_Great.l1, rdT55_is hi, rdT58_at hlt, if_pos (by omega), if_pos (by omega), if_pos (by omega), if_pos (by omega), hw, if_pos c1])
    · have hlim := hB.1
      unfold reach at hlim
      have h2 := gr_l2 t fs ((n + fs[i].f1[j].f0.length : Nat) : Int) (i : Int) (j : Int) fs[i].f1[j].f0 hb.1 _ (by rw [wrapS (by omega)]; exact ih (j + 1) _ (by omega) (by omega)) fs[i].f1[j].f0.length 0 (by omega)
      refine h2.step (fun k => ?_) (fun hp => ⟨hp.1.1, fun b hb' => ?_⟩)
      · rw [fescueref06_Great.l1, rdT55_is hi, rdT58_at hlt, if_pos (by omega), if_pos (by omega), if_pos (by omega), if_pos (by omega), hw, if_neg c1]
        rfl
      · rw [List.drop_eq_getElem_cons hlt] at hb'
        rcases List.mem_cons.1 hb' with rfl | hb'
        · exact ⟨by omega, fun x hx => hp.2 x (by rwa [List.drop_zero])⟩
        · exact hp.1.2 b hb'
theorem gr_l0 (t : List S78) (fs : List S55) (hS : SaneP fs) (d : Nat) : ∀ (i n : Nat), i + d = fs.length → n ≤ 300 → Tells (fun k => fescueref06_Great.l0 k 300 (n : Int) (i : Int) t fs) (∀ f ∈ fs.drop i, small55 f) := by
  induction d with
  | zero =>
    intro i n hi hn
    refine ⟨1, false, fun k hk => ?_, fun _ x hx => by rw [List.drop_eq_nil_of_le (by omega)] at hx; cases hx⟩
    obtain ⟨k, rfl⟩ : ∃ m, k = m + 1 := ⟨k - 1, by omega⟩
    dsimp only
    rw [fescueref06_Great.l0, if_neg (by omega)]
  | succ d ih =>
    intro i n hi hn
    have hlt : i < fs.length := by omega
    have hlim := hS.1
    unfold reach at hlim
    by_cases c1 : (fs[i].f1.length : Int) > 20
    · exact Tells.yes (fun k => by rw [fescueref06_Great.l0, rdT55_is hlt, if_pos (by omega), if_pos (by omega), if_pos c1])
    · have h1 := gr_l1 t fs i hlt (hS.2 _ (List.getElem_mem hlt)) _ (fun n' hn' => by rw [wrapS (by omega)]; exact ih (i + 1) n' (by omega) hn') fs[i].f1.length 0 n (by omega) hn
      refine h1.step (fun k => ?_) (fun hp f hf => ?_)
      · rw [fescueref06_Great.l0, rdT55_is hlt, if_pos (by omega), if_pos (by omega), if_neg c1]
        rfl
      · rw [List.drop_eq_getElem_cons hlt] at hf
        rcases List.mem_cons.1 hf with rfl | hf
        · exact ⟨by omega, fun b hb => hp.2 b (by rwa [List.drop_zero])⟩
        · exact hp.1 f hf
theorem greatP_some (t : List S78) (fs : List S55) (hS : SaneP fs) : Tells (fun k => fescueref06_Great.f k t fs 300) (SmallP t fs) := by
  obtain ⟨K, b, hk, hb⟩ := gr_l0 t fs hS fs.length 0 0 (by omega) (by omega)
  have hg : ∀ k, 62 ≤ k → fescueref03_Great.f k t = fescueref03_Great.f 62 t := fun k hk => by
    obtain ⟨b0, hb0, _⟩ := great_some t 62 (by omega)
    rw [hb0]
    exact at_rounds (fun k => fescueref03_Great.mono t k) hk hb0
  obtain ⟨b0, hb0, hF⟩ := great_some t 62 (by omega)
  cases b0
  · by_cases c : fs.length > 10
    · refine ⟨63, true, fun k hk => ?_, fun e => by cases e⟩
      obtain ⟨k, rfl⟩ : ∃ m, k = m + 1 := ⟨k - 1, by omega⟩
      dsimp only
      rw [fescueref06_Great.f, hg _ (by omega), hb0, Option.bind_some, if_neg (by simp), decide_eq_true (by omega), fescueref06_Great.j0, if_pos rfl]
    · refine ⟨K + 63, b, fun k hk' => ?_, fun e => ⟨hF rfl, by omega, fun f hf => hb e f (by rwa [List.drop_zero])⟩⟩
      obtain ⟨k, rfl⟩ : ∃ m, k = m + 1 := ⟨k - 1, by omega⟩
      dsimp only
      rw [fescueref06_Great.f, hg _ (by omega), hb0, Option.bind_some, if_neg (by simp), decide_eq_false (by omega), fescueref06_Great.j0, if_neg (by simp)]
      exact hk k (by omega)
  · refine ⟨63, true, fun k hk => ?_, fun e => by cases e⟩
    obtain ⟨k, rfl⟩ : ∃ m, k = m + 1 := ⟨k - 1, by omega⟩
    dsimp only
    rw [fescueref06_Great.f, hg _ (by omega), hb0, Option.bind_some, if_pos rfl, fescueref06_Great.j0, if_pos rfl]

/-! ### what is asked of a program -/
theorem wrapNat {n : Nat} (h : n < 4611686018427387904) : wrap64 (n : Int) = (n : Int) := by unfold wrap64; omega
/-- How many instructions there are. -/
def cnt (L : List S58) : Nat := (L.map fun b => b.f0.length).sum
theorem cnt_cons (b : S58) (L : List S58) : cnt (b :: L) = b.f0.length + cnt L := rfl
theorem cnt_le (L : List S58) (h : ∀ b ∈ L, small58 b) : cnt L ≤ 300 * L.length := by
  induction L with
  | nil => exact Nat.zero_le _
  | cons b L ih =>
    have h1 := (h b List.mem_cons_self).1
    have h2 := ih (fun x hx => h x (List.mem_cons_of_mem _ hx))
    rw [cnt_cons, List.length_cons]
    omega
theorem many_fold (L : List S58) : ∀ (a : Nat), (∀ b ∈ L, small58 b) → a + 300 * L.length < 4611686018427387904 → L.foldl (fun a b => wrap64 (a + (b.f0.length : Int))) (a : Int) = ((a + cnt L : Nat) : Int) := by
  induction L with
  | nil => intro a _ _; rfl
  | cons b L ih =>
    intro a h ha
    have h1 := (h b List.mem_cons_self).1
    rw [List.length_cons] at ha
    rw [List.foldl_cons, show wrap64 ((a : Int) + (b.f0.length : Int)) = ((a + b.f0.length : Nat) : Int) from by unfold wrap64; omega, ih _ (fun x hx => h x (List.mem_cons_of_mem _ hx)) (by omega), cnt_cons]
    congr 1
    omega
theorem manyW_is (L : List S58) (h : ∀ b ∈ L, small58 b) (hl : L.length ≤ 20) : manyW L = (cnt L : Int) := by
  unfold manyW
  have := many_fold L 0 h (by omega)
  simpa using this
theorem many_cnt (f0 : Int) (L : List S58) (h : ∀ b ∈ L, small58 b) (hl : L.length ≤ 20) (k : Nat) (hk : 24 ≤ k) : shape_many.f k f0 L = some (cnt L : Int) := by
  rw [many_some f0 L (by omega) k (by omega), manyW_is L h hl]
theorem cnt_take_le (L : List S58) (j : Nat) : cnt (L.take j) ≤ cnt L := by
  induction L generalizing j with
  | nil => simp [cnt]
  | cons b L ih =>
    cases j with
    | zero => exact Nat.zero_le _
    | succ j =>
      have := ih j
      rw [List.take_succ_cons, cnt_cons, cnt_cons]
      omega
theorem cnt_take_succ (L : List S58) (j : Nat) (h : j < L.length) : cnt (L.take (j + 1)) = cnt (L.take j) + L[j].f0.length := by
  unfold cnt
  rw [List.take_succ_eq_append_getElem h, List.map_append, List.sum_append]
  simp
theorem cnt_mono (L : List S58) {i j : Nat} (h : i ≤ j) (hj : j ≤ L.length) : cnt (L.take i) ≤ cnt (L.take j) := by
  have := cnt_take_le (L.take j) i
  rwa [List.take_take, Nat.min_eq_left h] at this

theorem saneOps {fs : List S55} (h : SaneP fs) : fs.all opsOk = true := by
  refine List.all_eq_true.2 (fun f hf => ?_)
  unfold opsOk
  refine List.all_eq_true.2 (fun b hb => List.all_eq_true.2 (fun x hx => ?_))
  have := (((h.2 f hf).2 b hb).2 x hx).1
  rw [Bool.and_eq_true, decide_eq_true_eq, decide_eq_true_eq]
  exact this
/-- What shape.Check answers. -/
def chkP (t : List S78) (fs : List S55) : Int := chkV (chk t) t fs
theorem checkP_some (t : List S78) (fs : List S55) (hS : SaneP fs) (hF : Few t) (k : Nat) (hk : 24 ≤ k) : shape_Check.f k t fs = some (chkP t fs) := by
  unfold shape_Check.f
  rw [if_pos (saneOps hS), Check_some t hF k hk, Option.bind_some]
  rfl
theorem chkP_sig {t : List S78} {fs : List S55} (h : chkP t fs = 0) {i : Nat} (hi : i < fs.length) : 0 ≤ fs[i].f0 ∧ fs[i].f0 < t.length := by
  unfold chkP chkV at h
  by_cases h0 : chk t = 0
  · rw [if_pos h0] at h
    by_cases hf : funcsB t fs = true
    · unfold funcsB at hf
      rw [Bool.and_eq_true] at hf
      have := List.all_eq_true.1 hf.2 fs[i] (List.getElem_mem hi)
      unfold funcB fnHead at this
      simp only [Bool.and_eq_true, decide_eq_true_eq] at this
      exact this.1.1
    · rw [if_neg hf] at h
      cases h
  · rw [if_neg h0] at h
    exact absurd h h0
/-- How many parameters the function of a number has; how many registers. -/
def parN (t : List S78) (f : S55) : Nat := (rd_T78 t f.f0).f3.length
def regN (t : List S78) (f : S55) : Nat := parN t f + cnt f.f1
theorem parN_le {t : List S78} {f : S55} (hF : Few t) (h : 0 ≤ f.f0 ∧ f.f0 < t.length) : parN t f ≤ 20 := by
  have := hF.2 f.f0.toNat (by omega)
  rwa [Int.toNat_of_nonneg h.1] at this
end Go.Proofs.YtfjmpfecnemoiaaDoor.Q
