/-
  shape.ins: whether an instruction may be.
-/
import Derived.Test.YtfjmpfecnemoiaaDoorQAll
import Derived.Test.YtfjmpfecnemoiaaDoorQBlk
import Derived.Test.YtfjmpfecnemoiaaDoorQOf
import Derived.Test.YtfjmpfecnemoiaaDoorQx16
namespace Go.Proofs.YtfjmpfecnemoiaaDoor.Q
open Go.RowKit Go.Proofs.YtfjmpfecnemoiaaDoorW.PrintWords Go.Proofs.YtfjmpfecnemoiaaDoorW.PrintLast Go.Proofs.YtfjmpfecnemoiaaDoorW.PrintMore
set_option linter.unusedVariables false
set_option linter.unusedSimpArgs false
set_option maxRecDepth 100000

theorem letsOut_then {K : Act → World → Prop} {Q : Exit → Act → World → Prop} (h : LetsOut (Exit.then K Q)) : LetsOut Q := by
  obtain ⟨a, w, h⟩ := h
  exact ⟨a, w, h⟩
theorem wp_swap {P : Program} {o : Oper} {a : Act} {w : World} {N N' K : Act → World → Prop} {Q : Exit → Act → World → Prop} (h : ∀ a w, N a w → N' a w) (hh : o.wp P a w N (Exit.then K Q)) : o.wp P a w N' Q := by
  unfold Oper.wp at *
  generalize (execOp a.eval o).run P w = r at *
  cases r with
  | ok n w' =>
    cases n <;> simp only [Oper.upon] at hh ⊢ <;>
      first
        | exact h _ _ hh
        | exact Calls.mono hh (fun e w'' he => by cases e <;> first | exact h _ _ he | exact letsOut_then he | exact he)
        | exact Rows.mono hh (fun _ _ he => h _ _ he)
  | halt x w' => cases x <;> simp only [Oper.upon] at hh ⊢ <;> exact hh
theorem wpList_join {P : Program} {ops : Array Oper} {Q : Exit → Act → World → Prop} {K : Act → World → Prop} {l2 : List Oper} (hK : ∀ a w, K a w → wpList P ops Q l2 a w) : ∀ (l1 : List Oper) (a : Act) (w : World), wpList P ops (Exit.then K Q) l1 a w → wpList P ops Q (l1 ++ l2) a w
  | [], a, w, h => hK a w h
  | o :: l1, a, w, h => by
    have ih := wpList_join hK l1
    rw [List.cons_append]
    unfold wpList at h ⊢
    split
    · rename_i hw
      rw [if_pos hw] at h
      rcases h with h | ⟨ha, hl⟩
      · exact .inl (wp_swap ih h)
      · exact .inr ⟨ha, letsOut_then hl⟩
    · rename_i hw
      rw [if_neg hw] at h
      exact ih _ _ h
/-- A region walked in two parts: n operations, then the others from whatever frame and world the relation holds of. -/
theorem wpList_cut {P : Program} {ops : Array Oper} {Q : Exit → Act → World → Prop} {l : List Oper} {a : Act} {w : World} (n : Nat) (R : Act → Act → World → Prop)
    (rest : ∀ a' w', R a a' w' → wpList P ops Q (l.drop n) a' w')
    (first : ∀ (J K' : Act → World → Prop), (∀ a' w', R a a' w' → J a' w') → (∀ a' w', Met J a' w' → K' a' w') → wpList P ops (Exit.then K' Q) (l.take n) a w) : wpList P ops Q l a w := by
  have h := wpList_join (l2 := l.drop n) (K := R a) (Q := Q) (P := P) (ops := ops) (fun a' w' h => rest a' w' h) (l.take n) a w (first (R a) (R a) (fun _ _ q => q) (fun _ _ q => q))
  rwa [List.take_append_drop] at h
theorem eqH (d : Nat) (w : World) (x0 y0 : Bool) (x1 y1 : Bool) (x2 y2 : Bool) (x3 y3 : Bool) (x4 y4 : Bool) (x5 y5 : Bool) :
    (Op.equalIn (d + 2) 65 (.agg #[.bool x0, .bool x1, .bool x2, .bool x3, .bool x4, .bool x5]) (.agg #[.bool y0, .bool y1, .bool y2, .bool y3, .bool y4, .bool y5])).run Tryd.prog w = .ok (x0 == y0 && (x1 == y1 && (x2 == y2 && (x3 == y3 && (x4 == y4 && (x5 == y5)))))) w := by
  refine eqA_of Tryd.underlying65 (by kernel_rfl) ?_
  refine eqf_cons (by rfl) (by go_simp; rfl) (by go_simp; rfl) (by go_simp) ?_
  refine eqf_cons (by rfl) (by go_simp; rfl) (by go_simp; rfl) (by go_simp) ?_
  refine eqf_cons (by rfl) (by go_simp; rfl) (by go_simp; rfl) (by go_simp) ?_
  refine eqf_cons (by rfl) (by go_simp; rfl) (by go_simp; rfl) (by go_simp) ?_
  refine eqf_cons (by rfl) (by go_simp; rfl) (by go_simp; rfl) (by go_simp) ?_
  exact eqf_last (by rfl) (by go_simp; rfl) (by go_simp; rfl) (by go_simp)
/-- Has an operation nothing? -/
def isZ (x0 x1 x2 x3 x4 x5 : Bool) : Bool := (x0 == false && (x1 == false && (x2 == false && (x3 == false && (x4 == false && (x5 == false))))))
theorem eqZ (d : Nat) (w : World) (x0 x1 x2 x3 x4 x5 : Bool) :
    (Op.equalIn (d + 2) 65 (.agg #[.bool x0, .bool x1, .bool x2, .bool x3, .bool x4, .bool x5]) (.agg #[.bool false, .bool false, .bool false, .bool false, .bool false, .bool false])).run Tryd.prog w = .ok (isZ x0 x1 x2 x3 x4 x5) w := eqH d w x0 false x1 false x2 false x3 false x4 false x5 false
attribute [local go_sem high] eqZ

/-- Is a number from 0 on, below another one? -/
def belB (n most : Int) : Bool := decide (0 ≤ n) && decide (n < most)
/-- May an instruction's number be? -/
def numB (op n funcs : Int) : Bool := if op = 3 ∨ op = 18 then belB n funcs else if op = 14 then belB n 8 else true
theorem number_some (k : Nat) (a0 a1 a2 a3 a4 : Int) (l5 l6 : List Int) (s0 s1 s2 s3 : Int) : shape_number.f (k + 1) a0 a1 a2 a3 a4 l5 l6 s0 s1 s2 s3 = some (numB a0 a4 s1) := by
  unfold shape_number.f numB belB
  by_cases h3 : a0 = 3
  · rw [if_pos h3, shape_number.j0, if_pos (Or.inl h3), if_pos (beq_iff_eq.mpr h3)]
    by_cases h : a4 ≥ 0
    · rw [if_pos h, decide_eq_true (show 0 ≤ a4 from h), Bool.true_and]
    · rw [if_neg h, decide_eq_false (show ¬ 0 ≤ a4 from h), Bool.false_and]
  · rw [if_neg h3, shape_number.j0]
    by_cases h18 : a0 = 18
    · rw [if_pos (beq_iff_eq.mpr h18), if_pos (Or.inr h18)]
      by_cases h : a4 ≥ 0
      · rw [if_pos h, decide_eq_true (show 0 ≤ a4 from h), Bool.true_and]
      · rw [if_neg h, decide_eq_false (show ¬ 0 ≤ a4 from h), Bool.false_and]
    · rw [if_neg (fun e => h18 (beq_iff_eq.mp e)), if_neg (show ¬ (a0 = 3 ∨ a0 = 18) by omega)]
      by_cases h14 : a0 = 14
      · rw [if_pos h14, if_pos h14]
        by_cases h : a4 ≥ 0
        · rw [if_pos h, decide_eq_true (show 0 ≤ a4 from h), Bool.true_and]
        · rw [if_neg h, decide_eq_false (show ¬ 0 ≤ a4 from h), Bool.false_and]
      · rw [if_neg h14, if_neg h14]

/-- The pieces of what shape.ins asks, of what an operation's has. -/
def badV (h : Has) (x : S24) (s1 s2 : Int) : Bool := h.1 && !belB x.f2 s2 || h.2.1 && !belB x.f3 s2 || !there s2 x.f5 || !numB x.f0 x.f4 s1
def noneV (h : Has) (x : S24) : Bool := !h.1 && x.f2 != 0 || !h.2.1 && x.f3 != 0 || !h.2.2.1 && x.f4 != 0 || !h.2.2.2.1 && decide (0 < (x.f5.length : Int)) || !h.2.2.2.2.1 && decide (0 < (x.f6.length : Int))
def kindV (h : Has) (x : S24) (s0 : Int) : Bool := h.2.2.2.2.2 && belB x.f1 s0 || !h.2.2.2.2.2 && x.f1 == 0
def tailV (h : Has) (x : S24) (s3 : Int) : Bool := if h.2.2.2.2.1 = true then there s3 x.f6 && (((x.f6.length : Int) == (x.f5.length : Int)) && (decide ((x.f6.length : Int) ≥ 1) && decide ((x.f6.length : Int) ≤ 16))) else decide ((x.f5.length : Int) ≤ 4)
/-- May an instruction be? -/
def insB (s0 s1 s2 s3 : Int) (x : S24) : Bool :=
  rowOf x.f0 != (false, false, false, false, false, false) && (!badV (rowOf x.f0) x s1 s2 && (!noneV (rowOf x.f0) x && (kindV (rowOf x.f0) x s0 && tailV (rowOf x.f0) x s3)))

/-- The function's memory: its two arguments' boxes, what the operation's has. -/
structure InsSt (w : World) (gh : Nat) (x : S24) (A5 : Option Addr) (c5 : Nat) (A6 : Option Addr) (c6 : Nat) (s0 s1 s2 s3 : Int) (h : Has) (W : World) : Prop where
  below : Below w.heap.size w W
  bp : W.heap[w.heap.size]? = some (.cells #[.int .u8 x.f0, .int .i64 x.f1, .int .i64 x.f2, .int .i64 x.f3, .int .i64 x.f4, .slice A5 x.f5.length c5, .slice A6 x.f6.length c6] 24 (0, 0))
  bs : W.heap[w.heap.size + 1]? = some (.cells #[.int .i64 s0, .int .i64 s1, .int .i64 s2, .int .i64 s3] 101 (0, 0))
  bh : W.heap[gh]? = some (.cells #[.bool h.1, .bool h.2.1, .bool h.2.2.1, .bool h.2.2.2.1, .bool h.2.2.2.2.1, .bool h.2.2.2.2.2] 65 (0, 0))
theorem InsSt.step {w W W1 : World} {gh : Nat} {x : S24} {A5 : Option Addr} {c5 : Nat} {A6 : Option Addr} {c6 : Nat} {s0 s1 s2 s3 : Int} {h : Has} (hS : InsSt w gh x A5 c5 A6 c6 s0 s1 s2 s3 h W) (hb : Below W.heap.size W W1) : InsSt w gh x A5 c5 A6 c6 s0 s1 s2 s3 h W1 :=
  ⟨below_then hS.below hS.below.size hb, blk_below hS.bp hb, blk_below hS.bs hb, blk_below hS.bh hb⟩

theorem InsSt.drewN {w W : World} {gh : Nat} {x : S24} {A5 : Option Addr} {c5 : Nat} {A6 : Option Addr} {c6 : Nat} {s0 s1 s2 s3 : Int} {h : Has} (hS : InsSt w gh x A5 c5 A6 c6 s0 s1 s2 s3 h W) (m : Nat) : InsSt w gh x A5 c5 A6 c6 s0 s1 s2 s3 h (W.drewN m) :=
  hS.step (pw_below_drewN (Below.refl _ _) m)

set_option maxHeartbeats 8000000 in
theorem ins_any (x : S24) (A5 : Option Addr) (c5 : Nat) (A6 : Option Addr) (c6 : Nat) (s0 s1 s2 s3 : Int) (h : Has) (w : World) (hr5 : (Kd.int .i64).C w A5 x.f5.length x.f5) (hc5 : x.f5.length ≤ c5) (hr6 : (Kd.int .i64).C w A6 x.f6.length x.f6) (hc6 : x.f6.length ≤ c6)
    (hT : Tab w) (h0 : 0 ≤ x.f0) (h1 : x.f0 < 256) (hrow : rowOf x.f0 = h) (hnz : h ≠ (false, false, false, false, false, false)) :
    Calls Tryd.prog 73 #[.agg #[.int .u8 x.f0, .int .i64 x.f1, .int .i64 x.f2, .int .i64 x.f3, .int .i64 x.f4, .slice A5 x.f5.length c5, .slice A6 x.f6.length c6], .agg #[.int .i64 s0, .int .i64 s1, .int .i64 s2, .int .i64 s3]] w fun e w' => e = .returned (.bool (insB s0 s1 s2 s3 x)) ∧ Below w.heap.size w w' := by
  obtain ⟨t1, t2, t3, t4, t5, t6⟩ := h
  have hu24 := Tryd.underlying24
  have hu101 := Tryd.underlying101
  have hu65 := Tryd.underlying65
  have HOF := Aside0.mk (fun (W : World) (hb : Below w.heap.size w W) => shape_of.calls x.f0 t1 t2 t3 t4 t5 t6 W (Tab_below hT hb) (by unfold shape_of.f; rw [if_pos ⟨h0, h1⟩, hrow]))
  have HBEL := Aside0.mk (fun (a b : Int) (W : World) => shape_below.calls a b (belB a b) W (below_some a b))
  have HALL5 := Aside0.mk (fun (W : World) (hb : Below w.heap.size w W) => shape_all.calls A5 c5 x.f5 s2 _ W (Kd.C_below hr5 hb) hc5 rfl)
  have HALL6 := Aside0.mk (fun (W : World) (hb : Below w.heap.size w W) => shape_all.calls A6 c6 x.f6 s3 _ W (Kd.C_below hr6 hb) hc6 rfl)
  have HNUM := Aside0.mk (fun (W : World) (hb : Below w.heap.size w W) => shape_number.calls 1 x.f0 x.f1 x.f2 x.f3 x.f4 A5 c5 x.f5 A6 c6 x.f6 s0 s1 s2 s3 _ W (Kd.C_below hr5 hb) hc5 (Kd.C_below hr6 hb) hc6 (number_some 0 _ _ _ _ _ _ _ _ _ _ _))
  have HE := Aside0.mk (show insB s0 s1 s2 s3 x = (!badV (t1, t2, t3, t4, t5, t6) x s1 s2 && (!noneV (t1, t2, t3, t4, t5, t6) x && (kindV (t1, t2, t3, t4, t5, t6) x s0 && tailV (t1, t2, t3, t4, t5, t6) x s3))) from by
    unfold insB; rw [hrow, bne_iff_ne.mpr hnz, Bool.true_and])
  have hz : isZ t1 t2 t3 t4 t5 t6 = false := by
    cases t1 <;> cases t2 <;> cases t3 <;> cases t4 <;> cases t5 <;> cases t6 <;> first | rfl | exact absurd rfl hnz
  have HNZ := Aside0.mk hz
  clear hr5 hc5 hr6 hc6 hT h0 h1 hrow hnz hz
  go_enter Tryd.func73, Tryd.ntmps73
  go_wp2_with fail
  refine (HOF.out _ (below_alloc (below_alloc (Below.refl _ _) _) _)).mono ?_
  rintro e w' ⟨rfl, hb⟩
  have HS := Aside0.mk (show InsSt w w'.heap.size x A5 c5 A6 c6 s0 s1 s2 s3 (t1, t2, t3, t4, t5, t6) (w'.alloc (.cells #[.bool t1, .bool t2, .bool t3, .bool t4, .bool t5, .bool t6] 65)) from by
    have hb0 := below_then (below_alloc (below_alloc (Below.refl w.heap.size w) (.cells #[.int .u8 x.f0, .int .i64 x.f1, .int .i64 x.f2, .int .i64 x.f3, .int .i64 x.f4, .slice A5 x.f5.length c5, .slice A6 x.f6.length c6] 24)) (.cells #[.int .i64 s0, .int .i64 s1, .int .i64 s2, .int .i64 s3] 101)) (by simp; omega) hb
    have h2 := blk_below (blk_new (w.alloc (.cells #[.int .u8 x.f0, .int .i64 x.f1, .int .i64 x.f2, .int .i64 x.f3, .int .i64 x.f4, .slice A5 x.f5.length c5, .slice A6 x.f6.length c6] 24)) (.cells #[.int .i64 s0, .int .i64 s1, .int .i64 s2, .int .i64 s3] 101)) hb
    rw [show (w.alloc (.cells #[.int .u8 x.f0, .int .i64 x.f1, .int .i64 x.f2, .int .i64 x.f3, .int .i64 x.f4, .slice A5 x.f5.length c5, .slice A6 x.f6.length c6] 24)).heap.size = w.heap.size + 1 from by simp] at h2
    exact ⟨below_alloc hb0 _, blk_alloc (blk_below (blk_alloc (blk_new w _) _) hb) _, blk_alloc h2 _, blk_new w' _⟩)
  clear hb HOF
  go_upto_region 2 with fail
  generalize w'.alloc (.cells #[.bool t1, .bool t2, .bool t3, .bool t4, .bool t5, .bool t6] 65) = W at *
  generalize w'.heap.size = gh at *
  go_cut [0, 51] (fun _ s51 wx => ∃ q, s51 = .bool q ∧ Aside0 (q = badV (t1, t2, t3, t4, t5, t6) x s1 s2) ∧ Aside0 (InsSt w gh x A5 c5 A6 c6 s0 s1 s2 s3 (t1, t2, t3, t4, t5, t6) wx))
  case first => as_aux_lemma =>
    obtain ⟨p0, p1, p2, p3, p4, p5, p6, -⟩ := blk7 HS.out.bp
    obtain ⟨q0, q1, q2, q3, -⟩ := blk4 HS.out.bs
    obtain ⟨e0, e1, e2, e3, e4, e5, -⟩ := blk6 HS.out.bh
    have hz := HNZ.out
    go_wp2_with (first | (go_at_call 43; refine (HBEL.out _ _ _).mono ?_; rintro e w' ⟨rfl, ⟨m, rfl⟩⟩) | (go_at_call 91; refine (HALL5.out _ (by first | exact HS.out.below | exact (HS.out.drewN _).below)).mono ?_; rintro e w2 ⟨rfl, hb⟩; have HS2 := Aside0.mk (show InsSt w gh x A5 c5 A6 c6 s0 s1 s2 s3 (t1, t2, t3, t4, t5, t6) w2 from by first | exact HS.out.step hb | exact (HS.out.drewN _).step hb); clear hb p0 p1 p2 p3 p4 p5 p6 q0 q1 q2 q3 e0 e1 e2 e3 e4 e5; obtain ⟨p0, p1, p2, p3, p4, p5, p6, -⟩ := blk7 HS2.out.bp; obtain ⟨q0, q1, q2, q3, -⟩ := blk4 HS2.out.bs) | (go_at_call 92; refine (HNUM.out _ HS2.out.below).mono ?_; rintro e w3 ⟨rfl, hb⟩; have HS3 := Aside0.mk (HS2.out.step hb); clear hb))
    all_goals
      go_meet
      refine ⟨_, rfl, ⟨?_⟩, ⟨?_⟩⟩
      · simp [badV, *]
      · first | exact HS3.out | exact HS2.out | exact HS.out.drewN _
  case rest =>
    obtain ⟨q, rfl, HQ, HS⟩ := hcut
    clear HALL5 HNUM HNZ
    obtain ⟨p0, p1, p2, p3, p4, p5, p6, -⟩ := blk7 HS.out.bp
    obtain ⟨q0, q1, q2, q3, -⟩ := blk4 HS.out.bs
    obtain ⟨e0, e1, e2, e3, e4, e5, -⟩ := blk6 HS.out.bh
    cases q
    · go_upto_region 4 with fail
      go_cut [0, 6] (fun _ s6 wx => ∃ q, s6 = .bool q ∧ Aside0 (q = noneV (t1, t2, t3, t4, t5, t6) x) ∧ wx = wc)
      case first =>
        generalize hn5 : x.f5.length = n5 at p5
        generalize hn6 : x.f6.length = n6 at p6
        have HN5 := Aside0.mk hn5
        have HN6 := Aside0.mk hn6
        clear hn5 hn6 p0 p1 q0 q1 q2 q3 e5 HBEL HALL6
        refine wp_region_lit ?_
        refine wpList_cut 9 (fun a1 a2 w1 => wc = w1 ∧ ∃ u52 u53 u54 u55 u56 u57 u58 u59 q1, a2 = (((((((((a1.put (some 52) u52).put (some 53) u53).put (some 54) u54).put (some 55) u55).put (some 56) u56).put (some 57) u57).put (some 58) u58).put (some 59) u59).put (some 60) (.bool q1)) ∧ Aside0 (q1 = (!t1 && x.f2 != 0))) ?_ ?_
        · rintro a1 w1 ⟨rfl, u52, u53, u54, u55, u56, u57, u58, u59, q1, rfl, Hq1⟩
          simp only [Act.put, List.setIfInBounds_toArray, List.set_cons_zero, List.set_cons_succ, List.drop_succ_cons, List.drop_zero]
          refine wpList_cut 10 (fun a1 a2 w1 => wc = w1 ∧ ∃ u61 u62 u63 u64 u65 u66 u67 u68 u69 q2, a2 = ((((((((((a1.put (some 61) u61).put (some 62) u62).put (some 63) u63).put (some 64) u64).put (some 65) u65).put (some 66) u66).put (some 67) u67).put (some 68) u68).put (some 69) u69).put (some 70) (.bool q2)) ∧ Aside0 (q2 = (q1 || !t2 && x.f3 != 0))) ?_ ?_
          · rintro a1 w1 ⟨rfl, u61, u62, u63, u64, u65, u66, u67, u68, u69, q2, rfl, Hq2⟩
            simp only [Act.put, List.setIfInBounds_toArray, List.set_cons_zero, List.set_cons_succ, List.drop_succ_cons, List.drop_zero]
            refine wpList_cut 10 (fun a1 a2 w1 => wc = w1 ∧ ∃ u71 u72 u73 u74 u75 u76 u77 u78 u79 q3, a2 = ((((((((((a1.put (some 71) u71).put (some 72) u72).put (some 73) u73).put (some 74) u74).put (some 75) u75).put (some 76) u76).put (some 77) u77).put (some 78) u78).put (some 79) u79).put (some 80) (.bool q3)) ∧ Aside0 (q3 = (q2 || !t3 && x.f4 != 0))) ?_ ?_
            · rintro a1 w1 ⟨rfl, u71, u72, u73, u74, u75, u76, u77, u78, u79, q3, rfl, Hq3⟩
              simp only [Act.put, List.setIfInBounds_toArray, List.set_cons_zero, List.set_cons_succ, List.drop_succ_cons, List.drop_zero]
              refine wpList_cut 11 (fun a1 a2 w1 => wc = w1 ∧ ∃ u81 u82 u83 u84 u85 u86 u87 u88 u89 u90 q4, a2 = (((((((((((a1.put (some 81) u81).put (some 82) u82).put (some 83) u83).put (some 84) u84).put (some 85) u85).put (some 86) u86).put (some 87) u87).put (some 88) u88).put (some 89) u89).put (some 90) u90).put (some 91) (.bool q4)) ∧ Aside0 (q4 = (q3 || !t4 && decide (0 < (n5 : Int))))) ?_ ?_
              · rintro a1 w1 ⟨rfl, u81, u82, u83, u84, u85, u86, u87, u88, u89, u90, q4, rfl, Hq4⟩
                simp only [Act.put, List.setIfInBounds_toArray, List.set_cons_zero, List.set_cons_succ, List.drop_succ_cons, List.drop_zero]
                have HV := Aside0.mk (show noneV (t1, t2, t3, t4, t5, t6) x = (q4 || !t5 && decide (0 < (n6 : Int))) from by rw [Hq4.out, Hq3.out, Hq2.out, Hq1.out]; simp only [noneV, HN5.out, HN6.out])
                clear Hq1 Hq2 Hq3 Hq4
                cases q4
                all_goals as_aux_lemma =>
                  go_wp2_with fail
                  all_goals
                    go_meet
                    refine ⟨_, rfl, ⟨?_⟩, rfl⟩
                    rw [HV.out]
                    simp [*] <;> omega
              · intro J K' hJ hK
                clear Hq1 Hq2 Hq3
                cases q3
                all_goals as_aux_lemma =>
                  simp only [List.take_succ_cons, List.take_zero]
                  go_wp2_with fail
                  all_goals
                    refine Met.intro (hJ _ _ ?_)
                    refine ⟨rfl, ?_⟩
                    (repeat apply Exists.intro)
                    refine ⟨?frm, ⟨?val⟩⟩
                    case frm =>
                      simp only [Act.put, List.setIfInBounds_toArray, List.set_cons_zero, List.set_cons_succ]
                      rfl
                    case val => simp [*] <;> omega
            · intro J K' hJ hK
              clear Hq1 Hq2
              cases q2
              all_goals as_aux_lemma =>
                simp only [List.take_succ_cons, List.take_zero]
                go_wp2_with fail
                all_goals
                  refine Met.intro (hJ _ _ ?_)
                  refine ⟨rfl, ?_⟩
                  (repeat apply Exists.intro)
                  refine ⟨?frm, ⟨?val⟩⟩
                  case frm =>
                    simp only [Act.put, List.setIfInBounds_toArray, List.set_cons_zero, List.set_cons_succ]
                    rfl
                  case val => simp [*] <;> omega
          · intro J K' hJ hK
            clear Hq1
            cases q1
            all_goals as_aux_lemma =>
              simp only [List.take_succ_cons, List.take_zero]
              go_wp2_with fail
              all_goals
                refine Met.intro (hJ _ _ ?_)
                refine ⟨rfl, ?_⟩
                (repeat apply Exists.intro)
                refine ⟨?frm, ⟨?val⟩⟩
                case frm =>
                  simp only [Act.put, List.setIfInBounds_toArray, List.set_cons_zero, List.set_cons_succ]
                  rfl
                case val => simp [*] <;> omega
        · intro J K' hJ hK
          all_goals as_aux_lemma =>
            simp only [List.take_succ_cons, List.take_zero]
            go_wp2_with fail
            all_goals
              refine Met.intro (hJ _ _ ?_)
              refine ⟨rfl, ?_⟩
              (repeat apply Exists.intro)
              refine ⟨?frm, ⟨?val⟩⟩
              case frm =>
                simp only [Act.put, List.setIfInBounds_toArray, List.set_cons_zero, List.set_cons_succ]
                rfl
              case val => simp [*] <;> omega
      case rest =>
        obtain ⟨q6, rfl, HQ6, rfl⟩ := hcut
        go_upto_region 5 with fail
        go_cut [0, 7] (fun _ s7 wx => ∃ q, s7 = .bool q ∧ Aside0 (q = kindV (t1, t2, t3, t4, t5, t6) x s0) ∧ ∃ m, wx = wc.drewN m)
        case first =>
          go_wp2_with (first | (go_at_call 43; refine (HBEL.out _ _ _).mono ?_; rintro e w' ⟨rfl, ⟨m, rfl⟩⟩))
          all_goals
            go_meet
            refine ⟨_, rfl, ⟨?_⟩, ?_⟩
            · simp [kindV, *]
            · first | exact ⟨_, rfl⟩ | exact ⟨0, rfl⟩
        case rest =>
          obtain ⟨q7, rfl, HQ7, m, rfl⟩ := hcut
          have HW := Aside0.mk (HS.out.drewN m)
          go_upto_region 6 with fail
          cases q6
          · cases q7
            · cases t5
              all_goals
                go_wp2_with fail
                go_ret
                exact ⟨by rw [HE.out, ← HQ.out, ← HQ6.out, ← HQ7.out]; rfl, HW.out.below⟩
            · cases t5
              · go_wp2_with fail
                go_ret
                exact ⟨by rw [HE.out, ← HQ.out, ← HQ6.out, ← HQ7.out]; simp [tailV], HW.out.below⟩
              · go_wp2_with (first | (go_at_call 91; refine (HALL6.out _ HW.out.below).mono ?_; rintro e w2 ⟨rfl, hb⟩; have HS2 := Aside0.mk (HW.out.step hb); clear hb p0 p1 p2 p3 p4 p5 p6 q0 q1 q2 q3 e0 e1 e2 e3 e4 e5; obtain ⟨p0, p1, p2, p3, p4, p5, p6, -⟩ := blk7 HS2.out.bp))
                all_goals
                  go_ret
                  exact ⟨by rw [HE.out, ← HQ.out, ← HQ6.out, ← HQ7.out]; (simp [tailV, *] <;> omega), HS2.out.below⟩
          · cases t5
            all_goals
              go_wp2_with fail
              go_ret
              exact ⟨by rw [HE.out, ← HQ.out, ← HQ6.out]; rfl, HW.out.below⟩
    · go_wp2_with fail
      go_ret
      exact ⟨by rw [HE.out, ← HQ.out]; rfl, HS.out.below⟩
end Go.Proofs.YtfjmpfecnemoiaaDoor.Q
