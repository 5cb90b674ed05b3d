/-
  shape.function at every function whose operations are bytes; shape.Check.
-/
import Derived.Test.YtfjmpfecnemoiaaDoorQIn
import Derived.Test.YtfjmpfecnemoiaaDoorQFnB
import Derived.Test.YtfjmpfecnemoiaaDoorQx21
namespace Go.Proofs.YtfjmpfecnemoiaaDoor.Q
open Go.RowKit Go.Proofs.YtfjmpfecnemoiaaDoorW.PrintWords Go.Proofs.YtfjmpfecnemoiaaDoorW.PrintLast Go.Proofs.YtfjmpfecnemoiaaDoorW.PrintMore
set_option linter.unusedVariables false
set_option linter.unusedSimpArgs false
set_option maxRecDepth 100000

section
attribute [local go_sem high] eqH

set_option maxHeartbeats 2000000 in
theorem ins_none (x : S24) (A5 : Option Addr) (c5 : Nat) (A6 : Option Addr) (c6 : Nat) (s0 s1 s2 s3 : Int) (w : World) (hT : Tab w) (h0 : 0 ≤ x.f0) (h1 : x.f0 < 256) (hrow : rowOf x.f0 = (false, false, false, false, false, false)) :
    Calls Tryd.prog 73 #[.agg #[.int .u8 x.f0, .int .i64 x.f1, .int .i64 x.f2, .int .i64 x.f3, .int .i64 x.f4, .slice A5 x.f5.length c5, .slice A6 x.f6.length c6], .agg #[.int .i64 s0, .int .i64 s1, .int .i64 s2, .int .i64 s3]] w fun e w' => e = .returned (.bool (insB s0 s1 s2 s3 x)) ∧ Below w.heap.size w w' := by
  have hu24 := Tryd.underlying24
  have hu101 := Tryd.underlying101
  have hu65 := Tryd.underlying65
  have HOF := Aside0.mk (fun (W : World) (hb : Below w.heap.size w W) => shape_of.calls x.f0 false false false false false false W (Tab_below hT hb) (by unfold shape_of.f; rw [if_pos ⟨h0, h1⟩, hrow]))
  have HE := Aside0.mk (show insB s0 s1 s2 s3 x = false from by unfold insB; rw [hrow]; rfl)
  clear hT h0 h1 hrow
  go_enter Tryd.func73, Tryd.ntmps73
  go_wp2_with fail
  refine (HOF.out _ (below_alloc (below_alloc (Below.refl _ _) _) _)).mono ?_
  rintro e w' ⟨rfl, hb⟩
  have HB := Aside0.mk (below_then (below_alloc (below_alloc (Below.refl w.heap.size w) _) _) (by simp; omega) hb)
  clear hb HOF
  go_wp2_with fail
  go_ret
  exact ⟨by rw [HE.out]; rfl, below_alloc HB.out _⟩
theorem ins_calls (x : S24) (A5 : Option Addr) (c5 : Nat) (A6 : Option Addr) (c6 : Nat) (s0 s1 s2 s3 : Int) (w : World) (hr5 : (Kd.int .i64).C w A5 x.f5.length x.f5) (hc5 : x.f5.length ≤ c5) (hr6 : (Kd.int .i64).C w A6 x.f6.length x.f6) (hc6 : x.f6.length ≤ c6)
    (hT : Tab w) (h0 : 0 ≤ x.f0) (h1 : x.f0 < 256) :
    Calls Tryd.prog 73 #[.agg #[.int .u8 x.f0, .int .i64 x.f1, .int .i64 x.f2, .int .i64 x.f3, .int .i64 x.f4, .slice A5 x.f5.length c5, .slice A6 x.f6.length c6], .agg #[.int .i64 s0, .int .i64 s1, .int .i64 s2, .int .i64 s3]] w fun e w' => e = .returned (.bool (insB s0 s1 s2 s3 x)) ∧ Below w.heap.size w w' := by
  by_cases h : rowOf x.f0 = (false, false, false, false, false, false)
  · exact ins_none x A5 c5 A6 c6 s0 s1 s2 s3 w hT h0 h1 h
  · exact ins_any x A5 c5 A6 c6 s0 s1 s2 s3 _ w hr5 hc5 hr6 hc6 hT h0 h1 rfl h

set_option maxHeartbeats 1000000 in
theorem odd_calls (b : Nat) (s0 s1 s2 s3 : Int) (x : S24) (A5 : Option Addr) (c5 : Nat) (A6 : Option Addr) (c6 : Nat) (W : World) (d0 : W.cell? ⟨b, 0, none⟩ = some (.int .i64 s0)) (d1 : W.cell? ⟨b, 1, none⟩ = some (.int .i64 s1)) (d2 : W.cell? ⟨b, 2, none⟩ = some (.int .i64 s2)) (d3 : W.cell? ⟨b, 3, none⟩ = some (.int .i64 s3))
    (hT : Tab W) (h0 : 0 ≤ x.f0) (h1 : x.f0 < 256) (hc5 : x.f5.length ≤ c5) (hr5 : (Kd.int .i64).C W A5 x.f5.length x.f5) (hc6 : x.f6.length ≤ c6) (hr6 : (Kd.int .i64).C W A6 x.f6.length x.f6) :
    Calls Tryd.prog 72 #[.agg #[.int .u8 x.f0, .int .i64 x.f1, .int .i64 x.f2, .int .i64 x.f3, .int .i64 x.f4, .slice A5 x.f5.length c5, .slice A6 x.f6.length c6], .pointer (some ⟨b, 0, none⟩)] W fun e w' => e = .returned (.bool (!insB s0 s1 s2 s3 x)) ∧ Below W.heap.size W w' := by
  have hu24 := Tryd.underlying24
  have hu101 := Tryd.underlying101
  have hins := fun (W' : World) (hb : Below W.heap.size W W') => ins_calls x A5 c5 A6 c6 s0 s1 s2 s3 W' (Kd.C_below hr5 hb) hc5 (Kd.C_below hr6 hb) hc6 (Tab_below hT hb) h0 h1
  have HINS := Aside0.mk hins
  have hblk := World.block_lt_of_cell? W _ d0
  cases hq : insB s0 s1 s2 s3 x
  all_goals
    have HQ := Aside0.mk hq
    clear hq hins hT hr5 hr6 hc5 hc6 h0 h1
    go_enter Tryd.func72, Tryd.ntmps72
    go_wp2_with fail
    refine (HINS.out _ (below_alloc (Below.refl _ _) _)).mono ?_
    rw [HQ.out]
    rintro e w' ⟨rfl, hb⟩
    clear HINS
    have HB := Aside0.mk (below_then (below_alloc (Below.refl _ _) _) (by simp) hb)
    clear hb d0 d1 d2 d3 hblk
    go_wp2_with fail
    go_ret
    exact ⟨rfl, HB.out⟩
end

/-- Every operation is a byte. -/
def opsOk (f : S55) : Bool := f.f1.all fun y => y.f0.all fun x => decide (0 ≤ x.f0) && decide (x.f0 < 256)
/-- May a function be? -/
def funcB (t : List S78) (lf : Nat) (f : S55) : Bool := fnHead t f && !f.f1.any fun y => y.f0.any (fun x => !insB (t.length : Int) (lf : Int) (regsW t f) (f.f1.length : Int) x) || !endB (t.length : Int) (lf : Int) (regsW t f) (f.f1.length : Int) y.f1
theorem fn_calls (At : Option Addr) (ct : Nat) (t : List S78) (Af : Option Addr) (lf cf : Nat) (f : S55) (A1 : Option Addr) (c1 : Nat) (w : World) (hrt : Kd.C k78 w At t.length t) (hr1 : k58.C w A1 f.f1.length f.f1) (hc1 : f.f1.length ≤ c1) (hT : Tab w) (hops : opsOk f = true) :
    Calls Tryd.prog 51 #[.agg #[.slice At t.length ct, .slice Af lf cf], .agg #[.int .i64 f.f0, .slice A1 f.f1.length c1]] w fun e w' => e = .returned (.bool (funcB t lf f)) ∧ Below w.heap.size w w' := by
  cases hh : fnHead t f
  · have e : funcB t lf f = false := by unfold funcB; rw [hh]; rfl
    rw [e]
    exact fn_head At ct t Af lf cf f A1 c1 w hrt hr1 hc1 hh
  · have e : funcB t lf f = !f.f1.any fun y => y.f0.any (fun x => !insB (t.length : Int) (lf : Int) (regsW t f) (f.f1.length : Int) x) || !endB (t.length : Int) (lf : Int) (regsW t f) (f.f1.length : Int) y.f1 := by unfold funcB; rw [hh]; rfl
    rw [e]
    refine fn_body At ct t Af lf cf f A1 c1 w hrt hr1 hc1 hh (fun x => !insB (t.length : Int) (lf : Int) (regsW t f) (f.f1.length : Int) x) ?_
    intro W bs hb hbs y hy W' x A5 c5 A6 c6 hb' hm h5 r5 h6 r6
    obtain ⟨d0, d1, d2, d3, -⟩ := blk4 (blk_below hbs hb')
    have ho : (decide (0 ≤ x.f0) && decide (x.f0 < 256)) = true := by
      unfold opsOk at hops
      exact List.all_eq_true.1 (List.all_eq_true.1 hops y hy) x hm
    rw [Bool.and_eq_true, decide_eq_true_eq, decide_eq_true_eq] at ho
    exact odd_calls bs _ _ _ _ x A5 c5 A6 c6 W' d0 d1 d2 d3 (Tab_below (Tab_below hT hb) hb') ho.1 ho.2 h5 r5 h6 r6

set_option maxHeartbeats 1000000 in
theorem check1_calls (bp : Nat) (At : Option Addr) (ct : Nat) (t : List S78) (Af : Option Addr) (lf cf : Nat) (f : S55) (A1 : Option Addr) (c1 : Nat) (W : World) (e0 : W.cell? ⟨bp, 0, none⟩ = some (.slice At t.length ct)) (e1 : W.cell? ⟨bp, 1, none⟩ = some (.slice Af lf cf)) (hrt : Kd.C k78 W At t.length t) (hr1 : k58.C W A1 f.f1.length f.f1) (hc1 : f.f1.length ≤ c1) (hT : Tab W) (hops : opsOk f = true) :
    Calls Tryd.prog 50 #[.agg #[.int .i64 f.f0, .slice A1 f.f1.length c1], .pointer (some ⟨bp, 0, none⟩)] W fun e w' => e = .returned (.bool (!funcB t lf f)) ∧ Below W.heap.size W w' := by
  have hu35 := Tryd.underlying35
  have hu55 := Tryd.underlying55
  have HF := Aside0.mk (fun (W' : World) (hb : Below W.heap.size W W') => fn_calls At ct t Af lf cf f A1 c1 W' (Kd.C_below hrt hb) (Kd.C_below hr1 hb) hc1 (Tab_below hT hb) hops)
  have hblk := World.block_lt_of_cell? W _ e0
  cases hq : funcB t lf f
  all_goals
    have HQ := Aside0.mk hq
    clear hq hrt hr1 hc1 hT hops
    go_enter Tryd.func50, Tryd.ntmps50
    go_wp2_with fail
    refine (HF.out _ (below_alloc (Below.refl _ _) _)).mono ?_
    rw [HQ.out]
    rintro e w' ⟨rfl, hb⟩
    have HB := Aside0.mk (below_then (below_alloc (Below.refl W.heap.size W) _) (by simp) hb)
    clear hb HF e0 e1 hblk
    go_wp2_with fail
    go_ret
    exact ⟨rfl, HB.out⟩

theorem all_not_any {α : Type} (p : α → Bool) (l : List α) : l.all p = !(l.any fun x => !p x) := by
  induction l with
  | nil => rfl
  | cons a l ih =>
    rw [List.all_cons, List.any_cons, ih]
    cases p a <;> simp
/-- Whether a program's functions may be. -/
def funcsB (t : List S78) (fs : List S55) : Bool := belB (wrap64 ((fs.length : Int) - 1)) 8 && fs.all (funcB t fs.length)
/-- What shape.Check answers where the table's check answers e. -/
def chkV (e : Int) (t : List S78) (fs : List S55) : Int := if e = 0 then (if funcsB t fs = true then 0 else 60) else e
def shape_Check.f (k : Nat) (t : List S78) (fs : List S55) : Option Int := if fs.all opsOk = true then (types_Check.f k t).bind fun e => some (chkV e t fs) else none
theorem shape_Check.mono : ∀ t fs k, LeO (shape_Check.f k t fs) (shape_Check.f (k + 1) t fs) := by
  intro t fs k
  unfold shape_Check.f
  refine LeO.ite (LeO.bind (types_Check.mono _ _) (fun _ => LeO.refl _)) (LeO.refl _)

set_option maxHeartbeats 2000000 in
theorem check_any (e : Int) (At : Option Addr) (ct : Nat) (t : List S78) (Af : Option Addr) (cf : Nat) (fs : List S55) (w : World) (k : Nat) (hrt : Kd.C k78 w At t.length t) (hct : t.length ≤ ct) (hrf : Kd.C k55 w Af fs.length fs) (hcf : fs.length ≤ cf) (hT : Tab w) (hops : fs.all opsOk = true) (he : types_Check.f k t = some e) :
    Calls Tryd.prog 27 #[.agg #[.slice At t.length ct, .slice Af fs.length cf]] w fun r w' => r = .returned (.int .i64 (chkV e t fs)) ∧ Below w.heap.size w w' := by
  have hu35 := Tryd.underlying35
  have HTC := Aside0.mk (fun (W : World) (hb : Below w.heap.size w W) => types_Check.calls k At ct t e W (Kd.C_below hrt hb) hct he)
  have HBEL := Aside0.mk (fun (W : World) => shape_below.calls (wrap64 ((fs.length : Int) - 1)) 8 (belB (wrap64 ((fs.length : Int) - 1)) 8) W (below_some _ _))
  have HCON := Aside0.mk (fun (bp : Nat) (W : World) (hb : Below w.heap.size w W) (e0 : W.cell? ⟨bp, 0, none⟩ = some (.slice At t.length ct)) (e1 : W.cell? ⟨bp, 1, none⟩ = some (.slice Af fs.length cf)) =>
    contains55_calls 50 #[.pointer (some ⟨bp, 0, none⟩)] (enters_of Tryd.func50 (by kernel_rfl) rfl) (fun f => !funcB t fs.length f) Af cf fs W (Kd.C_below hrf hb)
      (fun W' f A1 c1 hb' hm hlen hr => check1_calls bp At ct t Af fs.length cf f A1 c1 W' ((hb'.cell (p := ⟨bp, 0, none⟩) (World.block_lt_of_cell? W _ e0)).trans e0) ((hb'.cell (p := ⟨bp, 1, none⟩) (World.block_lt_of_cell? W _ e1)).trans e1) (Kd.C_below (Kd.C_below hrt hb) hb') hr hlen (Tab_below (Tab_below hT hb) hb') (List.all_eq_true.1 hops f hm)))
  clear hrt hct hrf hcf hT hops he
  by_cases h0 : e = 0
  · subst h0
    cases hb : belB (wrap64 ((fs.length : Int) - 1)) 8
    · have HV := Aside0.mk (show chkV 0 t fs = 60 from by unfold chkV funcsB; rw [hb]; rfl)
      have HQ := Aside0.mk hb
      clear hb HCON
      go_enter Tryd.func27, Tryd.ntmps27
      go_wp2_with fail
      refine (HTC.out _ (below_alloc (Below.refl _ _) _)).mono ?_
      rintro r w' ⟨rfl, hb⟩
      have HB := Aside0.mk (below_then (below_alloc (Below.refl w.heap.size w) (.cells #[.slice At t.length ct, .slice Af fs.length cf] 35)) (by simp) hb)
      obtain ⟨p0, p1, -⟩ := blk2 (blk_below (blk_new w (.cells #[.slice At t.length ct, .slice Af fs.length cf] 35)) hb)
      clear hb HTC
      go_wp2_with fail
      refine (HBEL.out _).mono ?_
      rw [HQ.out]
      rintro r w2 ⟨rfl, ⟨m, rfl⟩⟩
      go_wp2_with fail
      go_ret
      exact ⟨by rw [HV.out]; rfl, pw_below_drewN HB.out m⟩
    · cases hv : fs.any fun f => !funcB t fs.length f
      all_goals
        have HV := Aside0.mk (show chkV 0 t fs = if (fs.any fun f => !funcB t fs.length f) = true then 60 else 0 from by unfold chkV funcsB; rw [hb, Bool.true_and, all_not_any, if_pos rfl]; cases (fs.any fun f => !funcB t fs.length f) <;> rfl)
        have HQ := Aside0.mk hb
        have HW := Aside0.mk hv
        clear hb hv
        go_enter Tryd.func27, Tryd.ntmps27
        go_wp2_with fail
        refine (HTC.out _ (below_alloc (Below.refl _ _) _)).mono ?_
        rintro r w' ⟨rfl, hb⟩
        have HB := Aside0.mk (below_then (below_alloc (Below.refl w.heap.size w) (.cells #[.slice At t.length ct, .slice Af fs.length cf] 35)) (by simp) hb)
        obtain ⟨p0, p1, -⟩ := blk2 (blk_below (blk_new w (.cells #[.slice At t.length ct, .slice Af fs.length cf] 35)) hb)
        clear hb HTC
        go_wp2_with fail
        refine (HBEL.out _).mono ?_
        rw [HQ.out]
        rintro r w2 ⟨rfl, ⟨m, rfl⟩⟩
        go_wp2_with fail
        refine (HCON.out _ _ (pw_below_drewN HB.out m) p0 p1).mono ?_
        rw [HW.out]
        rintro r w3 ⟨rfl, hb⟩
        have HB3 := Aside0.mk (below_then (pw_below_drewN HB.out m) (by simpa using HB.out.size) hb)
        clear hb HCON p0 p1
        go_wp2_with fail
        go_ret
        exact ⟨by rw [HV.out, HW.out]; rfl, HB3.out⟩
  · have H0 := Aside0.mk (show chkV e t fs = e from if_neg h0)
    have hb0 : (e != 0) = true := bne_iff_ne.mpr h0
    clear h0 HCON HBEL
    go_enter Tryd.func27, Tryd.ntmps27
    go_wp2_with fail
    refine (HTC.out _ (below_alloc (Below.refl _ _) _)).mono ?_
    rintro r w' ⟨rfl, hb⟩
    have HB := Aside0.mk (below_then (below_alloc (Below.refl w.heap.size w) (.cells #[.slice At t.length ct, .slice Af fs.length cf] 35)) (by simp) hb)
    clear hb HTC
    go_wp2_with fail
    go_ret
    exact ⟨by rw [H0.out]; rfl, HB.out⟩
theorem shape_Check.calls (k : Nat) (A0 : Option Addr) (c0 : Nat) (t : List S78) (A1 : Option Addr) (c1 : Nat) (fs : List S55) (r : Int) (w : World) (hr0 : Kd.C k78 w A0 t.length t) (hc0 : t.length ≤ c0) (hr1 : Kd.C k55 w A1 fs.length fs) (hc1 : fs.length ≤ c1) (hT : Tab w) (h : shape_Check.f k t fs = some r) :
    Calls Tryd.prog 27 #[.agg #[.slice A0 t.length c0, .slice A1 fs.length c1]] w fun e w' => e = .returned (.int .i64 r) ∧ Below w.heap.size w w' := by
  unfold shape_Check.f at h
  by_cases hops : fs.all opsOk = true
  · rw [if_pos hops] at h
    obtain ⟨e, he, h⟩ := Option.bind_eq_some_iff.1 h
    obtain rfl := Option.some.inj h
    exact check_any e A0 c0 t A1 c1 fs w k hr0 hc0 hr1 hc1 hT hops he
  · rw [if_neg hops] at h
    cases h
end Go.Proofs.YtfjmpfecnemoiaaDoor.Q
