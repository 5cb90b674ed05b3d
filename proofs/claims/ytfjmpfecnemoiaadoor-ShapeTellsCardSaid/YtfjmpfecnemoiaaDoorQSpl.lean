/-
  fescuelaw06.spoil: a program that is written over; what lies below its own memory stays.
-/
import Derived.Test.YtfjmpfecnemoiaaDoorQMix
namespace Go.Proofs.YtfjmpfecnemoiaaDoor.Q
open Go.RowKit Go.Proofs.YtfjmpfecnemoiaaDoorW.PrintWords Go.Proofs.YtfjmpfecnemoiaaDoorW.PrintLast Go.Proofs.YtfjmpfecnemoiaaDoorW.PrintMore
set_option linter.unusedVariables false
set_option linter.unusedSimpArgs false
set_option maxRecDepth 100000

/-- The same blocks; slices' words stay, numbers stay numbers. -/
def Kept (W1 W : World) : Prop := ∀ (b : Nat) (cur : Array Value) (e : Nat), W1.heap[b]? = some (.cells cur e (0, 0)) → ∃ cur' : Array Value, W.heap[b]? = some (.cells cur' e (0, 0)) ∧ ∀ (o : Nat) (v : Value), cur[o]? = some v → ∃ v' : Value, cur'[o]? = some v' ∧ (∀ A n c, v = .slice A n c → v' = .slice A n c) ∧ ∀ k z, v = .int k z → ∃ k' z', v' = .int k' z'
theorem Kept.refl (W : World) : Kept W W := fun b cur e h => ⟨cur, h, fun o v hv => ⟨v, hv, fun _ _ _ h => h, fun k z h => ⟨k, z, h⟩⟩⟩
theorem Kept.slice_ {W1 W : World} (h : Kept W1 W) {g o e : Nat} {cur : Array Value} {A : Option Addr} {n c : Nat} (hb : W1.heap[g]? = some (.cells cur e (0, 0))) (ho : cur[o]? = some (.slice A n c)) : W.cell? ⟨g, o, none⟩ = some (.slice A n c) := by
  obtain ⟨cur', hh, hc⟩ := h g cur e hb
  obtain ⟨v', hv, hs, _⟩ := hc o _ ho
  rw [blk_cell hh, hv, hs _ _ _ rfl]
theorem Kept.int_ {W1 W : World} (h : Kept W1 W) {g o e : Nat} {cur : Array Value} {k : IntKind} {z : Int} (hb : W1.heap[g]? = some (.cells cur e (0, 0))) (ho : cur[o]? = some (.int k z)) : ∃ k' z', W.cell? ⟨g, o, none⟩ = some (.int k' z') := by
  obtain ⟨cur', hh, hc⟩ := h g cur e hb
  obtain ⟨v', hv, _, hs⟩ := hc o _ ho
  obtain ⟨k', z', rfl⟩ := hs _ _ rfl
  exact ⟨k', z', (blk_cell hh o).trans hv⟩
theorem Kept.frozen_ {W1 W : World} (h : Kept W1 W) {g e : Nat} {cur : Array Value} (hb : W1.heap[g]? = some (.cells cur e (0, 0))) (o : Nat) : W.frozen? ⟨g, o, none⟩ = false := by
  obtain ⟨cur', hh, _⟩ := h g cur e hb
  exact blk_frozen hh o
theorem Kept.set {W1 W : World} (h : Kept W1 W) {g k : Nat} {kk ku : IntKind} {z zu : Int} (hc : W.cell? ⟨g, k, none⟩ = some (.int kk z)) : Kept W1 (W.setCell ⟨g, k, none⟩ (.int ku zu)) := by
  intro b cur e hb
  obtain ⟨cur', hh, hcs⟩ := h b cur e hb
  by_cases hbg : b = g
  · subst hbg
    have hk : cur'[k]? = some (.int kk z) := (blk_cell hh k).symm.trans hc
    refine ⟨_, blk_set hh k _, fun o v hv => ?_⟩
    obtain ⟨v', hv', h1, h2⟩ := hcs o v hv
    by_cases hok : k = o
    · subst hok
      rw [hk] at hv'
      have hv' := Option.some.inj hv'
      refine ⟨.int ku zu, by rw [Array.getElem?_setIfInBounds_self_of_lt (Array.getElem?_eq_some_iff.1 hk).1], fun A n c hs => ?_, fun _ _ _ => ⟨_, _, rfl⟩⟩
      have := h1 A n c hs
      rw [this] at hv'
      cases hv'
    · exact ⟨v', (Array.getElem?_setIfInBounds_ne hok).trans hv', h1, h2⟩
  · exact ⟨cur', blk_far (p := ⟨g, k, none⟩) hh hbg _, hcs⟩
/-- An element of a row of the call's own, and where its cells lie. -/
theorem R_elem {α : Type} {d : Kd α} {e : Nat} {W : World} {base : Nat} {ok : Nat → Prop} {v : Value} {xs : List α} (h : d.R e W base ok v xs) {i : Nat} (hi : i < xs.length) :
    ∃ g cap cur, v = .slice (some ⟨g, 0, none⟩) xs.length cap ∧ base ≤ g ∧ W.heap[g]? = some (.cells cur e (0, 0)) ∧ d.M W base (fun _ => True) xs[i] (part cur d.sz i) := by
  obtain ⟨_, inner, ho, hrep⟩ := h
  rcases ho.2 with ⟨rfl, h0⟩ | ⟨g, cap, cur, rfl, hg, hh, hcap, hm, hs, ht⟩
  · omega
  · refine ⟨g, cap, cur, rfl, hg, hh, ?_⟩
    have hk := hrep.2 i xs[i] (List.getElem?_eq_getElem hi)
    have hp : (inner.drop (i * d.sz)).take d.sz = part cur d.sz i := by
      have ht' : cur.toList.take (xs.length * d.sz) = inner := ht
      rw [← ht']
      unfold part
      have h1 : i * d.sz + d.sz ≤ xs.length * d.sz := by rw [← Nat.succ_mul]; exact Nat.mul_le_mul_right _ hi
      rw [List.drop_take, List.take_take, Nat.min_eq_left (by omega)]
    rw [hp] at hk
    exact d.M_mono (fun _ _ => trivial) hk

set_option maxHeartbeats 16000000 in
theorem spoil_calls (vT vF : Value) (t : List S78) (f : List S55) (base : Nat) (w : World) (hbase : base ≤ w.heap.size) (ht : Kd.R k78 78 w base (fun _ => True) vT t) (hf : Kd.R k55 55 w base (fun _ => True) vF f) (ht20 : t.length ≤ 20) (hf10 : f.length ≤ 10)
    (hfb : ∀ x ∈ f, x.f1.length ≤ 20 ∧ ∀ b ∈ x.f1, b.f0.length ≤ 300 ∧ ∀ y ∈ b.f0, y.f5.length ≤ 20 ∧ y.f6.length ≤ 20) :
    Calls Tryd.prog 31 #[.agg #[vT, vF]] w fun e w' => (∃ v, e = .returned v) ∧ Below base w w' := by
  have hu35 := Tryd.underlying35
  have hu55 := Tryd.underlying55
  have hu58 := Tryd.underlying58
  have hu26 := Tryd.underlying26
  have hu24 := Tryd.underlying24
  have hu78 := Tryd.underlying78
  obtain ⟨AT, cT, rfl⟩ := Kd.R_slice ht
  obtain ⟨AF, cF, rfl⟩ := Kd.R_slice hf
  have hbw := below_alloc (Below.refl w.heap.size w) (.cells #[.slice AT t.length cT, .slice AF f.length cF] 35)
  have HT := Aside0.mk (Kd.R_below ht hbw)
  have HF := Aside0.mk (Kd.R_below hf hbw)
  have HP := Aside0.mk (blk_new w (.cells #[.slice AT t.length cT, .slice AF f.length cF] 35))
  have HB := Aside0.mk ((Below.refl base w).alloc hbase (.cells #[.slice AT t.length cT, .slice AF f.length cF] 35))
  have HFB := Aside0.mk hfb
  clear ht hf hfb hbw hbase
  go_enter Tryd.func31, Tryd.ntmps31
  go_wp2_with fail
  generalize w.alloc (.cells #[.slice AT t.length cT, .slice AF f.length cF] 35) = W1 at *
  generalize w.heap.size = P at *
  have HK := Aside0.mk (Kept.refl W1)
  go_loopg [2] f.length (fun gg v2 Wr => ∃ i : Nat, i ≤ f.length ∧ f.length - i ≤ gg ∧ v2 = .int .i64 i ∧ Aside0 (Kept W1 Wr) ∧ Aside0 (Below base w Wr))
  case atStart => exact ⟨0, Nat.zero_le _, by omega, rfl, HK, HB⟩
  case round =>
    obtain ⟨i, hi, hgi, rfl, HKi, HBi⟩ := hrel
    clear HK HB
    obtain ⟨wi, rfl⟩ : ∃ wi : World, wi = wr := ⟨_, rfl⟩
    have q1 : wi.cell? ⟨P, 1, none⟩ = some (.slice AF f.length cF) := HKi.out.slice_ HP.out rfl
    by_cases hlt : i < f.length
    · have hltz : (i : Int) < (f.length : Int) := by omega
      obtain ⟨gf, capf, curf, heq, hgf, hbf, hMf⟩ := R_elem HF.out hlt
      injection heq with hAF _ hcF
      subst hAF
      subst hcF
      obtain ⟨v1, hcs, hRB⟩ := k55_openM hMf
      obtain ⟨AB, cB, rfl⟩ := Kd.R_slice hRB
      have e0 : curf[i * 2]? = some (.int .i64 f[i].f0) := (part_get (sz := 2) (n := i) (q := 0) (by omega)).symm.trans (by rw [show part curf 2 i = _ from hcs]; rfl)
      have e1 : curf[i * 2 + 1]? = some (.slice AB f[i].f1.length cB) := (part_get (sz := 2) (n := i) (q := 1) (by omega)).symm.trans (by rw [show part curf 2 i = _ from hcs]; rfl)
      have HFM := Aside0.mk (HFB.out f[i] (List.getElem_mem hlt))
      have hl20 : f[i].f1.length ≤ 20 := HFM.out.1
      have HBF := Aside0.mk hbf
      have HGF := Aside0.mk hgf
      have HRB := Aside0.mk hRB
      have E0 := Aside0.mk e0
      have E1 := Aside0.mk e1
      clear hbf hMf hcs hRB e0 e1 hgf
      go_wp2_with fail
      go_loopg [3] f[i].f1.length (fun gg v3 Wr => ∃ k : Nat, k ≤ f[i].f1.length ∧ f[i].f1.length - k ≤ gg ∧ v3 = .int .i64 k ∧ Aside0 (Kept W1 Wr) ∧ Aside0 (Below base w Wr))
      case atStart => exact ⟨0, Nat.zero_le _, by omega, rfl, HKi, HBi⟩
      case round =>
        obtain ⟨k, hk, hgk, rfl, HKk, HBk⟩ := hrel
        clear HKi HBi q1
        obtain ⟨wk, rfl⟩ : ∃ wk : World, wk = wr := ⟨_, rfl⟩
        have q1 : wk.cell? ⟨P, 1, none⟩ = some (.slice (some ⟨gf, 0, none⟩) f.length cF) := HKk.out.slice_ HP.out rfl
        have q2 : wk.cell? ⟨gf, i * 2 + 1, none⟩ = some (.slice AB f[i].f1.length cB) := HKk.out.slice_ HBF.out E1.out
        by_cases hltk : k < f[i].f1.length
        · have hltkz : (k : Int) < (f[i].f1.length : Int) := by omega
          obtain ⟨gb, capb, curb, heqb, hgb, hbb, hMb⟩ := R_elem HRB.out hltk
          injection heqb with hAB _ hcB
          subst hAB
          subst hcB
          obtain ⟨v0, hcs, hRL⟩ := k58_openM hMb
          obtain ⟨AL, cL, rfl⟩ := Kd.R_slice hRL
          have E0b := Aside0.mk (show curb[k * 5]? = some (.slice AL f[i].f1[k].f0.length cL) from (part_get (cur := curb) (sz := 5) (n := k) (q := 0) (by omega)).symm.trans (by rw [show part curb 5 k = _ from hcs]; rfl))
          have E1b := Aside0.mk (show curb[k * 5 + 1]? = some (.int .u8 f[i].f1[k].f1.f0) from (part_get (cur := curb) (sz := 5) (n := k) (q := 1) (by omega)).symm.trans (by rw [show part curb 5 k = _ from hcs]; rfl))
          have HBM := Aside0.mk (HFM.out.2 f[i].f1[k] (List.getElem_mem hltk))
          have hl300 : f[i].f1[k].f0.length ≤ 300 := HBM.out.1
          have HBB := Aside0.mk hbb
          have HGB := Aside0.mk hgb
          have HRL := Aside0.mk hRL
          have q3 : wk.cell? ⟨gb, k * 5, none⟩ = some (.slice AL f[i].f1[k].f0.length cL) := HKk.out.slice_ hbb E0b.out
          clear hbb hMb hcs hRL hgb
          go_wp2_with fail
          go_loopg [5] f[i].f1[k].f0.length (fun gg v5 Wr => ∃ n : Nat, n ≤ f[i].f1[k].f0.length ∧ f[i].f1[k].f0.length - n ≤ gg ∧ v5 = .int .i64 n ∧ Aside0 (Kept W1 Wr) ∧ Aside0 (Below base w Wr))
          case atStart => exact ⟨0, Nat.zero_le _, by omega, rfl, HKk, HBk⟩
          case round =>
            obtain ⟨n, hn, hgn, rfl, HKn, HBn⟩ := hrel
            clear HKk HBk q1 q2 q3
            obtain ⟨wn, rfl⟩ : ∃ wn : World, wn = wr := ⟨_, rfl⟩
            by_cases hltn : n < f[i].f1[k].f0.length
            · have hltnz : (n : Int) < (f[i].f1[k].f0.length : Int) := by omega
              have hxm := HBM.out.2 f[i].f1[k].f0[n] (List.getElem_mem hltn)
              obtain ⟨gl, capl, curl, heql, hgl, hbl, hMl⟩ := R_elem HRL.out hltn
              injection heql with hAL _ hcL
              subst hAL
              subst hcL
              obtain ⟨v5, v6, hcs, hR5, hR6⟩ := k24_openM hMl
              generalize f[i].f1[k].f0[n] = x at *
              obtain ⟨A5, c5, rfl⟩ := Kd.R_slice hR5
              obtain ⟨A6, c6, rfl⟩ := Kd.R_slice hR6
              have E0l := Aside0.mk (show curl[n * 7]? = some (.int .u8 x.f0) from (part_get (cur := curl) (sz := 7) (n := n) (q := 0) (by omega)).symm.trans (by rw [show part curl 7 n = _ from hcs]; rfl))
              have E5l := Aside0.mk (show curl[n * 7 + 5]? = some (.slice A5 x.f5.length c5) from (part_get (cur := curl) (sz := 7) (n := n) (q := 5) (by omega)).symm.trans (by rw [show part curl 7 n = _ from hcs]; rfl))
              have E6l := Aside0.mk (show curl[n * 7 + 6]? = some (.slice A6 x.f6.length c6) from (part_get (cur := curl) (sz := 7) (n := n) (q := 6) (by omega)).symm.trans (by rw [show part curl 7 n = _ from hcs]; rfl))
              have h5 : x.f5.length ≤ 20 := hxm.1
              have h6 : x.f6.length ≤ 20 := hxm.2
              have HBL := Aside0.mk hbl
              have HGL := Aside0.mk hgl
              have HR5 := Aside0.mk hR5
              have HR6 := Aside0.mk hR6
              clear hbl hMl hcs hR5 hR6 hgl hxm
              go_wp2_with fail
              go_loopg [6] x.f5.length (fun gg v6 Wr => ∃ m : Nat, m ≤ x.f5.length ∧ x.f5.length - m ≤ gg ∧ v6 = .int .i64 m ∧ Aside0 (Kept W1 Wr) ∧ Aside0 (Below base w Wr))
              case atStart => exact ⟨0, Nat.zero_le _, by omega, rfl, HKn, HBn⟩
              case round =>
                obtain ⟨m, hm, hgm, rfl, HKm, HBm⟩ := hrel
                clear HKn HBn
                have r5 : wr.cell? ⟨gl, n * 7 + 5, none⟩ = some (.slice A5 x.f5.length c5) := HKm.out.slice_ HBL.out E5l.out
                by_cases hltm : m < x.f5.length
                · have hltmz : (m : Int) < (x.f5.length : Int) := by omega
                  obtain ⟨ga, capa, cura, heqa, hga, hba, hMa⟩ := R_elem HR5.out hltm
                  injection heqa with hA5 _ hc5
                  subst hA5
                  subst hc5
                  have hea : cura[m]? = some (.int .i64 x.f5[m]) := by
                    have := (part_get (cur := cura) (sz := 1) (n := m) (q := 0) (by omega)).symm.trans (by rw [show part cura 1 m = [.int .i64 x.f5[m]] from hMa])
                    rwa [Nat.mul_one, Nat.add_zero] at this
                  obtain ⟨kk, zz, s0⟩ := HKm.out.int_ hba hea
                  have s1 := HKm.out.frozen_ hba m
                  have HKN := Aside0.mk (HKm.out.set (ku := .i64) (zu := -7) s0)
                  have HBN := Aside0.mk (HBm.out.setCell (p := ⟨ga, m, none⟩) hga (.int .i64 (-7)))
                  clear hba hMa hea hga
                  go_wp2_with fail
                  go_roundg (x.f5.length - (m + 1))
                  case measure => omega
                  case rel => exact ⟨m + 1, by omega, by omega, by go_num, HKN, HBN⟩
                · have hltmz : ¬ (m : Int) < (x.f5.length : Int) := by omega
                  go_wp2_with fail
                  go_loopg [7] x.f6.length (fun gg v7 Wr => ∃ m : Nat, m ≤ x.f6.length ∧ x.f6.length - m ≤ gg ∧ v7 = .int .i64 m ∧ Aside0 (Kept W1 Wr) ∧ Aside0 (Below base w Wr))
                  case atStart => exact ⟨0, Nat.zero_le _, by omega, rfl, HKm, HBm⟩
                  case round =>
                    obtain ⟨m, hm, hgm, rfl, HKm, HBm⟩ := hrel
                    clear r5
                    have r6 : wr.cell? ⟨gl, n * 7 + 6, none⟩ = some (.slice A6 x.f6.length c6) := HKm.out.slice_ HBL.out E6l.out
                    by_cases hltm : m < x.f6.length
                    · have hltmz : (m : Int) < (x.f6.length : Int) := by omega
                      obtain ⟨ga, capa, cura, heqa, hga, hba, hMa⟩ := R_elem HR6.out hltm
                      injection heqa with hA6 _ hc6
                      subst hA6
                      subst hc6
                      have hea : cura[m]? = some (.int .i64 x.f6[m]) := by
                        have := (part_get (cur := cura) (sz := 1) (n := m) (q := 0) (by omega)).symm.trans (by rw [show part cura 1 m = [.int .i64 x.f6[m]] from hMa])
                        rwa [Nat.mul_one, Nat.add_zero] at this
                      obtain ⟨kk, zz, s0⟩ := HKm.out.int_ hba hea
                      have s1 := HKm.out.frozen_ hba m
                      have HKN := Aside0.mk (HKm.out.set (ku := .i64) (zu := -7) s0)
                      have HBN := Aside0.mk (HBm.out.setCell (p := ⟨ga, m, none⟩) hga (.int .i64 (-7)))
                      clear hba hMa hea hga
                      go_wp2_with fail
                      go_roundg (x.f6.length - (m + 1))
                      case measure => omega
                      case rel => exact ⟨m + 1, by omega, by omega, by go_num, HKN, HBN⟩
                    · have hltmz : ¬ (m : Int) < (x.f6.length : Int) := by omega
                      obtain ⟨kk, zz, s0⟩ := HKm.out.int_ HBL.out E0l.out
                      have s1 := HKm.out.frozen_ HBL.out (n * 7)
                      have HKN := Aside0.mk (HKm.out.set (ku := .u8) (zu := 99) s0)
                      have HBN := Aside0.mk (HBm.out.setCell (p := ⟨gl, n * 7, none⟩) HGL.out (.int .u8 99))
                      go_wp2_with fail
                      go_roundg (f[i].f1[k].f0.length - (n + 1))
                      case measure => omega
                      case rel => exact ⟨n + 1, by omega, by omega, by go_num, HKN, HBN⟩
            · have hltnz : ¬ (n : Int) < (f[i].f1[k].f0.length : Int) := by omega
              have q1 : wn.cell? ⟨P, 1, none⟩ = some (.slice (some ⟨gf, 0, none⟩) f.length cF) := HKn.out.slice_ HP.out rfl
              have q2 : wn.cell? ⟨gf, i * 2 + 1, none⟩ = some (.slice (some ⟨gb, 0, none⟩) f[i].f1.length cB) := HKn.out.slice_ HBF.out E1.out
              obtain ⟨kk, zz, s0⟩ := HKn.out.int_ HBB.out E1b.out
              have s1 := HKn.out.frozen_ HBB.out (k * 5 + 1)
              have HKN := Aside0.mk (HKn.out.set (ku := .u8) (zu := 9) s0)
              have HBN := Aside0.mk (HBn.out.setCell (p := ⟨gb, k * 5 + 1, none⟩) HGB.out (.int .u8 9))
              go_wp2_with fail
              go_roundg (f[i].f1.length - (k + 1))
              case measure => omega
              case rel => exact ⟨k + 1, by omega, by omega, by go_num, HKN, HBN⟩
        · have hltkz : ¬ (k : Int) < (f[i].f1.length : Int) := by omega
          obtain ⟨kk, zz, q3⟩ := HKk.out.int_ HBF.out E0.out
          have q4 := HKk.out.frozen_ HBF.out (i * 2)
          have HKN := Aside0.mk (HKk.out.set (ku := .i64) (zu := -7) q3)
          have HBN := Aside0.mk (HBk.out.setCell (p := ⟨gf, i * 2, none⟩) HGF.out (.int .i64 (-7)))
          go_wp2_with fail
          go_roundg (f.length - (i + 1))
          case measure => omega
          case rel => exact ⟨i + 1, by omega, by omega, by go_num, HKN, HBN⟩
    · have hltz : ¬ (i : Int) < (f.length : Int) := by omega
      go_wp2_with fail
      go_loopg [8] t.length (fun gg v8 Wr => ∃ i : Nat, i ≤ t.length ∧ t.length - i ≤ gg ∧ v8 = .int .i64 i ∧ Aside0 (Kept W1 Wr) ∧ Aside0 (Below base w Wr))
      case atStart => exact ⟨0, Nat.zero_le _, by omega, rfl, HKi, HBi⟩
      case round =>
        obtain ⟨j, hj, hgj, rfl, HKj, HBj⟩ := hrel
        clear q1
        have q0 : wr.cell? ⟨P, 0, none⟩ = some (.slice AT t.length cT) := HKj.out.slice_ HP.out rfl
        by_cases hltj : j < t.length
        · have hltjz : (j : Int) < (t.length : Int) := by omega
          obtain ⟨gt, capt, curt, heqt, hgt, hbt, hMt⟩ := R_elem HT.out hltj
          injection heqt with hAT _ hcT
          subst hAT
          subst hcT
          obtain ⟨v3, hcs, _⟩ := k78_openM hMt
          have e0 : curt[j * 4]? = some (.int .u8 t[j].f0) := (part_get (sz := 4) (n := j) (q := 0) (by omega)).symm.trans (by rw [show part curt 4 j = _ from hcs]; rfl)
          obtain ⟨kk, zz, s0⟩ := HKj.out.int_ hbt e0
          have s1 := HKj.out.frozen_ hbt (j * 4)
          have HKN := Aside0.mk (HKj.out.set (ku := .u8) (zu := 9) s0)
          have HBN := Aside0.mk (HBj.out.setCell (p := ⟨gt, j * 4, none⟩) hgt (.int .u8 9))
          clear hbt hMt hcs e0 hgt
          go_wp2_with fail
          go_roundg (t.length - (j + 1))
          case measure => omega
          case rel => exact ⟨j + 1, by omega, by omega, by go_num, HKN, HBN⟩
        · have hltjz : ¬ (j : Int) < (t.length : Int) := by omega
          go_wp2_with fail
          go_end0
          exact ⟨⟨_, rfl⟩, HBj.out⟩
end Go.Proofs.YtfjmpfecnemoiaaDoor.Q
