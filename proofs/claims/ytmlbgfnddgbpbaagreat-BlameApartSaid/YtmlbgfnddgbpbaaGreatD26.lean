/-
The walks of the document's answer to layer 3: by which numbers a test passes.
The walks of the document's answer to layer 3: the errors of a set of lines, and the lists of numbers that are tried.
The walks of the document's answer to layer 3: the lists of numbers that are tried.
The walks of the document's answer to layer 3: by which numbers lines pass a test.
The walks of the document's answer to layer 3: CanPass.
-/
import Derived.Test.YtmlbgfnddgbpbaaGreatD03
import Derived.Test.YtmlbgfnddgbpbaaGreatD24
import Derived.Test.YtmlbgfnddgbpbaaGreatD05
import Derived.Test.YtmlbgfnddgbpbaaGreatD25
import Derived.Deep.QuietTactic
import Derived.BigQuiet
import Derived.StillTailTactics
import Derived.Deep.RegionHeld3
import Derived.Deep.RegionWith
namespace Go.Proofs.YtmlbgfnddgbpbaaGreat
open Go.RowKit
open Mk Bm

set_option maxHeartbeats 1000000 in
theorem r3tested_any (p : List Ln) (ts : List Tst) (v u : Value) (w : World) (hp : LinesAt w v p) (hx : TestsAt w u ts) (R : Ending → World → Prop) (hR : ∀ w', Grow w w' → R (.returned (.int .i64 (chkT p ts))) w') :
    Calls Tryz.prog 78 #[v, u] w R := by
  have HP := Lib.hid hp
  have HX := Lib.hid hx
  have HR := Lib.hid hR
  obtain ⟨a, c, rfl, _⟩ := hp
  obtain ⟨⟨a2, c2, rfl, _⟩, _⟩ := hx
  clear hR
  obtain ⟨e, he⟩ : ∃ e, valP p = e := ⟨_, rfl⟩
  by_cases h0 : e = 0
  · have hc : chkT p ts = valT ts := by unfold chkT; rw [if_pos (he.trans h0)]
    rw [hc] at HR
    have HE := Lib.hid he
    clear he hc
    subst h0
    go_enter Tryz.func78, Tryz.ntmps78
    go_wp2_with fail
    refine rValidate_any p _ _ HP.out _ ?_
    intro w1 hg1
    rw [HE.out]
    have HG := Lib.hid hg1
    clear hg1
    go_wp2_with fail
    refine r2ValidateTests_any ts _ _ (HX.out.grow HG.out) _ ?_
    intro w2 hg2
    have HF := Lib.hid (HR.out _ (HG.out.trans hg2))
    clear hg2
    go_wp2_with fail
    exact HF.out
  · have hc : chkT p ts = e := by unfold chkT; rw [if_neg (by omega), he]
    rw [hc] at HR
    have HE := Lib.hid he
    have t1 : (e == 0) = false := by simpa using h0
    have t2 : (e != 0) = true := by simpa using h0
    clear he hc
    go_enter Tryz.func78, Tryz.ntmps78
    go_wp2_with fail
    refine rValidate_any p _ _ HP.out _ ?_
    intro w1 hg1
    rw [HE.out]
    have HF := Lib.hid (HR.out _ hg1)
    clear hg1
    go_wp2_with fail
    exact HF.out

set_option maxRecDepth 100000 in
set_option maxHeartbeats 8000000 in
theorem r3CheckPass_any (p : List Ln) (t : Tst) (lines vs : List Int) (pv lv vv : Value) (w : World) (hp : LinesAt w pv p) (ht : IntsAt w t.v t.xs) (hl : IntsAt w lv lines) (hv : IntsAt w vv vs)
    (R : Ending → World → Prop) (hR : ∀ w', Grow w w' → R (.returned (.int .i64 (psE p t lines vs))) w') :
    Calls Tryz.prog 31 #[pv, .agg #[t.v, .int .i64 t.o, .int .i64 t.wt], lv, vv] w R := by
  have HP := Lib.hid hp
  have HT := Lib.hid ht
  have HL := Lib.hid hl
  have HV := Lib.hid hv
  have hps : psE p t lines vs = if chkT p [t] = 0 then (if frcE p t.xs lines vs = 0 then (if fpass p t lines vs then 0 else 7) else frcE p t.xs lines vs) else chkT p [t] := rfl
  rw [hps] at hR
  obtain ⟨e, he⟩ : ∃ e, chkT p [t] = e := ⟨_, rfl⟩
  obtain ⟨e', he'⟩ : ∃ e, frcE p t.xs lines vs = e := ⟨_, rfl⟩
  obtain ⟨s, hs⟩ : ∃ s, (trc p (frc lines vs) 0 (St.ofL t.xs)).2 = s := ⟨_, rfl⟩
  have hfp : fpass p t lines vs = decide (s.get t.o = t.wt) := by unfold fpass; rw [hs]
  have hfm : frcM p t.xs lines vs = ifOK e' s.toL := by unfold frcM; rw [he', hs]
  rw [he, he', hfp] at hR
  have HE := Lib.hid he
  have HE' := Lib.hid he'
  have HFM := Lib.hid hfm
  obtain ⟨v, xs, o, wt⟩ := t
  dsimp only at ht HT HE HE' HFM hR ⊢
  have HR := Lib.hid hR
  obtain ⟨pa, pc, rfl, _⟩ := hp
  obtain ⟨sa, sc, rfl, _⟩ := ht
  obtain ⟨la, lc, rfl, _⟩ := hl
  obtain ⟨va, vc, rfl, _⟩ := hv
  clear hR hps he he' hs hfp hfm
  have hb0 := heap_two0 w (.cells #[.slice sa xs.length sc, .int .i64 o, .int .i64 wt] 37) (.cells #[.slice sa xs.length sc, .int .i64 o, .int .i64 wt] 37)
  have hg2 : Grow w ((w.alloc (.cells #[.slice sa xs.length sc, .int .i64 o, .int .i64 wt] 37)).alloc (.cells #[.slice sa xs.length sc, .int .i64 o, .int .i64 wt] 37)) := ((Grow.refl w).alloc _).alloc _
  have htl := tests_lit (w.alloc (.cells #[.slice sa xs.length sc, .int .i64 o, .int .i64 wt] 37)) ⟨.slice sa xs.length sc, xs, o, wt⟩ 37 (HT.out.grow ((Grow.refl w).alloc _))
  rw [World.size_alloc] at htl
  have HB0 := Lib.hid hb0
  have HG2 := Lib.hid hg2
  have HTL := Lib.hid htl
  clear hb0 hg2 htl
  by_cases h0 : e = 0
  rotate_left
  · rw [if_neg h0] at HR
    have t1 : (e != 0) = true := by simpa using h0
    clear h0
    go_enter Tryz.func31, Tryz.ntmps31
    go_wp2_with fail
    generalize (w.alloc (.cells #[.slice sa xs.length sc, .int .i64 o, .int .i64 wt] 37)).alloc (.cells #[.slice sa xs.length sc, .int .i64 o, .int .i64 wt] 37) = W at HB0 HG2 HTL ⊢
    refine r3tested_any p [⟨.slice sa xs.length sc, xs, o, wt⟩] _ _ _ (HP.out.grow HG2.out) HTL.out _ ?_
    intro w3 hg3
    rw [HE.out]
    have HG3 := Lib.hid (HG2.out.trans hg3)
    have HB3 := Lib.hid (hg3.blk HB0.out)
    obtain ⟨d0, d1, d2⟩ := box3 HB3.out
    have hdz := lt_of_block HB3.out
    clear hg3
    have HF := Lib.hid (HR.out w3 HG3.out)
    go_wp2_with fail
    exact HF.out
  subst h0
  rw [if_pos rfl] at HR
  obtain ⟨hval, htv⟩ := chkT_ok.1 HE.out
  have htok := (valT_ok.1 htv).2 _ (List.mem_cons_self ..)
  obtain ⟨_, ⟨k2, k3⟩, _⟩ := Tst.ok_iff.1 htok
  dsimp only at k2 k3
  clear hval htv htok
  by_cases h1 : e' = 0
  rotate_left
  · rw [if_neg h1] at HR
    have t1 : (e' != 0) = true := by simpa using h1
    rw [ifOK_err h1] at HFM
    clear h1
    go_enter Tryz.func31, Tryz.ntmps31
    go_wp2_with fail
    generalize (w.alloc (.cells #[.slice sa xs.length sc, .int .i64 o, .int .i64 wt] 37)).alloc (.cells #[.slice sa xs.length sc, .int .i64 o, .int .i64 wt] 37) = W at HB0 HG2 HTL ⊢
    refine r3tested_any p [⟨.slice sa xs.length sc, xs, o, wt⟩] _ _ _ (HP.out.grow HG2.out) HTL.out _ ?_
    intro w3 hg3
    rw [HE.out]
    have HG3 := Lib.hid (HG2.out.trans hg3)
    have HB3 := Lib.hid (hg3.blk HB0.out)
    obtain ⟨d0, d1, d2⟩ := box3 HB3.out
    have hdz := lt_of_block HB3.out
    clear hg3
    go_wp2_with fail
    refine rForce_any p xs lines vs _ _ _ _ _ (HP.out.grow HG3.out) (HT.out.grow HG3.out) (HL.out.grow HG3.out) (HV.out.grow HG3.out) _ ?_
    intro w4 x4 hg4 hx4
    rw [HE'.out]
    rw [HFM.out] at hx4
    have HG4 := Lib.hid (HG3.out.trans hg4)
    have HF := Lib.hid (HR.out w4 HG4.out)
    obtain ⟨a4, c4, rfl, _⟩ := hx4
    clear hg4
    go_wp2_with fail
    exact HF.out
  subst h1
  rw [if_pos rfl] at HR
  rw [ifOK_ok] at HFM
  obtain ⟨q, hq⟩ : ∃ q, s.get o = q := ⟨_, rfl⟩
  rw [hq] at HR
  have hx : s.toL[o.toNat]? = some q := by rw [toL_get s o k2 k3, hq]
  have HX := Lib.hid hx
  clear hq hx
  obtain ⟨n, rfl⟩ : ∃ n : Nat, o = n := ⟨o.toNat, by omega⟩
  go_enter Tryz.func31, Tryz.ntmps31
  go_wp2_with fail
  generalize (w.alloc (.cells #[.slice sa xs.length sc, .int .i64 (n : Int), .int .i64 wt] 37)).alloc (.cells #[.slice sa xs.length sc, .int .i64 (n : Int), .int .i64 wt] 37) = W at HB0 HG2 HTL ⊢
  refine r3tested_any p [⟨.slice sa xs.length sc, xs, (n : Int), wt⟩] _ _ _ (HP.out.grow HG2.out) HTL.out _ ?_
  intro w3 hg3
  rw [HE.out]
  have HG3 := Lib.hid (HG2.out.trans hg3)
  have HB3 := Lib.hid (hg3.blk HB0.out)
  obtain ⟨d0, d1, d2⟩ := box3 HB3.out
  have hdz := lt_of_block HB3.out
  clear hg3
  go_wp2_with fail
  refine rForce_any p xs lines vs _ _ _ _ _ (HP.out.grow HG3.out) (HT.out.grow HG3.out) (HL.out.grow HG3.out) (HV.out.grow HG3.out) _ ?_
  intro w4 x4 hg4 hx4
  rw [HE'.out]
  rw [HFM.out] at hx4
  have HG4 := Lib.hid (HG3.out.trans hg4)
  have hll4 : s.toL.length = 4 := rfl
  obtain ⟨a4, c4, rfl, q1, q2, q3⟩ := hx4
  have hx3 : IntsAt w4 (.slice a4 s.toL.length c4) s.toL := ⟨a4, c4, rfl, q1, q2, q3⟩
  obtain ⟨gb, go, rfl, hgb, f0⟩ := ints_at hx3 (k := n) (x := q) (by have := HX.out; simpa using this)
  rw [hll4]
  have hn4 : (n : Int) < 4 := by omega
  have hn0 : (0 : Int) ≤ (n : Int) := by omega
  have u1 := hg4.cell d1
  have u2 := hg4.cell d2
  have hdz2 := Nat.lt_of_lt_of_le hdz hg4.sz
  have HRW := Lib.hid (fun k => HR.out (w4.drewN k) (HG4.out.drewN k))
  clear hg4 hx3 q1 q2 q3 hll4 d0 d1 d2 hdz
  by_cases hqw : q = wt
  · have t1 : (q != wt) = false := by simpa using hqw
    rw [decide_eq_true hqw] at HRW
    have HF := Lib.hid (fun k => show R (.returned (.int .i64 0)) (w4.drewN k) from HRW.out k)
    clear hqw
    go_wp2_with (go_quiet (fail))
    exact HF.out _
  · have t1 : (q != wt) = true := by simpa using hqw
    rw [decide_eq_false hqw] at HRW
    have HF := Lib.hid (fun k => show R (.returned (.int .i64 7)) (w4.drewN k) from HRW.out k)
    clear hqw
    go_wp2_with (go_quiet (fail))
    exact HF.out _
end Go.Proofs.YtmlbgfnddgbpbaaGreat

namespace Go.Proofs.YtmlbgfnddgbpbaaGreat
open Go.RowKit
open Mk Bm

theorem wrI_at3 {p : List Ln} (hp : valP p = 0) {k : Nat} {op d a b : Int} (h : p[k]? = some ⟨op, d, a, b⟩) : wrI op d a b = wrB (p.getD k default).op := by
  have h1 : p.getD k default = ⟨op, d, a, b⟩ := by rw [List.getD_eq_getElem?_getD, h]; rfl
  rw [h1]
  have h2 : Ln.ok ⟨op, d, a, b⟩ = true := (valP_ok.1 hp).2 _ (List.mem_of_getElem? h)
  unfold wrI
  rw [show vL op d a b = true from h2, Bool.true_and]
theorem any_take {pr : Int → Bool} {l : List Int} {k : Nat} {x : Int} (h : ∀ y ∈ l.take k, pr y = false) (hx : l[k]? = some x) (hp : pr x = false) : ∀ y ∈ l.take (k + 1), pr y = false := fun y hy => by
  rw [List.take_add_one, hx] at hy
  rcases List.mem_append.1 hy with hy | hy
  · exact h y hy
  · simp at hy; subst hy; exact hp
theorem any_no {pr : Int → Bool} {l : List Int} (h : ∀ y ∈ l, pr y = false) : l.any pr = false := List.any_eq_false.2 fun y hy => by rw [h y hy]; decide
set_option maxRecDepth 100000 in
set_option maxHeartbeats 8000000 in
theorem lined_any (p : List Ln) (l : List Int) (pv lv : Value) (w : World) (hp : LinesAt w pv p) (hl : IntsAt w lv l) (hval : valP p = 0) (R : Ending → World → Prop) (hR : ∀ w', Grow w w' → R (.returned (.int .i64 (lnE p l))) w') :
    Calls Tryz.prog 89 #[pv, lv] w R := by
  have HP := Lib.hid hp
  have HL := Lib.hid hl
  have HVAL := Lib.hid hval
  have hp8 := (valP_ok.1 hval).1
  obtain ⟨q0, hq0⟩ : ∃ q, ascB l = q := ⟨_, rfl⟩
  have hE : lnE p l = if q0 then (if (l.any fun i => !inB i 0 (p.length - 1)) then 4 else if 2 < l.length then 3 else if (l.any fun i => !wrB (p.getD i.toNat default).op) then 6 else 0) else 1 := by unfold lnE; rw [hq0]
  rw [hE] at hR
  have HR := Lib.hid hR
  have HQ0 := Lib.hid hq0
  obtain ⟨pa, pc, rfl, _⟩ := hp
  obtain ⟨la, lc, rfl, l1, l2, _⟩ := hl
  clear hR hval hE hq0
  cases q0 with
  | false =>
    have HF := Lib.hid (fun w' h => show R (.returned (.int .i64 1)) w' from HR.out w' h)
    go_enter Tryz.func89, Tryz.ntmps89
    go_wp2_with fail
    refine rIsSet_any l _ _ HL.out _ ?_
    intro w1 hg1
    rw [HQ0.out]
    have HF2 := Lib.hid (HF.out w1 hg1)
    clear hg1
    go_wp2_with fail
    exact HF2.out
  | true =>
    have HRT := Lib.hid (fun w' h => show R (.returned (.int .i64 (if (l.any fun i => !inB i 0 (p.length - 1)) then 4 else if 2 < l.length then 3 else if (l.any fun i => !wrB (p.getD i.toNat default).op) then 6 else 0))) w' from HR.out w' h)
    clear HR
    go_enter Tryz.func89, Tryz.ntmps89
    go_wp2_with fail
    refine rIsSet_any l _ _ HL.out _ ?_
    intro w1 hg1
    rw [HQ0.out]
    have HG1 := Lib.hid hg1
    clear hg1
    go_wp2_with fail
    go_loopw [5] (fun i wr => ∃ k : Nat, k ≤ l.length ∧ i = .int .i64 k ∧ Grow w wr ∧ ∀ y ∈ l.take k, (!inB y 0 ((p.length : Int) - 1)) = false) (fun i _ => l.length - (intOf i).toNat)
    case atStart => exact ⟨0, Nat.zero_le _, rfl, HG1.out, by simp⟩
    case round =>
      obtain ⟨k, hk, rfl, hg, hall⟩ := hrel
      have HG := Lib.hid hg
      have HALL := Lib.hid hall
      clear hg hall
      by_cases hlt : k < l.length
      · obtain ⟨x, hx⟩ : ∃ x, l[k]? = some x := ⟨_, List.getElem?_eq_getElem hlt⟩
        obtain ⟨b, o, rfl, hb, e0⟩ := ints_at (HL.out.grow HG.out) hx
        have HX := Lib.hid hx
        have hk2 : (k : Int) < (l.length : Int) := by omega
        obtain ⟨q, hq⟩ : ∃ q, inB x 0 ((p.length : Int) - 1) = q := ⟨_, rfl⟩
        have HQ := Lib.hid hq
        clear hx hq
        cases q with
        | false =>
          have hany : (l.any fun i => !inB i 0 (p.length - 1)) = true := List.any_eq_true.2 ⟨x, List.mem_of_getElem? HX.out, by rw [HQ.out]; rfl⟩
          have HF := Lib.hid (show R (.returned (.int .i64 4)) wr from by have := HRT.out wr HG.out; rw [hany] at this; exact this)
          clear hany
          go_wp2_with fail
          refine r3within_any _ _ _ _ _ ?_
          rw [HQ.out]
          go_wp2_with fail
          exact HF.out
        | true =>
          go_wp2_with fail
          refine r3within_any _ _ _ _ _ ?_
          rw [HQ.out]
          go_wp2_with fail
          go_roundw
          case rel => exact ⟨k + 1, by omega, by go_num, HG.out, any_take HALL.out HX.out (by rw [HQ.out]; rfl)⟩
          case measure => simp [intOf]; omega
      · have hkn : k = l.length := by omega
        have hall := HALL.out
        rw [hkn, List.take_length] at hall
        have hany := any_no hall
        have HRW := Lib.hid (fun w' h => show R (.returned (.int .i64 (if 2 < l.length then 3 else if (l.any fun i => !wrB (p.getD i.toNat default).op) then 6 else 0))) w' from by
          have h2 := HRT.out w' h
          rw [show (l.any fun i => !inB i 0 (p.length - 1)) = false from hany, if_neg (by decide)] at h2
          exact h2)
        have HIN := Lib.hid (fun x (hx : x ∈ l) => inB_true.1 (by have := hall x hx; simpa using this))
        clear hall hany hkn
        have hk3 : ¬ (k : Int) < (l.length : Int) := by omega
        by_cases hl2 : 2 < l.length
        · have t1 : (l.length : Int) > 2 := by omega
          have HF := Lib.hid (show R (.returned (.int .i64 3)) wr from by have := HRW.out wr HG.out; rw [if_pos hl2] at this; exact this)
          go_wp2_with fail
          exact HF.out
        · have t1 : ¬ (l.length : Int) > 2 := by omega
          have HRX := Lib.hid (fun w' h => show R (.returned (.int .i64 (if (l.any fun i => !wrB (p.getD i.toNat default).op) then 6 else 0))) w' from by have h2 := HRW.out w' h; rw [if_neg hl2] at h2; exact h2)
          clear hl2
          go_wp2_with fail
          obtain ⟨wo, rfl⟩ : ∃ w3 : World, w3 = wr := ⟨_, rfl⟩
          go_loopw [6, 7, 8, 9] (fun i _ _ _ wr2 => ∃ m : Nat, m ≤ l.length ∧ i = .int .i64 m ∧ Grow w wr2 ∧ ∀ y ∈ l.take m, (!wrB (p.getD y.toNat default).op) = false) (fun i _ _ _ _ => l.length - (intOf i).toNat)
          case atStart => exact ⟨0, Nat.zero_le _, rfl, HG.out, by simp⟩
          case round =>
            obtain ⟨m, hm, rfl, hg2, hall2⟩ := hrel
            have HG2 := Lib.hid hg2
            have HALL2 := Lib.hid hall2
            clear hg2 hall2
            by_cases hlt2 : m < l.length
            · obtain ⟨x, hx⟩ : ∃ x, l[m]? = some x := ⟨_, List.getElem?_eq_getElem hlt2⟩
              obtain ⟨h0, h1⟩ := HIN.out x (List.mem_of_getElem? hx)
              obtain ⟨j, rfl⟩ : ∃ j : Nat, x = j := ⟨x.toNat, by omega⟩
              have hjl : j < p.length := by omega
              obtain ⟨⟨op, d, a, b'⟩, hy⟩ : ∃ y, p[j]? = some y := ⟨_, List.getElem?_eq_getElem hjl⟩
              obtain ⟨b, o, rfl, hb, e0⟩ := ints_at (HL.out.grow HG2.out) hx
              obtain ⟨gb, go, rfl, hgb, f0, f1, f2, f3⟩ := lines_at (HP.out.grow HG2.out) hy
              have HX := Lib.hid hx
              have HWR := Lib.hid (wrI_at3 HVAL.out hy)
              have hm2 : (m : Int) < (l.length : Int) := by omega
              have hj2 : (j : Int) < (p.length : Int) := by omega
              have hj0 : (0 : Int) ≤ (j : Int) := by omega
              clear hx hy h1
              go_wp2_with fail
              refine rWrites_any op d a b' _ _ ?_
              intro w5 hg5
              rw [HWR.out]
              have HG5 := Lib.hid (HG2.out.trans hg5)
              obtain ⟨z1, hz1⟩ : ∃ z, wrO op d a b' = z := ⟨_, rfl⟩
              obtain ⟨z2, hz2⟩ : ∃ z, errB (vL op d a b') = z := ⟨_, rfl⟩
              rw [hz1, hz2]
              obtain ⟨q, hq⟩ : ∃ q, wrB (p.getD j default).op = q := ⟨_, rfl⟩
              rw [hq]
              have HQ := Lib.hid hq
              clear hg5 hz1 hz2 hq e0 f0 f1 f2 f3
              cases q with
              | false =>
                have hany : (l.any fun i => !wrB (p.getD i.toNat default).op) = true := List.any_eq_true.2 ⟨(j : Int), List.mem_of_getElem? HX.out, by rw [Int.toNat_natCast, HQ.out]; rfl⟩
                have HF := Lib.hid (show R (.returned (.int .i64 6)) w5 from by have := HRX.out w5 HG5.out; rw [hany] at this; exact this)
                clear hany
                go_wp2_with fail
                exact HF.out
              | true =>
                go_wp2_with fail
                go_roundw
                case rel => exact ⟨m + 1, by omega, by go_num, HG5.out, any_take HALL2.out HX.out (by rw [Int.toNat_natCast, HQ.out]; rfl)⟩
                case measure => simp [intOf]; omega
            · have hmn : m = l.length := by omega
              have hall := HALL2.out
              rw [hmn, List.take_length] at hall
              have hany := any_no hall
              have HF := Lib.hid (show R (.returned (.int .i64 0)) wr from by
                have h2 := HRX.out wr HG2.out
                rw [show (l.any fun i => !wrB (p.getD i.toNat default).op) = false from hany] at h2
                exact h2)
              clear hall hany hmn
              have hm3 : ¬ (m : Int) < (l.length : Int) := by omega
              go_wp2_with fail
              exact HF.out
end Go.Proofs.YtmlbgfnddgbpbaaGreat

namespace Go.Proofs.YtmlbgfnddgbpbaaGreat
open Go.RowKit
open Mk Bm

/-- The lists that come of the first i ones. -/
def pkT (M : List (List Int)) (i : Nat) : List (List Int) := (M.take i).flatMap fun l => dig.map fun n => l ++ [n]
theorem dig_length : dig.length = 25 := rfl
theorem pkT_step {M : List (List Int)} {i : Nat} {l : List Int} (h : M[i]? = some l) : pkT M (i + 1) = pkT M i ++ dig.map fun n => l ++ [n] := by
  unfold pkT; rw [List.take_add_one, h, List.flatMap_append]; simp
theorem pkT_len (M : List (List Int)) : ∀ i, i ≤ M.length → (pkT M i).length = i * 25
  | 0, _ => by unfold pkT; simp
  | i + 1, h => by
    rw [pkT_step (List.getElem?_eq_getElem (show i < M.length by omega)), List.length_append, pkT_len M i (by omega), List.length_map, dig_length]; omega
theorem pkT_all (j : Nat) : pkT (pk j) (pk j).length = pk (j + 1) := by unfold pkT; rw [List.take_length]; rfl
theorem pk_len : ∀ j, (pk j).length = 25 ^ j
  | 0 => rfl
  | j + 1 => by rw [← pkT_all, pkT_len _ _ (Nat.le_refl _), pk_len j, Nat.pow_succ]
def dgT (l : List Int) (m : Nat) : List (List Int) := (dig.take m).map fun n => l ++ [n]
theorem dgT_step {l : List Int} {m : Nat} (h : m < 25) : dgT l (m + 1) = dgT l m ++ [l ++ [(m : Int) - 12]] := by unfold dgT; rw [List.take_add_one, dig_at h, List.map_append]; rfl
theorem dgT_all (l : List Int) : dgT l 25 = dig.map fun n => l ++ [n] := rfl
theorem dgT_len (l : List Int) {m : Nat} (h : m ≤ 25) : (dgT l m).length = m := by unfold dgT; rw [List.length_map, List.length_take, dig_length]; omega
set_option maxRecDepth 100000 in
set_option maxHeartbeats 16000000 in
theorem picks_any (q : Nat) (hq : q ≤ 2) (w : World) (R : Ending → World → Prop) (hR : ∀ w' v, Grow w w' → FamAt w' v (pk q) → R (.returned v) w') :
    Calls Tryz.prog 87 #[.int .i64 (q : Int)] w R := by
  have HR := Lib.hid hR
  have hq2 : (q : Int) ≤ 2 := by omega
  clear hR
  go_enter Tryz.func87, Tryz.ntmps87
  go_wp2_with fail
  have hg0 := (Grow.refl w).alloc (.cells #[.slice none 0 0] 29)
  have hf0 : FamAt (w.alloc (.cells #[.slice none 0 0] 29)) (.slice (some ⟨w.heap.size, 0, none⟩) 1 1) [[]] := fam_blk (L := [⟨none, 0, 0, []⟩]) (heap_alloc_new w _) (by decide) (fun t ht => by simp at ht; subst ht; exact SlcAt.nil _ _ _)
  generalize w.alloc (.cells #[.slice none 0 0] 29) = W at hg0 hf0 ⊢
  generalize w.heap.size = B at hf0 ⊢
  have HG0 := Lib.hid hg0
  have HF0 := Lib.hid hf0
  clear hg0 hf0
  go_loopw [3, 4, 5, 6, 7] (fun out i _ _ _ wr => ∃ j : Nat, j ≤ q ∧ i = .int .i64 j ∧ Grow w wr ∧ FamAt wr out (pk j)) (fun _ i _ _ _ _ => q - (intOf i).toNat)
  case atStart => exact ⟨0, Nat.zero_le _, rfl, HG0.out, HF0.out⟩
  case round =>
    obtain ⟨j, hj, rfl, hg, hfm⟩ := hrel
    have HG := Lib.hid hg
    have HFM := Lib.hid hfm
    obtain ⟨oa, oc, rfl, o1, o2⟩ := hfm.out
    clear hg hfm
    by_cases hjq : j < q
    · have hj2 : (j : Int) < (q : Int) := by omega
      have hML : (pk j).length ≤ 25 := by rw [pk_len]; exact Nat.pow_le_pow_right (n := 25) (by decide) (show j ≤ 1 by omega)
      have HPA := Lib.hid (pkT_all j)
      have hml2 : ∀ l ∈ pk j, l.length ≤ 2 := fun l hl => by have := (mem_pk hl).1; omega
      obtain ⟨M, hM⟩ : ∃ M, pk j = M := ⟨_, rfl⟩
      rw [hM] at HFM hML HPA o1 hml2 ⊢
      have HML2 := Lib.hid hml2
      clear hM hml2
      go_wp2_with fail
      obtain ⟨wo, rfl⟩ : ∃ w3 : World, w3 = wr := ⟨_, rfl⟩
      go_loopw [5, 6, 7] (fun next i _ wr => ∃ (k : Nat) (L : List (Lo Int)), k ≤ M.length ∧ i = .int .i64 k ∧ Grow wo wr ∧ LoOwn wo.heap.size 29 1 encI wr next L ∧ L.map Lo.x = pkT M k) (fun _ i _ _ => M.length - (intOf i).toNat)
      case atStart => exact ⟨0, [], Nat.zero_le _, rfl, Grow.refl _, LoOwn.nil _ _ _ _ _, rfl⟩
      case round =>
        obtain ⟨k, L, hk, rfl, hg, how, hmp⟩ := hrel
        have HGK := Lib.hid hg
        have HOK := Lib.hid how
        have HMK := Lib.hid hmp
        clear hg how hmp
        by_cases hkl : k < M.length
        · obtain ⟨l, hl⟩ : ∃ x, M[k]? = some x := ⟨_, List.getElem?_eq_getElem hkl⟩
          have HLK := Lib.hid hl
          have HPS := Lib.hid (pkT_step hl)
          have HPL := Lib.hid (pkT_len M k hk)
          have hk2 : (k : Int) < (M.length : Int) := by omega
          clear hl
          go_wp2_with fail
          obtain ⟨wm, rfl⟩ : ∃ w3 : World, w3 = wr := ⟨_, rfl⟩
          go_loopw [5, 7] (fun next z wr => ∃ (m : Nat) (n : Int) (L : List (Lo Int)), m ≤ 25 ∧ n = (m : Int) - 12 ∧ z = .int .i64 n ∧ Grow wo wr ∧ LoOwn wo.heap.size 29 1 encI wr next L ∧ L.map Lo.x = pkT M k ++ dgT l m) (fun _ z _ => 25 - (intOf z + 12).toNat)
          case atStart => exact ⟨0, -12, L, by omega, rfl, rfl, HGK.out, HOK.out, by rw [HMK.out]; unfold dgT; simp⟩
          case round =>
            obtain ⟨m, n, L2, hm, hn, rfl, hg, how, hmp⟩ := hrel
            have HGM := Lib.hid hg
            have HOM := Lib.hid how
            have HMM := Lib.hid hmp
            have hzm := hg.sz
            have HN := Lib.hid hn
            have hn1 : -12 ≤ n := by omega
            have hn2 : n ≤ 13 := by omega
            clear hg how hmp
            by_cases hml : m < 25
            · have hn3 : n ≤ 12 := by omega
              have HDS := Lib.hid (dgT_step (l := l) hml)
              have HLE := Lib.hid (show L2.length < 100000000000 by
                have h1 := congrArg List.length HMM.out
                have h2 := HPL.out
                have h3 := dgT_len l hm
                rw [List.length_map, List.length_append] at h1
                omega)
              have HFW := Lib.hid (HFM.out.grow HGM.out)
              obtain ⟨b', o', ta, tc, hoa, hb', e1, hi⟩ := fam_at HFW.out HLK.out
              subst hoa
              have HI := Lib.hid hi
              have hil := hi.len_le
              have hl2 := HML2.out l (List.mem_of_getElem? HLK.out)
              clear hi hn
              go_wp2_with (at_builtin; refine Classical.byContradiction (fun hcon => ?_))
              refine hcon ?_
              clear hcon
              refine wpList_appAll _ rfl (.tmp 25) (.tmp 29) 29 rfl wr.heap.size 3 Tryz.underlying29 info_int rfl (by decide) (by decide) encI encI_len encI_one _ [] rfl (ownsRow_empty wr 1 _ _ _ (Nat.le_refl _)) _ l rfl (HI.out.grow ((Grow.refl wr).alloc _)) (by simp; omega) (by simp) ?_
              intro v3 w3 hown3 hgr3
              rw [List.nil_append] at hown3
              have hg3 : Grow wr w3 := grown_below (ownsRow_empty wr 1 3 encI _ (Nat.le_refl _)) hgr3 (Nat.le_refl _) (by simp) ((Grow.refl wr).alloc _)
              have HO3 := Lib.hid hown3
              have HG3 := Lib.hid hg3
              have hz3 := hg3.sz
              clear hown3 hgr3 hg3 e1
              go_wp2_with (at_builtin; refine Classical.byContradiction (fun hcon => ?_))
              refine hcon ?_
              clear hcon
              refine wpList_app _ rfl (.tmp 30) (.tmp 32) 29 rfl wr.heap.size 3 Tryz.underlying29 info_int rfl (by decide) (by decide) encI encI_len encI_one v3 l rfl (((Grow.refl w3).alloc _).owns HO3.out) _ n 1 rfl (newsG w3 _ rfl (encI n) 3) (by omega) (by simp; omega) ?_
              intro v4 w4 hown4 hgr4
              have hg4 : Grow wr w4 := grown_below HO3.out hgr4 (Nat.le_refl _) (by simp; omega) (HG3.out.alloc (.cells #[.int .i64 n] 3))
              obtain ⟨a4, c4, hv4, jk4⟩ := slc_of_owns encI_len hown4
              subst hv4
              have HX4 := Lib.hid (show IntsAt w4 (.slice a4 (l ++ [n]).length c4) (l ++ [n]) from ⟨a4, c4, rfl, jk4⟩)
              have HOF := Lib.hid (HOM.out.new (⟨_, hown4⟩ : Own 1 encI wr.heap.size w4 (.slice a4 (l ++ [n]).length c4) (l ++ [n])))
              have HG4 := Lib.hid (HGM.out.trans hg4)
              have HO4 := Lib.hid (HOM.out.grow hg4)
              have hz4 := hg4.sz
              obtain ⟨n4, hn4⟩ : ∃ z, (l ++ [n]).length = z := ⟨_, rfl⟩
              rw [hn4] at HX4 ⊢
              clear hown4 hgr4 hg4 jk4 hn4
              go_wp2_with (at_builtin; refine Classical.byContradiction (fun hcon => ?_))
              refine hcon ?_
              clear hcon
              refine wpList_appAt _ rfl (.tmp 24) (.tmp 34) 22 rfl wo.heap.size 29 Tryz.underlying22 info_sli rfl (by decide) (by decide) encLo encLo_len encLo_one _ L2 rfl (((Grow.refl w4).alloc _).owns HO4.out.row) _ (⟨a4, n4, c4, l ++ [n]⟩ : Lo Int) 1 rfl (newsG w4 _ rfl (encLo (⟨a4, n4, c4, l ++ [n]⟩ : Lo Int)) 29) HLE.out (by simp; omega) ?_
              intro out2 w5 hown5 hgr5 hat5
              have hgA := (Grow.refl w4).alloc (.cells #[.slice a4 n4 c4] 29)
              have HG5 := Lib.hid (show Grow wo w5 from grown_below HO4.out.row hgr5 (Nat.le_refl _) (by simp; omega) (HG4.out.alloc _))
              have hoff : ∀ b o s, a4 = some ⟨b, o, s⟩ → u5.ownBlock ≠ some b ∧ b < (w4.alloc (.cells #[.slice a4 n4 c4] 29)).heap.size := fun b o s h => ⟨(HOF.out b o s h).1, by have := (HOF.out b o s h).2; simp; omega⟩
              have HO5 := Lib.hid ((HO4.out.grow hgA).app (t := (⟨a4, n4, c4, l ++ [n]⟩ : Lo Int)) hgr5 hown5 hat5 (HX4.out.grow hgA) hoff)
              clear hown5 hgr5 hat5 hoff hgA
              go_wp2_with fail
              go_roundw
              case rel => exact ⟨m + 1, n + 1, L2 ++ [(⟨a4, n4, c4, l ++ [n]⟩ : Lo Int)], by omega, by have := HN.out; omega, by first | rfl | go_num, HG5.out, HO5.out, by rw [List.map_append, HMM.out, HDS.out, ← HN.out, List.append_assoc]; rfl⟩
              case measure => simp [intOf]; have := HN.out; omega
            · obtain rfl : m = 25 := by omega
              have hn3 : ¬ n ≤ 12 := by omega
              have hmp := HMM.out
              rw [dgT_all, ← HPS.out] at hmp
              have HMP := Lib.hid hmp
              clear hmp hn
              go_wp2_with fail
              go_roundw
              case rel => exact ⟨k + 1, L2, by omega, by go_num, HGM.out, HOM.out, HMP.out⟩
              case measure => simp [intOf]; omega
        · have hkn : k = M.length := by omega
          have hmp := HMK.out
          rw [hkn, HPA.out] at hmp
          have HFN := Lib.hid (show FamAt wr _ (pk (j + 1)) from ⟨L, HOK.out.at_, HOK.out.ins, hmp⟩)
          have HGN := Lib.hid (HG.out.trans HGK.out)
          have hk3 : ¬ (k : Int) < (M.length : Int) := by omega
          clear hmp hkn
          go_wp2_with fail
          go_roundw
          case rel => exact ⟨j + 1, by omega, by go_num, HGN.out, HFN.out⟩
          case measure => simp [intOf]; omega
    · obtain rfl : j = q := by omega
      have HF := Lib.hid (HR.out wr _ HG.out HFM.out)
      go_wp2_with fail
      exact HF.out
end Go.Proofs.YtmlbgfnddgbpbaaGreat

namespace Go.Proofs.YtmlbgfnddgbpbaaGreat
open Go.RowKit
open Mk Bm

theorem find_none {α : Type} {M : List α} {pr : α → Bool} (h : ∀ y ∈ M, pr y = false) : M.find? pr = none := List.find?_eq_none.2 fun y hy => by rw [h y hy]; decide
theorem find_at {α : Type} {M : List α} {pr : α → Bool} {k : Nat} {y : α} (h : ∀ z ∈ M.take k, pr z = false) (hy : M[k]? = some y) (hp : pr y = true) : M.find? pr = some y := by
  obtain ⟨hk, e⟩ := List.getElem?_eq_some_iff.1 hy
  rw [← List.take_append_drop k M, List.find?_append, find_none h, Option.none_or, List.drop_eq_getElem_cons hk, e, List.find?_cons, hp]
theorem fam_take {M : List (List Int)} {pr : List Int → Bool} {k : Nat} {y : List Int} (h : ∀ z ∈ M.take k, pr z = false) (hy : M[k]? = some y) (hp : pr y = false) : ∀ z ∈ M.take (k + 1), pr z = false := fun z hz => by
  rw [List.take_add_one, hy] at hz
  rcases List.mem_append.1 hz with hz | hz
  · exact h z hz
  · simp at hz; subst hz; exact hp
set_option maxRecDepth 100000 in
set_option maxHeartbeats 16000000 in
theorem r3canPass_any (p : List Ln) (t : Tst) (lines : List Int) (M : List (List Int)) (hM : ∀ l ∈ M, l.length = lines.length ∧ ∀ n ∈ l, -12 ≤ n ∧ n ≤ 12) (hval : valP p = 0) (htok : t.ok = true) (hln : lnE p lines = 0) (pv lv mv : Value) (w : World) (hp : LinesAt w pv p) (ht : IntsAt w t.v t.xs) (hl : IntsAt w lv lines) (hm : FamAt w mv M)
    (R : Ending → World → Prop) (hR : ∀ w' v, Grow w w' → IntsAt w' v ((M.find? (fpass p t lines)).getD []) → R (.returned (.tuple #[v, .bool (M.find? (fpass p t lines)).isSome])) w') :
    Calls Tryz.prog 103 #[pv, .agg #[t.v, .int .i64 t.o, .int .i64 t.wt], lv, mv] w R := by
  have HFC := Lib.hid (fun y (hy : y ∈ M) => frcE_of hval htok hln (hM y hy).1 fun n hn => by have := (hM y hy).2 n hn; omega)
  have HPS := Lib.hid (fun vs => show fpass p t lines vs = decide ((trc p (frc lines vs) 0 (St.ofL t.xs)).2.get t.o = t.wt) from rfl)
  obtain ⟨v, xs, o, wt⟩ := t
  obtain ⟨k1, ⟨k2, k3⟩, _⟩ := Tst.ok_iff.1 htok
  dsimp only at ht k1 k2 k3 hR HFC HPS ⊢
  have HP := Lib.hid hp
  have HT := Lib.hid ht
  have HL := Lib.hid hl
  have HMM := Lib.hid hm
  obtain ⟨pr, hpr⟩ : ∃ z, fpass p ⟨v, xs, o, wt⟩ lines = z := ⟨_, rfl⟩
  rw [hpr] at hR HPS
  have HR := Lib.hid hR
  obtain ⟨n, rfl⟩ : ∃ n : Nat, o = n := ⟨o.toNat, by omega⟩
  obtain ⟨pa, pc, rfl, _⟩ := hp
  obtain ⟨sa, sc, rfl, _⟩ := ht
  obtain ⟨la, lc, rfl, _⟩ := hl
  obtain ⟨ma, mc, rfl, m1, m2⟩ := hm.out
  clear hR hval htok hln hM hm hpr k1
  go_enter Tryz.func103, Tryz.ntmps103
  go_wp2_with fail
  have hg := (Grow.refl w).alloc (.cells #[.slice sa xs.length sc, .int .i64 (n : Int), .int .i64 wt] 37)
  have hb := heap_alloc_new w (.cells #[.slice sa xs.length sc, .int .i64 (n : Int), .int .i64 wt] 37)
  generalize w.alloc (.cells #[.slice sa xs.length sc, .int .i64 (n : Int), .int .i64 wt] 37) = W at hg hb ⊢
  obtain ⟨bt, hbt⟩ : ∃ b, w.heap.size = b := ⟨_, rfl⟩
  rw [hbt] at hb ⊢
  have HG := Lib.hid hg
  have HB := Lib.hid hb
  clear hg hb hbt
  go_loopw [10, 11, 12] (fun i _ _ wr => ∃ k : Nat, k ≤ M.length ∧ i = .int .i64 k ∧ Grow W wr ∧ ∀ y ∈ M.take k, pr y = false) (fun i _ _ _ => M.length - (intOf i).toNat)
  case atStart => exact ⟨0, Nat.zero_le _, rfl, Grow.refl _, by simp⟩
  case round =>
    obtain ⟨k, hk, rfl, hgr, hall⟩ := hrel
    have HALL := Lib.hid hall
    have HGW := Lib.hid (HG.out.trans hgr)
    have hbr := hgr.blk HB.out
    have HBR := Lib.hid hbr
    have HGR := Lib.hid hgr
    clear hgr hall hbr
    by_cases hlt : k < M.length
    · obtain ⟨y, hy⟩ : ∃ y, M[k]? = some y := ⟨_, List.getElem?_eq_getElem hlt⟩
      have hfe := HFC.out y (List.mem_of_getElem? hy)
      have hpy := HPS.out y
      obtain ⟨s, hs⟩ : ∃ s, (trc p (frc lines y) 0 (St.ofL xs)).2 = s := ⟨_, rfl⟩
      have hfm : frcM p xs lines y = s.toL := by unfold frcM; rw [hfe, ifOK_ok, hs]
      rw [hs] at hpy
      obtain ⟨q, hq⟩ : ∃ q, s.get (n : Int) = q := ⟨_, rfl⟩
      rw [hq] at hpy
      have hx : s.toL[n]? = some q := by have := toL_get s (n : Int) k2 k3; rw [hq] at this; simpa using this
      have HX := Lib.hid hx
      have HFE := Lib.hid hfe
      have HFM := Lib.hid hfm
      have HPY := Lib.hid hpy
      have HY := Lib.hid hy
      have hk2 : (k : Int) < (M.length : Int) := by omega
      obtain ⟨b', o', ta, tc, hma, hb', e1, hi⟩ := fam_at (HMM.out.grow HGW.out) hy
      subst hma
      have HI := Lib.hid hi
      obtain ⟨d0, d1, d2⟩ := box3 HBR.out
      have hdz := lt_of_block HBR.out
      have E1 := Lib.hid e1
      have D0 := Lib.hid d0
      clear hfe hpy hs hfm hq hx hy hi e1 d0 d1 d2
      go_wp2_with fail
      refine wp_region_held_drew (S := fun X => Grow wr X) (by kernel_rfl) ((Grow.refl wr).drew) (fun hH => ?_)
      refine wpAnyH_take (i := 0) (v := .slice pa p.length pc) rfl (by kernel_rfl) (by kernel_rfl) (by kernel_rfl) (fun _ _ _ h => h) (Or.inl ⟨by rfl, ?_⟩) hH ?_
      · intro w9 hw9
        go_simp
      try simp only [List.getElem_toArray, List.getElem_cons_zero, Act.put, List.setIfInBounds_toArray, List.set_cons_zero, List.set_cons_succ]
      refine wpAnyH_take (i := 1) (v := .pointer (some ⟨bt, 0, none⟩)) rfl (by kernel_rfl) (by kernel_rfl) (by kernel_rfl) (fun _ _ _ h => h) (Or.inl ⟨by rfl, ?_⟩) hH ?_
      · intro w9 hw9
        have hz := hw9.sz
        go_simp
      try simp only [List.getElem_toArray, List.getElem_cons_succ, List.getElem_cons_zero, Act.put, List.setIfInBounds_toArray, List.set_cons_zero, List.set_cons_succ]
      refine wpAnyH_take (i := 2) (v := .slice sa xs.length sc) rfl (by kernel_rfl) (by kernel_rfl) (by kernel_rfl) (fun _ _ _ h => h) (Or.inl ⟨by rfl, ?_⟩) hH ?_
      · intro w9 hw9
        have u0 := hw9.cell D0.out
        go_simp
      try simp only [List.getElem_toArray, List.getElem_cons_succ, List.getElem_cons_zero, Act.put, List.setIfInBounds_toArray, List.set_cons_zero, List.set_cons_succ]
      refine wpAnyH_take (i := 3) (v := .slice la lines.length lc) rfl (by kernel_rfl) (by kernel_rfl) (by kernel_rfl) (fun _ _ _ h => h) (Or.inl ⟨by rfl, ?_⟩) hH ?_
      · intro w9 hw9
        go_simp
      try simp only [List.getElem_toArray, List.getElem_cons_succ, List.getElem_cons_zero, Act.put, List.setIfInBounds_toArray, List.set_cons_zero, List.set_cons_succ]
      refine wpAnyH_take (i := 4) (v := .slice (some ⟨b', o', none⟩) M.length mc) rfl (by kernel_rfl) (by kernel_rfl) (by kernel_rfl) (fun _ _ _ h => h) (Or.inl ⟨by rfl, ?_⟩) hH ?_
      · intro w9 hw9
        go_simp
      try simp only [List.getElem_toArray, List.getElem_cons_succ, List.getElem_cons_zero, Act.put, List.setIfInBounds_toArray, List.set_cons_zero, List.set_cons_succ]
      refine wpAnyH_take (i := 5) (v := .int .i64 (k : Int)) rfl (by kernel_rfl) (by kernel_rfl) (by kernel_rfl) (fun _ _ _ h => h) (Or.inl ⟨by rfl, ?_⟩) hH ?_
      · intro w9 hw9
        go_simp
      try simp only [List.getElem_toArray, List.getElem_cons_succ, List.getElem_cons_zero, Act.put, List.setIfInBounds_toArray, List.set_cons_zero, List.set_cons_succ]
      refine wpAnyH_take (i := 6) (v := .pointer (some ⟨b', o' + k, none⟩)) rfl (by kernel_rfl) (by kernel_rfl) (by kernel_rfl) (fun _ _ _ h => h) (Or.inl ⟨by rfl, ?_⟩) hH ?_
      · intro w9 hw9
        have hz := hw9.sz
        go_simp
      try simp only [List.getElem_toArray, List.getElem_cons_succ, List.getElem_cons_zero, Act.put, List.setIfInBounds_toArray, List.set_cons_zero, List.set_cons_succ]
      refine wpAnyH_take (i := 7) (v := .slice ta y.length tc) rfl (by kernel_rfl) (by kernel_rfl) (by kernel_rfl) (fun _ _ _ h => h) (Or.inl ⟨by rfl, ?_⟩) hH ?_
      · intro w9 hw9
        have u0 := hw9.cell E1.out
        go_simp
      try simp only [List.getElem_toArray, List.getElem_cons_succ, List.getElem_cons_zero, Act.put, List.setIfInBounds_toArray, List.set_cons_zero, List.set_cons_succ]
      refine wpAnyH_ready (rs := [8]) (by kernel_rfl) (by simp) ?_
      refine AllReadyH.cons rfl (fun K hK => ?_) AllReadyH.nil
      go_simp
      refine rForce_any p xs lines y _ _ _ _ _ (HP.out.grow (HGW.out.trans hH)) (HT.out.grow (HGW.out.trans hH)) (HL.out.grow (HGW.out.trans hH)) (HI.out.grow hH) _ ?_
      intro w2 x2 hg2 hx2
      rw [HFE.out]
      rw [HFM.out] at hx2
      have hH3 : Grow wr w2 := Grow.trans hH hg2
      have hll4 : s.toL.length = 4 := rfl
      obtain ⟨a2, c2, rfl, q1, q2, q3⟩ := hx2
      have hx3 : IntsAt w2 (.slice a2 s.toL.length c2) s.toL := ⟨a2, c2, rfl, q1, q2, q3⟩
      obtain ⟨gb, go, rfl, hgb, f0⟩ := ints_at hx3 (k := n) (x := q) HX.out
      rw [hll4]
      have F0 := Lib.hid f0
      clear hg2 hx3 q1 q2 q3 hll4 f0
      go_wp2_with fail
      refine hK.out _ _ hH3 (fun hH2 => ?_)
      clear hK K hH
      have hH := hH2
      clear hH2
      try simp only [List.getElem_toArray, List.getElem_cons_succ, List.getElem_cons_zero, Act.put, List.setIfInBounds_toArray, List.set_cons_zero, List.set_cons_succ]
      refine wpAnyH_take (i := 9) (v := .tuple #[.slice (some ⟨gb, go, none⟩) 4 c2, .int .i64 0]) rfl (by kernel_rfl) (by kernel_rfl) (by kernel_rfl) (fun _ _ _ h => h) (Or.inl ⟨by rfl, ?_⟩) hH ?_
      · intro w9 hw9
        go_simp
      try simp only [List.getElem_toArray, List.getElem_cons_succ, List.getElem_cons_zero, Act.put, List.setIfInBounds_toArray, List.set_cons_zero, List.set_cons_succ]
      refine wpAnyH_take (i := 10) (v := .slice (some ⟨gb, go, none⟩) 4 c2) rfl (by kernel_rfl) (by kernel_rfl) (by kernel_rfl) (fun _ _ _ h => h) (Or.inl ⟨by rfl, ?_⟩) hH ?_
      · intro w9 hw9
        go_simp
      try simp only [List.getElem_toArray, List.getElem_cons_succ, List.getElem_cons_zero, Act.put, List.setIfInBounds_toArray, List.set_cons_zero, List.set_cons_succ]
      refine wpAnyH_take (i := 11) (v := .int .i64 0) rfl (by kernel_rfl) (by kernel_rfl) (by kernel_rfl) (fun _ _ _ h => h) (Or.inl ⟨by rfl, ?_⟩) hH ?_
      · intro w9 hw9
        go_simp
      try simp only [List.getElem_toArray, List.getElem_cons_succ, List.getElem_cons_zero, Act.put, List.setIfInBounds_toArray, List.set_cons_zero, List.set_cons_succ]
      refine wpAnyH_take (i := 12) (v := .slice (some ⟨gb, go, none⟩) 4 c2) rfl (by kernel_rfl) (by kernel_rfl) (by kernel_rfl) (fun _ _ _ h => h) (Or.inl ⟨by rfl, ?_⟩) hH ?_
      · intro w9 hw9
        go_simp
      try simp only [List.getElem_toArray, List.getElem_cons_succ, List.getElem_cons_zero, Act.put, List.setIfInBounds_toArray, List.set_cons_zero, List.set_cons_succ]
      refine wpAnyH_take (i := 13) (v := .int .i64 0) rfl (by kernel_rfl) (by kernel_rfl) (by kernel_rfl) (fun _ _ _ h => h) (Or.inl ⟨by rfl, ?_⟩) hH ?_
      · intro w9 hw9
        go_simp
      try simp only [List.getElem_toArray, List.getElem_cons_succ, List.getElem_cons_zero, Act.put, List.setIfInBounds_toArray, List.set_cons_zero, List.set_cons_succ]
      refine wpAnyH_done (by kernel_rfl) ?_ _
      have HG2 := Lib.hid (HGR.out.trans hH3)
      have HGV := Lib.hid (HG.out.trans (HGR.out.trans hH3))
      obtain ⟨d0, d1, d2⟩ := box3 (hH3.blk HBR.out)
      have hdz2 := lt_of_block (hH3.blk HBR.out)
      have e1 := hH3.cell E1.out
      have hb2 := Nat.lt_of_lt_of_le hb' hH3.sz
      have f0 := F0.out
      have HI2 := Lib.hid (HI.out.grow hH3)
      clear hH hH3
      have hn4 : (n : Int) < 4 := by omega
      have hn0 : (0 : Int) ≤ (n : Int) := by omega
      by_cases hqw : q = wt
      · have t1 : (q == wt) = true := by simpa using hqw
        have hpt : pr y = true := by rw [HPY.out]; exact decide_eq_true hqw
        have hfi := find_at HALL.out HY.out hpt
        have HF := Lib.hid (fun j => show R (.returned (.tuple #[.slice ta y.length tc, .bool true])) (w2.drewN j) from by
          have h := HR.out (w2.drewN j) (.slice ta y.length tc) (HGV.out.drewN j)
          rw [hfi] at h
          exact h (HI2.out.grow ((Grow.refl w2).drewN j)))
        clear hqw hpt hfi
        go_wp2_with (go_quiet (fail))
        first | exact HF.out _ | exact HF.out 0
      · have t1 : (q == wt) = false := by simpa using hqw
        have HAN := Lib.hid (fam_take HALL.out HY.out (by rw [HPY.out]; exact decide_eq_false hqw))
        clear hqw
        go_wp2_with (go_quiet (fail))
        go_roundw
        case rel => exact ⟨k + 1, by omega, by go_num, HG2.out.drewN _, HAN.out⟩
        case measure => simp [intOf]; omega
    · have hkn : k = M.length := by omega
      have hall := HALL.out
      rw [hkn, List.take_length] at hall
      have hfi := find_none hall
      have HF := Lib.hid (show R (.returned (.tuple #[.slice none 0 0, .bool false])) wr from by
        have h := HR.out wr (.slice none 0 0) HGW.out
        rw [hfi] at h
        exact h (SlcAt.nil _ _ _))
      have hk3 : ¬ (k : Int) < (M.length : Int) := by omega
      clear hall hfi hkn
      go_wp2_with fail
      exact HF.out
end Go.Proofs.YtmlbgfnddgbpbaaGreat

namespace Go.Proofs.YtmlbgfnddgbpbaaGreat
open Go.RowKit
open Mk Bm

set_option maxRecDepth 100000 in
set_option maxHeartbeats 8000000 in
theorem r3CanPass_any (p : List Ln) (t : Tst) (lines : List Int) (pv lv : Value) (w : World) (hp : LinesAt w pv p) (ht : IntsAt w t.v t.xs) (hl : IntsAt w lv lines)
    (R : Ending → World → Prop) (hR : ∀ w' v, Grow w w' → IntsAt w' v ((cpO p t lines).getD []) → R (.returned (.tuple #[v, .bool (cpO p t lines).isSome, .int .i64 (cpE p t lines)])) w') :
    Calls Tryz.prog 49 #[pv, .agg #[t.v, .int .i64 t.o, .int .i64 t.wt], lv] w R := by
  have HP := Lib.hid hp
  have HT := Lib.hid ht
  have HL := Lib.hid hl
  obtain ⟨e, he⟩ : ∃ e, chkT p [t] = e := ⟨_, rfl⟩
  obtain ⟨e', he'⟩ : ∃ e, lnE p lines = e := ⟨_, rfl⟩
  have hE : cpE p t lines = if e = 0 then e' else e := by unfold cpE; rw [he, he']
  have HE := Lib.hid he
  have HE' := Lib.hid he'
  have hNIL : cpE p t lines ≠ 0 → ∀ w' v, Grow w w' → IntsAt w' v [] → R (.returned (.tuple #[v, .bool false, .int .i64 (cpE p t lines)])) w' := fun h w' v hg hv => by
    have := hR w' v hg
    unfold cpO at this
    rw [if_neg h] at this
    exact this hv
  have hYES : cpE p t lines = 0 → ∀ w' v, Grow w w' → IntsAt w' v ((can p t lines).getD []) → R (.returned (.tuple #[v, .bool (can p t lines).isSome, .int .i64 0])) w' := fun h w' v hg hv => by
    have := hR w' v hg
    unfold cpO at this
    rw [if_pos h, h] at this
    exact this hv
  have HNIL := Lib.hid hNIL
  have HYES := Lib.hid hYES
  obtain ⟨v, xs, o, wt⟩ := t
  dsimp only at ht HT HE hE HYES HNIL ⊢
  have HC := Lib.hid hE
  obtain ⟨pa, pc, rfl, _⟩ := hp
  obtain ⟨sa, sc, rfl, _⟩ := ht
  obtain ⟨la, lc, rfl, _⟩ := hl
  clear hR hNIL hYES hE he he'
  have hb0 := heap_two0 w (.cells #[.slice sa xs.length sc, .int .i64 o, .int .i64 wt] 37) (.cells #[.slice sa xs.length sc, .int .i64 o, .int .i64 wt] 37)
  have hg2 : Grow w ((w.alloc (.cells #[.slice sa xs.length sc, .int .i64 o, .int .i64 wt] 37)).alloc (.cells #[.slice sa xs.length sc, .int .i64 o, .int .i64 wt] 37)) := ((Grow.refl w).alloc _).alloc _
  have htl := tests_lit (w.alloc (.cells #[.slice sa xs.length sc, .int .i64 o, .int .i64 wt] 37)) ⟨.slice sa xs.length sc, xs, o, wt⟩ 37 (HT.out.grow ((Grow.refl w).alloc _))
  rw [World.size_alloc] at htl
  have HB0 := Lib.hid hb0
  have HG2 := Lib.hid hg2
  have HTL := Lib.hid htl
  clear hb0 hg2 htl

  by_cases h0 : e = 0
  rotate_left
  · have t1 : (e != 0) = true := by simpa using h0
    have hce : cpE p ⟨.slice sa xs.length sc, xs, o, wt⟩ lines = e := by rw [HC.out, if_neg h0]
    have HF := Lib.hid (fun w' v hg hv => show R (.returned (.tuple #[v, .bool false, .int .i64 e])) w' from by have := HNIL.out (by rw [hce]; exact h0) w' v hg hv; rw [hce] at this; exact this)
    clear h0 hce
    go_enter Tryz.func49, Tryz.ntmps49
    go_wp2_with fail
    generalize (w.alloc (.cells #[.slice sa xs.length sc, .int .i64 o, .int .i64 wt] 37)).alloc (.cells #[.slice sa xs.length sc, .int .i64 o, .int .i64 wt] 37) = W at HB0 HG2 HTL ⊢
    refine r3tested_any p [⟨.slice sa xs.length sc, xs, o, wt⟩] _ _ _ (HP.out.grow HG2.out) HTL.out _ ?_
    intro w3 hg3
    rw [HE.out]
    have HG3 := Lib.hid (HG2.out.trans hg3)
    have HB3 := Lib.hid (hg3.blk HB0.out)
    clear hg3
    go_wp2_with fail
    exact bodyPost_ret (by simp [results, Tryz.results49, go_sem]) rfl (HF.out _ _ HG3.out (SlcAt.nil _ _ _))
  subst h0
  have hce : cpE p ⟨.slice sa xs.length sc, xs, o, wt⟩ lines = e' := by rw [HC.out, if_pos rfl]
  have HCE := Lib.hid hce
  obtain ⟨hval, htv⟩ := chkT_ok.1 HE.out
  have HVAL := Lib.hid hval
  have HTOK := Lib.hid ((valT_ok.1 htv).2 _ (List.mem_cons_self ..))
  clear hce hval htv
  by_cases h1 : e' = 0
  rotate_left
  · have t1 : (e' != 0) = true := by simpa using h1
    have HF := Lib.hid (fun w' v hg hv => show R (.returned (.tuple #[v, .bool false, .int .i64 e'])) w' from by have := HNIL.out (by rw [HCE.out]; exact h1) w' v hg hv; rw [HCE.out] at this; exact this)
    clear h1
    go_enter Tryz.func49, Tryz.ntmps49
    go_wp2_with fail
    generalize (w.alloc (.cells #[.slice sa xs.length sc, .int .i64 o, .int .i64 wt] 37)).alloc (.cells #[.slice sa xs.length sc, .int .i64 o, .int .i64 wt] 37) = W at HB0 HG2 HTL ⊢
    refine r3tested_any p [⟨.slice sa xs.length sc, xs, o, wt⟩] _ _ _ (HP.out.grow HG2.out) HTL.out _ ?_
    intro w3 hg3
    rw [HE.out]
    have HG3 := Lib.hid (HG2.out.trans hg3)
    have HB3 := Lib.hid (hg3.blk HB0.out)
    clear hg3
    go_wp2_with fail
    refine lined_any p lines _ _ _ (HP.out.grow HG3.out) (HL.out.grow HG3.out) HVAL.out _ ?_
    intro w4 hg4
    rw [HE'.out]
    have HG4 := Lib.hid (HG3.out.trans hg4)
    have HB4 := Lib.hid (hg4.blk HB3.out)
    obtain ⟨d0, d1, d2⟩ := box3 (hg4.blk HB3.out)
    have hdz := lt_of_block (hg4.blk HB3.out)
    clear hg4
    go_wp2_with fail
    exact bodyPost_ret (by simp [results, Tryz.results49, go_sem]) rfl (HF.out _ _ HG4.out (SlcAt.nil _ _ _))
  subst h1
  go_enter Tryz.func49, Tryz.ntmps49
  go_wp2_with fail
  generalize (w.alloc (.cells #[.slice sa xs.length sc, .int .i64 o, .int .i64 wt] 37)).alloc (.cells #[.slice sa xs.length sc, .int .i64 o, .int .i64 wt] 37) = W at HB0 HG2 HTL ⊢
  refine r3tested_any p [⟨.slice sa xs.length sc, xs, o, wt⟩] _ _ _ (HP.out.grow HG2.out) HTL.out _ ?_
  intro w3 hg3
  rw [HE.out]
  have HG3 := Lib.hid (HG2.out.trans hg3)
  have HB3 := Lib.hid (hg3.blk HB0.out)
  clear hg3
  go_wp2_with fail
  refine lined_any p lines _ _ _ (HP.out.grow HG3.out) (HL.out.grow HG3.out) HVAL.out _ ?_
  intro w4 hg4
  rw [HE'.out]
  have HG4 := Lib.hid (HG3.out.trans hg4)
  have HB4 := Lib.hid (hg4.blk HB3.out)
  obtain ⟨d0, d1, d2⟩ := box3 (hg4.blk HB3.out)
  have hdz := lt_of_block (hg4.blk HB3.out)
  clear hg4
  have hll := (lnE_ok.1 HE'.out).2.2.1
  go_wp2_with fail
  clear d0 d1 d2
  refine wp_region_held_drew (S := fun X => Grow w4 X) (by kernel_rfl) ((Grow.refl w4).drew) (fun hH => ?_)
  refine wpAnyH_take (i := 0) (v := .slice pa p.length pc) rfl (by kernel_rfl) (by kernel_rfl) (by kernel_rfl) (fun _ _ _ h => h) (Or.inl ⟨by rfl, ?_⟩) hH ?_
  · intro w9 hw9
    go_simp
  try simp only [List.getElem_toArray, List.getElem_cons_zero, Act.put, List.setIfInBounds_toArray, List.set_cons_zero, List.set_cons_succ]
  refine wpAnyH_take (i := 1) (v := .agg #[.slice sa xs.length sc, .int .i64 o, .int .i64 wt]) rfl (by kernel_rfl) (by kernel_rfl) (by kernel_rfl) (fun _ _ _ h => h) (Or.inl ⟨by rfl, ?_⟩) hH ?_
  · intro w9 hw9
    obtain ⟨u0, u1, u2⟩ := box3 (hw9.blk HB4.out)
    go_simp
  try simp only [List.getElem_toArray, List.getElem_cons_succ, List.getElem_cons_zero, Act.put, List.setIfInBounds_toArray, List.set_cons_zero, List.set_cons_succ]
  refine wpAnyH_take (i := 2) (v := .slice la lines.length lc) rfl (by kernel_rfl) (by kernel_rfl) (by kernel_rfl) (fun _ _ _ h => h) (Or.inl ⟨by rfl, ?_⟩) hH ?_
  · intro w9 hw9
    go_simp
  try simp only [List.getElem_toArray, List.getElem_cons_succ, List.getElem_cons_zero, Act.put, List.setIfInBounds_toArray, List.set_cons_zero, List.set_cons_succ]
  refine wpAnyH_take (i := 3) (v := .slice la lines.length lc) rfl (by kernel_rfl) (by kernel_rfl) (by kernel_rfl) (fun _ _ _ h => h) (Or.inl ⟨by rfl, ?_⟩) hH ?_
  · intro w9 hw9
    go_simp
  try simp only [List.getElem_toArray, List.getElem_cons_succ, List.getElem_cons_zero, Act.put, List.setIfInBounds_toArray, List.set_cons_zero, List.set_cons_succ]
  refine wpAnyH_take (i := 4) (v := .int .i64 (lines.length : Int)) rfl (by kernel_rfl) (by kernel_rfl) (by kernel_rfl) (fun _ _ _ h => h) (Or.inl ⟨by rfl, ?_⟩) hH ?_
  · intro w9 hw9
    go_simp
  try simp only [List.getElem_toArray, List.getElem_cons_succ, List.getElem_cons_zero, Act.put, List.setIfInBounds_toArray, List.set_cons_zero, List.set_cons_succ]
  refine wpAnyH_ready (rs := [5]) (by kernel_rfl) (by simp) ?_
  refine AllReadyH.cons rfl (fun K hK => ?_) AllReadyH.nil
  go_simp
  refine picks_any lines.length (by omega) _ _ ?_
  intro w5 v5 hg5 hf5
  have hH5 : Grow w4 w5 := Grow.trans hH hg5
  have HF5 := Lib.hid hf5
  obtain ⟨a5, c5, rfl, _⟩ := hf5.out
  clear hg5 hf5
  go_wp2_with fail
  refine hK.out _ _ hH5 (fun hH2 => ?_)
  clear hK K hH
  have hH := hH2
  clear hH2
  try simp only [List.getElem_toArray, List.getElem_cons_succ, List.getElem_cons_zero, Act.put, List.setIfInBounds_toArray, List.set_cons_zero, List.set_cons_succ]
  refine wpAnyH_ready (rs := [6]) (by kernel_rfl) (by simp) ?_
  refine AllReadyH.cons rfl (fun K hK => ?_) AllReadyH.nil
  go_simp
  refine r3canPass_any p ⟨.slice sa xs.length sc, xs, o, wt⟩ lines (pk lines.length) (fun l hl => mem_pk hl) HVAL.out HTOK.out HE'.out _ _ _ _ (HP.out.grow (HG4.out.trans hH)) (HT.out.grow (HG4.out.trans hH)) (HL.out.grow (HG4.out.trans hH)) HF5.out _ ?_
  intro w6 v6 hg6 hv6
  have hH6 : Grow w4 w6 := Grow.trans hH hg6
  have hY := HYES.out HCE.out w6
  obtain ⟨rs, hrs⟩ : ∃ z, can p ⟨.slice sa xs.length sc, xs, o, wt⟩ lines = z := ⟨_, rfl⟩
  have hcan : (pk lines.length).find? (fpass p ⟨.slice sa xs.length sc, xs, o, wt⟩ lines) = rs := hrs
  rw [hcan] at hv6 ⊢
  rw [hrs] at hY
  have HV6 := Lib.hid hv6
  have HY := Lib.hid hY
  have HG6 := Lib.hid (HG4.out.trans hH6)
  clear hg6 hv6 hY hrs hcan
  cases rs with
  | none =>
    go_wp2_with fail
    refine hK.out _ _ hH6 (fun hH2 => ?_)
    clear hK K hH
    have hH := hH2
    clear hH2
    try simp only [List.getElem_toArray, List.getElem_cons_succ, List.getElem_cons_zero, Act.put, List.setIfInBounds_toArray, List.set_cons_zero, List.set_cons_succ]
    refine wpAnyH_take (i := 7) (v := .tuple #[v6, .bool false]) rfl (by kernel_rfl) (by kernel_rfl) (by kernel_rfl) (fun _ _ _ h => h) (Or.inl ⟨by rfl, ?_⟩) hH ?_
    · intro w9 hw9
      go_simp
    try simp only [List.getElem_toArray, List.getElem_cons_succ, List.getElem_cons_zero, Act.put, List.setIfInBounds_toArray, List.set_cons_zero, List.set_cons_succ]
    refine wpAnyH_take (i := 8) (v := v6) rfl (by kernel_rfl) (by kernel_rfl) (by kernel_rfl) (fun _ _ _ h => h) (Or.inl ⟨by rfl, ?_⟩) hH ?_
    · intro w9 hw9
      go_simp
    try simp only [List.getElem_toArray, List.getElem_cons_succ, List.getElem_cons_zero, Act.put, List.setIfInBounds_toArray, List.set_cons_zero, List.set_cons_succ]
    refine wpAnyH_take (i := 9) (v := .bool false) rfl (by kernel_rfl) (by kernel_rfl) (by kernel_rfl) (fun _ _ _ h => h) (Or.inl ⟨by rfl, ?_⟩) hH ?_
    · intro w9 hw9
      go_simp
    try simp only [List.getElem_toArray, List.getElem_cons_succ, List.getElem_cons_zero, Act.put, List.setIfInBounds_toArray, List.set_cons_zero, List.set_cons_succ]
    refine wpAnyH_take (i := 10) (v := v6) rfl (by kernel_rfl) (by kernel_rfl) (by kernel_rfl) (fun _ _ _ h => h) (Or.inl ⟨by rfl, ?_⟩) hH ?_
    · intro w9 hw9
      go_simp
    try simp only [List.getElem_toArray, List.getElem_cons_succ, List.getElem_cons_zero, Act.put, List.setIfInBounds_toArray, List.set_cons_zero, List.set_cons_succ]
    refine wpAnyH_take (i := 11) (v := .bool false) rfl (by kernel_rfl) (by kernel_rfl) (by kernel_rfl) (fun _ _ _ h => h) (Or.inl ⟨by rfl, ?_⟩) hH ?_
    · intro w9 hw9
      go_simp
    try simp only [List.getElem_toArray, List.getElem_cons_succ, List.getElem_cons_zero, Act.put, List.setIfInBounds_toArray, List.set_cons_zero, List.set_cons_succ]
    refine wpAnyH_done (by kernel_rfl) ?_ _
    clear hH hH6 hH5
    go_wp2_with fail
    exact bodyPost_ret (by simp [results, Tryz.results49, go_sem]) rfl (HY.out _ HG6.out HV6.out)
  | some ys =>
    go_wp2_with fail
    refine hK.out _ _ hH6 (fun hH2 => ?_)
    clear hK K hH
    have hH := hH2
    clear hH2
    try simp only [List.getElem_toArray, List.getElem_cons_succ, List.getElem_cons_zero, Act.put, List.setIfInBounds_toArray, List.set_cons_zero, List.set_cons_succ]
    refine wpAnyH_take (i := 7) (v := .tuple #[v6, .bool true]) rfl (by kernel_rfl) (by kernel_rfl) (by kernel_rfl) (fun _ _ _ h => h) (Or.inl ⟨by rfl, ?_⟩) hH ?_
    · intro w9 hw9
      go_simp
    try simp only [List.getElem_toArray, List.getElem_cons_succ, List.getElem_cons_zero, Act.put, List.setIfInBounds_toArray, List.set_cons_zero, List.set_cons_succ]
    refine wpAnyH_take (i := 8) (v := v6) rfl (by kernel_rfl) (by kernel_rfl) (by kernel_rfl) (fun _ _ _ h => h) (Or.inl ⟨by rfl, ?_⟩) hH ?_
    · intro w9 hw9
      go_simp
    try simp only [List.getElem_toArray, List.getElem_cons_succ, List.getElem_cons_zero, Act.put, List.setIfInBounds_toArray, List.set_cons_zero, List.set_cons_succ]
    refine wpAnyH_take (i := 9) (v := .bool true) rfl (by kernel_rfl) (by kernel_rfl) (by kernel_rfl) (fun _ _ _ h => h) (Or.inl ⟨by rfl, ?_⟩) hH ?_
    · intro w9 hw9
      go_simp
    try simp only [List.getElem_toArray, List.getElem_cons_succ, List.getElem_cons_zero, Act.put, List.setIfInBounds_toArray, List.set_cons_zero, List.set_cons_succ]
    refine wpAnyH_take (i := 10) (v := v6) rfl (by kernel_rfl) (by kernel_rfl) (by kernel_rfl) (fun _ _ _ h => h) (Or.inl ⟨by rfl, ?_⟩) hH ?_
    · intro w9 hw9
      go_simp
    try simp only [List.getElem_toArray, List.getElem_cons_succ, List.getElem_cons_zero, Act.put, List.setIfInBounds_toArray, List.set_cons_zero, List.set_cons_succ]
    refine wpAnyH_take (i := 11) (v := .bool true) rfl (by kernel_rfl) (by kernel_rfl) (by kernel_rfl) (fun _ _ _ h => h) (Or.inl ⟨by rfl, ?_⟩) hH ?_
    · intro w9 hw9
      go_simp
    try simp only [List.getElem_toArray, List.getElem_cons_succ, List.getElem_cons_zero, Act.put, List.setIfInBounds_toArray, List.set_cons_zero, List.set_cons_succ]
    refine wpAnyH_done (by kernel_rfl) ?_ _
    clear hH hH6 hH5
    go_wp2_with fail
    exact bodyPost_ret (by simp [results, Tryz.results49, go_sem]) rfl (HY.out _ HG6.out HV6.out)
end Go.Proofs.YtmlbgfnddgbpbaaGreat
