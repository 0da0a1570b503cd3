/- The walks of the document's answer to layer 4: which tests a valid program passes, the program after a patch, which patches are good. -/
import Derived.Test.YtbccbokjecdaaaaGreatD13
import Derived.Test.YtbccbokjecdaaaaGreatD00
import Derived.Test.YtbccbokjecdaaaaGreatD02
namespace Go.Proofs.YtbccbokjecdaaaaGreat
open Go.RowKit

set_option maxHeartbeats 2000000 in
theorem r4Passes_any (p : List Ln) (t : Tst) (pv : Value) (w : World) (hp : LinesAt w pv p) (ht : IntsAt w t.v t.xs) (hok : valP p = 0) (htok : t.ok = true) (R : Ending → World → Prop)
    (hR : ∀ w', Grow w w' → R (.returned (.bool (passM p t))) w') :
    Calls Tryz.prog 108 #[pv, .agg #[t.v, .int .i64 t.o, .int .i64 t.wt]] w R := by
  have HP := Lib.hid hp
  have HT := Lib.hid ht
  have HR := Lib.hid hR
  have HOK := Lib.hid hok
  have HTOK := Lib.hid htok
  obtain ⟨q, hq⟩ : ∃ q, passM p t = q := ⟨_, rfl⟩
  rw [hq] at HR
  have HQ := Lib.hid hq
  obtain ⟨pa, pc, rfl, _⟩ := hp
  obtain ⟨sa, sc, hv, _⟩ := ht
  obtain ⟨v, xs, o, wt⟩ := t
  dsimp only at hv
  subst hv
  dsimp only at HT ⊢
  clear hR hq hok htok
  go_enter Tryz.func108, Tryz.ntmps108
  go_wp2_with fail
  have hg := (Grow.refl w).alloc (.cells #[.slice sa xs.length sc, .int .i64 o, .int .i64 wt] 50)
  generalize w.alloc (.cells #[.slice sa xs.length sc, .int .i64 o, .int .i64 wt] 50) = W at hg ⊢
  refine r2Passes_any p ⟨.slice sa xs.length sc, xs, o, wt⟩ _ _ (HP.out.grow hg) (HT.out.grow hg) HOK.out HTOK.out _ ?_
  intro w1 hg1
  rw [HQ.out]
  have HF := Lib.hid (HR.out w1 (hg.trans hg1))
  clear hg hg1
  cases q <;> (go_wp2_with fail; exact HF.out)

set_option maxHeartbeats 4000000 in
theorem r4PassesAll_any (p : List Ln) (ts : List Tst) (pv tv : Value) (w : World) (hp : LinesAt w pv p) (hx : TestsAt w tv ts) (hok : valP p = 0) (htok : valT ts = 0) (R : Ending → World → Prop)
    (hR : ∀ w', Grow w w' → R (.returned (.bool (ts.all (passM p)))) w') :
    Calls Tryz.prog 123 #[pv, tv] w R := by
  have HP := Lib.hid hp
  have HX := Lib.hid hx
  have HR := Lib.hid hR
  have HOK := Lib.hid hok
  have HTK := Lib.hid (valT_ok.1 htok).2
  obtain ⟨pa, pc, rfl, _⟩ := hp
  obtain ⟨⟨a, c, rfl, h1, h2, _⟩, _⟩ := hx
  have hm : ts.length ≤ 9223372036854775807 := by omega
  clear hR hok htok
  go_enter Tryz.func123, Tryz.ntmps123
  go_wp2_with fail
  go_loopw [5] (fun i wr => ∃ k : Nat, k ≤ ts.length ∧ i = .int .i64 k ∧ Grow w wr ∧ ∀ y ∈ ts.take k, passM p y = true) (fun i _ => ts.length - (intOf i).toNat)
  case atStart => exact ⟨0, Nat.zero_le _, rfl, Grow.refl _, by simp⟩
  case round =>
    obtain ⟨k, hk, rfl, hg, hall⟩ := hrel
    have HALL := Lib.hid hall
    have HG := Lib.hid hg
    clear hall hg
    by_cases hlt : k < ts.length
    · obtain ⟨t, ht⟩ : ∃ x, ts[k]? = some x := ⟨_, List.getElem?_eq_getElem hlt⟩
      obtain ⟨b, o, rfl, hb, e0, e1, e2⟩ := tests_at (HX.out.at_.grow HG.out) ht
      have HT := Lib.hid ht
      have HI := Lib.hid ((HX.out.ins t (List.mem_of_getElem? ht)).grow HG.out)
      have HTO := Lib.hid (HTK.out t (List.mem_of_getElem? ht))
      clear ht
      cases hv : passM p t with
      | true =>
        have HV := Lib.hid hv
        clear hv
        go_wp2_with fail
        refine r4Passes_any p t _ _ (HP.out.grow HG.out) HI.out HOK.out HTO.out _ ?_
        intro w1 hg1
        rw [HV.out]
        have HG2 := Lib.hid (HG.out.trans hg1)
        clear hg1
        go_wp2_with fail
        go_roundw
        case rel => exact ⟨k + 1, by omega, by go_num, HG2.out, rall_take_succ HALL.out HT.out HV.out⟩
        case measure => simp [intOf]; omega
      | false =>
        have HF0 := HR.out
        rw [rall_false_at (f := passM p) HT.out hv] at HF0
        have HV := Lib.hid hv
        have HF0' := Lib.hid HF0
        clear hv HF0
        go_wp2_with fail
        refine r4Passes_any p t _ _ (HP.out.grow HG.out) HI.out HOK.out HTO.out _ ?_
        intro w1 hg1
        rw [HV.out]
        have HF := Lib.hid (HF0'.out _ (HG.out.trans hg1))
        clear hg1
        go_wp2_with fail
        exact HF.out
    · have HF0 := HR.out _ HG.out
      rw [rall_of_take HALL.out (by omega)] at HF0
      have HF := Lib.hid HF0
      clear HF0
      go_wp2_with fail
      exact HF.out

theorem ownS {base : Nat} {e : TypeId} {w : World} {a : Option Addr} {n c : Nat} {ys : List Value} (h : w.ownsRow base e 4 (.slice a n c) n ys) (hp : 0 < n) : ∃ g, a = some ⟨g, 0, none⟩ ∧ base ≤ g ∧ g < w.heap.size := by
  rcases h.2 with ⟨_, h0⟩ | ⟨g, cap, cur, hv, hg, hh, _⟩
  · omega
  · cases hv; exact ⟨g, rfl, hg, lt_of_block hh⟩

set_option maxRecDepth 100000 in
set_option maxHeartbeats 8000000 in
theorem r4done_any (p : List Ln) (x : List Ed) (pv xv : Value) (w : World) (hp : LinesAt w pv p) (hx : EditsAt w xv x) (hin : ∀ e ∈ x, 0 ≤ e.at_ ∧ e.at_ < p.length) (hlen : p.length ≤ 8) (R : Ending → World → Prop)
    (hR : ∀ w' v, Grow w w' → LinesAt w' v (setAll p x) → R (.returned v) w') :
    Calls Tryz.prog 156 #[pv, xv] w R := by
  have HP := Lib.hid hp
  have HX := Lib.hid hx
  have HR := Lib.hid hR
  have HIN := Lib.hid hin
  obtain ⟨pa, pc, rfl, h1, h2, _⟩ := hp
  obtain ⟨xa, xc, rfl, g1, g2, _⟩ := hx
  clear hR hin
  go_enter Tryz.func156, Tryz.ntmps156
  go_wp2_with (at_builtin; refine wpList_appAll _ rfl (.tmp 7) (.tmp 8) 22 rfl w.heap.size 25 Tryz.underlying22 info_line rfl (by decide) (by decide) encL encL_len encL_one _ [] rfl (ownsRow_empty w 4 _ _ _ (Nat.le_refl _)) _ p rfl (HP.out.grow ((Grow.refl w).alloc _)) (by simp; omega) (by simp) ?_; intro v1 w1 hown1 hgr1)
  have hg1 : Grow w w1 := grown_below (ownsRow_empty w 4 25 encL _ (Nat.le_refl _)) hgr1 (Nat.le_refl _) (by simp) ((Grow.refl w).alloc _)
  have hs1 := slc_of_owns encL_len hown1
  simp only [List.nil_append] at hown1 hs1
  obtain ⟨a1, c1, rfl, q1, q2, _⟩ := hs1
  have HO1 := Lib.hid hown1
  have HG1 := Lib.hid hg1
  clear hown1 hgr1 hg1
  go_loopw [6] (fun i wr => ∃ k : Nat, k ≤ x.length ∧ i = .int .i64 k ∧ Grow w wr ∧ wr.ownsRow w.heap.size 25 4 (.slice a1 p.length c1) p.length ((setAll p (x.take k)).flatMap encL)) (fun i _ => x.length - (intOf i).toNat)
  case atStart => exact ⟨0, Nat.zero_le _, rfl, HG1.out, HO1.out⟩
  case round =>
    obtain ⟨k, hk, rfl, hg, how⟩ := hrel
    have HG := Lib.hid hg
    have hzw := hg.sz
    clear hg
    by_cases hlt : k < x.length
    · obtain ⟨⟨t, ⟨op, d, a, b⟩⟩, hx⟩ : ∃ e, x[k]? = some e := ⟨_, List.getElem?_eq_getElem hlt⟩
      obtain ⟨t0, t1⟩ := HIN.out _ (List.mem_of_getElem? hx)
      dsimp only at t0 t1
      obtain ⟨m, rfl⟩ : ∃ m : Nat, t = m := ⟨t.toNat, by omega⟩
      have hmn : m < p.length := by omega
      have hl := setAll_length p (x.take k)
      obtain ⟨q, hq⟩ : ∃ q, setAll p (x.take k) = q := ⟨_, rfl⟩
      have HST := Lib.hid (show setAll p (x.take (k + 1)) = q.set m ⟨op, d, a, b⟩ by rw [List.take_add_one, hx, ← hq]; exact setAll_snoc _ _ _)
      rw [hq] at how hl
      obtain ⟨g, rfl, hbg, hgl⟩ := ownS how (by omega)
      have HQL := Lib.hid hl
      rw [← hl] at how
      have hs := slc_of_owns encL_len how
      obtain ⟨⟨o0, d0, a0, b0⟩, hl0⟩ : ∃ l, q[m]? = some l := ⟨_, List.getElem?_eq_getElem (by omega)⟩
      obtain ⟨_, _, e1, _, k0, k1, k2, k3⟩ := lines_at hs hl0
      cases e1
      simp only [Nat.zero_add] at k0 k1 k2 k3
      have z0 := ownsRow_free how (m * 4)
      have z1 := ownsRow_free how (m * 4 + 1)
      have z2 := ownsRow_free how (m * 4 + 2)
      have z3 := ownsRow_free how (m * 4 + 3)
      obtain ⟨gb, o, rfl, hgb, u0, u1, u2, u3, u4⟩ := edits_at HX.out hx
      have y0 := HG.out.cell u0
      have y1 := HG.out.cell u1
      have y2 := HG.out.cell u2
      have y3 := HG.out.cell u3
      have y4 := HG.out.cell u4
      have hs2 := owns_storeL how m (by omega) ⟨op, d, a, b⟩
      rw [List.length_set, ← HST.out, hl] at hs2
      have HO2 := Lib.hid hs2
      have HG2 := Lib.hid (below_storeL (i := m * 4) (g := g) ⟨op, d, a, b⟩ HG.out hbg)
      have hne : gb ≠ g := by omega
      have hne2 : g ≠ gb := by omega
      have hgbr : gb < wr.heap.size := by omega
      have j1 : (k : Int) < (x.length : Int) := by omega
      have j2 : (m : Int) < (p.length : Int) := by omega
      clear hs hs2 how u0 u1 u2 u3 u4 hl0 hx hq hl
      go_wp2_with fail
      go_region
      go_wp2_with fail
      go_roundw
      case rel => exact ⟨k + 1, by omega, by go_num, HG2.out.drew, (Grow.refl _).drew.owns HO2.out⟩
      case measure => simp [intOf]; omega
    · have hkn : k = x.length := by omega
      rw [hkn, List.take_length] at how
      have hl := setAll_length p x
      rw [← hl] at how
      have hs := slc_of_owns encL_len how
      rw [hl] at hs
      have HF := Lib.hid (HR.out _ _ HG.out hs)
      clear how hs hkn hl
      go_wp2_with fail
      exact HF.out

set_option maxHeartbeats 4000000 in
theorem r4Good_any (p : List Ln) (x : List Ed) (ts : List Tst) (pv xv tv : Value) (w : World) (hp : LinesAt w pv p) (hx : EditsAt w xv x) (ht : TestsAt w tv ts) (hin : ∀ e ∈ x, 0 ≤ e.at_ ∧ e.at_ < p.length) (hlen : p.length ≤ 8) (htok : valT ts = 0) (hok : valP (setAll p x) = 0) (R : Ending → World → Prop)
    (hR : ∀ w', Grow w w' → R (.returned (.bool (ts.all (passM (setAll p x))))) w') :
    Calls Tryz.prog 125 #[pv, xv, tv] w R := by
  have HP := Lib.hid hp
  have HX := Lib.hid hx
  have HT := Lib.hid ht
  have HR := Lib.hid hR
  have HIN := Lib.hid hin
  have HTK := Lib.hid htok
  have HOK := Lib.hid hok
  obtain ⟨q, hq⟩ : ∃ q, setAll p x = q := ⟨_, rfl⟩
  rw [hq] at HR HOK
  have HQ := Lib.hid hq
  obtain ⟨pa, pc, rfl, _⟩ := hp
  obtain ⟨xa, xc, rfl, _⟩ := hx
  obtain ⟨⟨ta, tc, rfl, _⟩, _⟩ := ht
  clear hR hin htok hok hq
  go_enter Tryz.func125, Tryz.ntmps125
  go_wp2_with fail
  refine r4done_any p x _ _ _ HP.out HX.out HIN.out hlen _ ?_
  intro w1 v1 hg1 hv1
  rw [HQ.out] at hv1
  have HV1 := Lib.hid hv1
  obtain ⟨a1, c1, rfl, _⟩ := hv1
  have HG1 := Lib.hid hg1
  clear hg1
  go_wp2_with fail
  refine r4PassesAll_any q ts _ _ _ HV1.out (HT.out.grow HG1.out) HOK.out HTK.out _ ?_
  intro w2 hg2
  have HF := Lib.hid (HR.out w2 (HG1.out.trans hg2))
  clear hg2
  go_wp2_with fail
  exact HF.out
end Go.Proofs.YtbccbokjecdaaaaGreat
