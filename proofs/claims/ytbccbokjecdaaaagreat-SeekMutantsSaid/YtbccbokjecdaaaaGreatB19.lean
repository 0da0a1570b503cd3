/-
The walk of the document's candidates.
The walk of the document's candidates.
-/
import Derived.Test.YtbccbokjecdaaaaGreatB18
import Derived.Test.YtbccbokjecdaaaaGreatB16
import Derived.Test.YtbccbokjecdaaaaGreatB17
import Derived.Test.YtbccbokjecdaaaaGreatB02
namespace Go.Proofs.YtbccbokjecdaaaaGreat
open Go.RowKit

set_option maxRecDepth 100000 in
set_option maxHeartbeats 32000000 in
theorem rcand1_any (p : List Ln) (n : Nat) (op d a b : Int) (v : Value) (w : World) (hv : LinesAt w v p) (hp : p[n]? = some ⟨op, d, a, b⟩) (hall : ∀ l ∈ p, l.ok = true) (hlen : p.length ≤ 8) (R : Ending → World → Prop)
    (hR : ∀ w' x, Grow w w' → LinesAt w' x (candR p ⟨op, d, a, b⟩ 1) → R (.returned x) w') :
    Calls Tryz.prog 124 #[v, .int .i64 n, .int .i64 1] w R := by
  have HR := Lib.hid hR
  clear hR
  have hlt : n < p.length := (List.getElem?_eq_some_iff.1 hp).1
  obtain ⟨va, vc, rfl, v1, v2, v3⟩ := hv
  replace v3 := v3.resolve_left (by intro h; simp [h.1] at hlt)
  obtain ⟨g, o, rfl, hb, hc⟩ := v3
  have hpc := lines_cell hc n op d a b hp
  have hln : (n : Int) < (p.length : Int) := by omega
  have hl0 : (0 : Int) < (p.length : Int) := by omega
  have _h := hall
  have HPC := Lib.hid hpc
  have HC := Lib.hid hc
  clear hc hpc hp hall
  obtain ⟨N, hN⟩ : ∃ N, allR.length = N := ⟨_, rfl⟩
  have HN := Lib.hid hN
  have hNb : N ≤ 1000 := by rw [← hN]; decide +kernel
  have HN0 := Lib.hid (show 0 < N by rw [← hN]; decide +kernel)
  clear hN
  obtain ⟨F, hF⟩ : ∃ F, (fun x => inC p ⟨op, d, a, b⟩ 1 x && !decide (x = ⟨op, d, a, b⟩)) = F := ⟨_, rfl⟩
  have hcr : candR p ⟨op, d, a, b⟩ 1 = allR.filter F := by unfold candR; rw [hF]
  rw [hcr] at HR
  have HF := Lib.hid hF
  clear hF hcr
  go_enter Tryz.func124, Tryz.ntmps124
  go_wp2_with fail
  refine rAll_any _ _ ?_
  intro w1 x1 hg1 hx1
  obtain ⟨aA, cA, rfl, q1, q2, q3⟩ := hx1
  rw [HN.out] at q1 ⊢
  replace q3 := q3.resolve_left (by intro h; have := HN0.out; rw [← HN.out, h.1] at this; simp at this)
  obtain ⟨gA, oA, rfl, hbA, hcA⟩ := q3
  have HCA := Lib.hid hcA
  have HG1 := Lib.hid hg1
  have hz1 := hg1.sz
  clear hg1 hcA
  go_wp2_with fail
  go_loopw [8, 9] (fun out i wr => ∃ (k : Nat) (ov : Value), k ≤ N ∧ i = .int .i64 k ∧ ov = out ∧ AL w1 ((allR.take k).filter F) ov wr) (fun _ i _ => N - (intOf i).toNat)
  case atStart => exact ⟨0, _, by omega, rfl, rfl, Grow.refl _, World.ownsRow_nil _ _ _ _⟩
  case round =>
    obtain ⟨k, out, hk, rfl, rfl, ha⟩ := hrel
    have HA := Lib.hid ha
    have hzw := ha.g.sz
    clear ha
    by_cases hlk : k < N
    rotate_left
    · have hkn : k = N := by omega
      have hfin : (allR.take k).filter F = allR.filter F := by rw [hkn, ← HN.out, List.take_length]
      have HA2 := HA.out
      rw [hfin] at HA2
      have HF := Lib.hid (HR.out _ _ (HG1.out.trans HA2.g) (slc_of_owns encL_len HA2.ow))
      clear HA2 hfin hkn
      go_wp2_with fail
      exact HF.out
    obtain ⟨⟨op2, d2, a2, b2⟩, hx⟩ : ∃ x, allR[k]? = some x := ⟨_, List.getElem?_eq_getElem (by rw [HN.out]; exact hlk)⟩
    have HX := Lib.hid hx
    have HXC := Lib.hid (lines_cell HCA.out k op2 d2 a2 b2 hx)
    clear hx
    have hkN : (k : Int) < (N : Int) := by omega
    have hn1 : g < wr.heap.size := by omega
    have hn2 : gA < wr.heap.size := by omega
    have e0 := (HG1.out.trans HA.out.g).cell HPC.out.1
    have e1 := (HG1.out.trans HA.out.g).cell HPC.out.2.1
    have e2 := (HG1.out.trans HA.out.g).cell HPC.out.2.2.1
    have e3 := (HG1.out.trans HA.out.g).cell HPC.out.2.2.2
    have f0 := Grow.cell HA.out.g HXC.out.1
    have f1 := Grow.cell HA.out.g HXC.out.2.1
    have f2 := Grow.cell HA.out.g HXC.out.2.2.1
    have f3 := Grow.cell HA.out.g HXC.out.2.2.2
    go_wp2_with (go_quiet (fail))
    clear e0 e1 e2 e3 f0 f1 f2 f3 hn1 hn2
    have HIN := Lib.hid (show inC p ⟨op, d, a, b⟩ 1 ⟨op2, d2, a2, b2⟩ = p.contains ⟨op2, d2, a2, b2⟩ by unfold inC; simp)
    obtain ⟨wo, rfl⟩ : ∃ z : World, z = wr := ⟨_, rfl⟩
    go_loopw [10, 11] (fun f i wr => ∃ (j : Nat) (fb : Bool), j ≤ p.length ∧ i = .int .i64 j ∧ f = .bool fb ∧ fb = (p.take j).contains ⟨op2, d2, a2, b2⟩ ∧ AL w1 ((allR.take k).filter F) out wr) (fun _ i _ => p.length - (intOf i).toNat)
    case atStart => exact ⟨0, false, by omega, rfl, rfl, rfl, HA.out.grow ((Grow.refl _).drewN _)⟩
    case round =>
      obtain ⟨j, fb, hj, rfl, rfl, hfb, ha⟩ := hrel
      clear HA
      have HA8 := Lib.hid ha
      have HFB := Lib.hid hfb
      have hzr := ha.g.sz
      clear ha hfb
      by_cases hjp : j < p.length
      · have hjp2 : (j : Int) < (p.length : Int) := by omega
        obtain ⟨⟨op3, d3, a3, b3⟩, hy⟩ : ∃ x, p[j]? = some x := ⟨_, List.getElem?_eq_getElem hjp⟩
        have hn1 : g < wr.heap.size := by omega
        have hn2 : gA < wr.heap.size := by omega
        have HY := Lib.hid hy
        have HYC := Lib.hid (lines_cell HC.out j op3 d3 a3 b3 hy)
        clear hy
        have y0 := (HG1.out.trans HA8.out.g).cell HYC.out.1
        have f0 := Grow.cell HA8.out.g HXC.out.1
        have y1 := (HG1.out.trans HA8.out.g).cell HYC.out.2.1
        have f1 := Grow.cell HA8.out.g HXC.out.2.1
        have y2 := (HG1.out.trans HA8.out.g).cell HYC.out.2.2.1
        have f2 := Grow.cell HA8.out.g HXC.out.2.2.1
        have y3 := (HG1.out.trans HA8.out.g).cell HYC.out.2.2.2
        have f3 := Grow.cell HA8.out.g HXC.out.2.2.2
        cases fb with
        | true =>
          go_wp2_with (go_quiet (fail))
          go_roundw
          case rel => exact ⟨j + 1, true, by omega, by go_num, rfl, by rw [contains_take_succ' HY.out, ← HFB.out]; simp, HA8.out.grow ((Grow.refl _).drewN _)⟩
          case measure => simp [intOf]; omega
        | false =>
          by_cases heq : (⟨op3, d3, a3, b3⟩ : Ln) = ⟨op2, d2, a2, b2⟩
          · have HEQ := Lib.hid heq
            simp only [Ln.mk.injEq] at heq
            obtain ⟨rfl, rfl, rfl, rfl⟩ := heq
            go_wp2_with (go_quiet (fail))
            go_roundw
            case rel => exact ⟨j + 1, true, by omega, by go_num, rfl, by rw [contains_take_succ' HY.out, ← HFB.out]; simp, HA8.out.grow ((Grow.refl _).drewN _)⟩
            case measure => simp [intOf]; omega
          have HNE := Lib.hid heq
          clear heq
          by_cases gq0 : op3 = op2
          rotate_left
          · have tq1 : (op3 == op2) = false := by simpa using gq0
            have tq2 : (op3 != op2) = true := by simpa using gq0
            go_wp2_with (go_quiet (fail))
            go_roundw
            case rel => exact ⟨j + 1, false, by omega, by go_num, rfl, by rw [contains_take_succ' HY.out, ← HFB.out]; rw [decide_eq_false HNE.out]; rfl, HA8.out.grow ((Grow.refl _).drewN _)⟩
            case measure => simp [intOf]; omega
          subst gq0
          by_cases gq1 : d3 = d2
          rotate_left
          · have tq1 : (d3 == d2) = false := by simpa using gq1
            have tq2 : (d3 != d2) = true := by simpa using gq1
            go_wp2_with (go_quiet (fail))
            go_roundw
            case rel => exact ⟨j + 1, false, by omega, by go_num, rfl, by rw [contains_take_succ' HY.out, ← HFB.out]; rw [decide_eq_false HNE.out]; rfl, HA8.out.grow ((Grow.refl _).drewN _)⟩
            case measure => simp [intOf]; omega
          subst gq1
          by_cases gq2 : a3 = a2
          rotate_left
          · have tq1 : (a3 == a2) = false := by simpa using gq2
            have tq2 : (a3 != a2) = true := by simpa using gq2
            go_wp2_with (go_quiet (fail))
            go_roundw
            case rel => exact ⟨j + 1, false, by omega, by go_num, rfl, by rw [contains_take_succ' HY.out, ← HFB.out]; rw [decide_eq_false HNE.out]; rfl, HA8.out.grow ((Grow.refl _).drewN _)⟩
            case measure => simp [intOf]; omega
          subst gq2
          by_cases gq3 : b3 = b2
          rotate_left
          · have tq1 : (b3 == b2) = false := by simpa using gq3
            have tq2 : (b3 != b2) = true := by simpa using gq3
            go_wp2_with (go_quiet (fail))
            go_roundw
            case rel => exact ⟨j + 1, false, by omega, by go_num, rfl, by rw [contains_take_succ' HY.out, ← HFB.out]; rw [decide_eq_false HNE.out]; rfl, HA8.out.grow ((Grow.refl _).drewN _)⟩
            case measure => simp [intOf]; omega
          subst gq3
          exact absurd rfl HNE.out
      · have hjn : j = p.length := by omega
        have hfin : fb = p.contains ⟨op2, d2, a2, b2⟩ := by rw [HFB.out, hjn, List.take_length]
        have HIN2 := Lib.hid (HIN.out.trans hfin.symm)
        clear HIN hfin hjn HFB
        have HIN := HIN2
        clear HIN2
        have HLB := Lib.hid (show ((allR.take k).filter F).length < 100000000000 by have := filter_take_len F allR k; rw [HN.out] at this; omega)
        have hn1 : g < wr.heap.size := by omega
        have hn2 : gA < wr.heap.size := by omega
        have e0 := (HG1.out.trans HA8.out.g).cell HPC.out.1
        have e1 := (HG1.out.trans HA8.out.g).cell HPC.out.2.1
        have e2 := (HG1.out.trans HA8.out.g).cell HPC.out.2.2.1
        have e3 := (HG1.out.trans HA8.out.g).cell HPC.out.2.2.2
        have f0 := Grow.cell HA8.out.g HXC.out.1
        have f1 := Grow.cell HA8.out.g HXC.out.2.1
        have f2 := Grow.cell HA8.out.g HXC.out.2.2.1
        have f3 := Grow.cell HA8.out.g HXC.out.2.2.2
        cases fb with
        | true =>
          by_cases heq : (⟨op2, d2, a2, b2⟩ : Ln) = ⟨op, d, a, b⟩
          · have HEQ := Lib.hid heq
            have hFx : F ⟨op2, d2, a2, b2⟩ = false := by rw [← HF.out]; show (inC p ⟨op, d, a, b⟩ 1 ⟨op2, d2, a2, b2⟩ && !decide ((⟨op2, d2, a2, b2⟩ : Ln) = ⟨op, d, a, b⟩)) = false; rw [decide_eq_true HEQ.out]; simp
            have HFX := Lib.hid hFx
            clear hFx
            simp only [Ln.mk.injEq] at heq
            obtain ⟨rfl, rfl, rfl, rfl⟩ := heq
            go_wp2_with (go_quiet (fail))
            go_roundw
            case rel => exact ⟨k + 1, _, by omega, by go_num, rfl, by rw [filter_take_succ HX.out, HFX.out, if_neg (by decide), List.append_nil]; exact HA8.out.grow ((Grow.refl _).drewN _)⟩
            case measure => simp [intOf]; omega
          have hFx : F ⟨op2, d2, a2, b2⟩ = true := by rw [← HF.out]; show (inC p ⟨op, d, a, b⟩ 1 ⟨op2, d2, a2, b2⟩ && !decide ((⟨op2, d2, a2, b2⟩ : Ln) = ⟨op, d, a, b⟩)) = true; rw [decide_eq_false heq, HIN.out]; rfl
          have HFX := Lib.hid hFx
          have HNE := Lib.hid heq
          clear hFx heq
          by_cases gq0 : op2 = op
          rotate_left
          · have tq1 : (op2 == op) = false := by simpa using gq0
            have tq2 : (op2 != op) = true := by simpa using gq0
            go_wp2_with (first | (at_builtin; refine wpList_app _ rfl (.tmp 70) (.tmp 75) 22 rfl w1.heap.size 25 Tryz.underlying22 info_ln rfl (by decide) (by decide) encL encL_len encL_one _ ((allR.take k).filter F) rfl (HA8.out.grow (((Grow.refl _).drewN _).alloc _)).ow _ (⟨op2, d2, a2, b2⟩ : Ln) 1 rfl (news_gen _ _ (by simp) (encL ⟨op2, d2, a2, b2⟩) _) HLB.out (by have := HA8.out.g.sz; simp; omega) ?_; intro out2 w2 hown2 hgr2) | go_quiet (fail))
            have HA2 := Lib.hid (HA8.out.app (y := ⟨op2, d2, a2, b2⟩) (((Grow.refl _).drewN _).alloc _) hown2 hgr2)
            clear hown2 hgr2
            go_roundw
            case rel => exact ⟨k + 1, _, by omega, by go_num, rfl, by rw [filter_take_succ HX.out, HFX.out, if_pos rfl]; exact HA2.out⟩
            case measure => simp [intOf]; omega
          subst gq0
          by_cases gq1 : d2 = d
          rotate_left
          · have tq1 : (d2 == d) = false := by simpa using gq1
            have tq2 : (d2 != d) = true := by simpa using gq1
            go_wp2_with (first | (at_builtin; refine wpList_app _ rfl (.tmp 70) (.tmp 75) 22 rfl w1.heap.size 25 Tryz.underlying22 info_ln rfl (by decide) (by decide) encL encL_len encL_one _ ((allR.take k).filter F) rfl (HA8.out.grow (((Grow.refl _).drewN _).alloc _)).ow _ (⟨op2, d2, a2, b2⟩ : Ln) 1 rfl (news_gen _ _ (by simp) (encL ⟨op2, d2, a2, b2⟩) _) HLB.out (by have := HA8.out.g.sz; simp; omega) ?_; intro out2 w2 hown2 hgr2) | go_quiet (fail))
            have HA2 := Lib.hid (HA8.out.app (y := ⟨op2, d2, a2, b2⟩) (((Grow.refl _).drewN _).alloc _) hown2 hgr2)
            clear hown2 hgr2
            go_roundw
            case rel => exact ⟨k + 1, _, by omega, by go_num, rfl, by rw [filter_take_succ HX.out, HFX.out, if_pos rfl]; exact HA2.out⟩
            case measure => simp [intOf]; omega
          subst gq1
          by_cases gq2 : a2 = a
          rotate_left
          · have tq1 : (a2 == a) = false := by simpa using gq2
            have tq2 : (a2 != a) = true := by simpa using gq2
            go_wp2_with (first | (at_builtin; refine wpList_app _ rfl (.tmp 70) (.tmp 75) 22 rfl w1.heap.size 25 Tryz.underlying22 info_ln rfl (by decide) (by decide) encL encL_len encL_one _ ((allR.take k).filter F) rfl (HA8.out.grow (((Grow.refl _).drewN _).alloc _)).ow _ (⟨op2, d2, a2, b2⟩ : Ln) 1 rfl (news_gen _ _ (by simp) (encL ⟨op2, d2, a2, b2⟩) _) HLB.out (by have := HA8.out.g.sz; simp; omega) ?_; intro out2 w2 hown2 hgr2) | go_quiet (fail))
            have HA2 := Lib.hid (HA8.out.app (y := ⟨op2, d2, a2, b2⟩) (((Grow.refl _).drewN _).alloc _) hown2 hgr2)
            clear hown2 hgr2
            go_roundw
            case rel => exact ⟨k + 1, _, by omega, by go_num, rfl, by rw [filter_take_succ HX.out, HFX.out, if_pos rfl]; exact HA2.out⟩
            case measure => simp [intOf]; omega
          subst gq2
          by_cases gq3 : b2 = b
          rotate_left
          · have tq1 : (b2 == b) = false := by simpa using gq3
            have tq2 : (b2 != b) = true := by simpa using gq3
            go_wp2_with (first | (at_builtin; refine wpList_app _ rfl (.tmp 70) (.tmp 75) 22 rfl w1.heap.size 25 Tryz.underlying22 info_ln rfl (by decide) (by decide) encL encL_len encL_one _ ((allR.take k).filter F) rfl (HA8.out.grow (((Grow.refl _).drewN _).alloc _)).ow _ (⟨op2, d2, a2, b2⟩ : Ln) 1 rfl (news_gen _ _ (by simp) (encL ⟨op2, d2, a2, b2⟩) _) HLB.out (by have := HA8.out.g.sz; simp; omega) ?_; intro out2 w2 hown2 hgr2) | go_quiet (fail))
            have HA2 := Lib.hid (HA8.out.app (y := ⟨op2, d2, a2, b2⟩) (((Grow.refl _).drewN _).alloc _) hown2 hgr2)
            clear hown2 hgr2
            go_roundw
            case rel => exact ⟨k + 1, _, by omega, by go_num, rfl, by rw [filter_take_succ HX.out, HFX.out, if_pos rfl]; exact HA2.out⟩
            case measure => simp [intOf]; omega
          subst gq3
          exact absurd rfl HNE.out
        | false =>
          have hFx : F ⟨op2, d2, a2, b2⟩ = false := by rw [← HF.out]; show (inC p ⟨op, d, a, b⟩ 1 ⟨op2, d2, a2, b2⟩ && !decide ((⟨op2, d2, a2, b2⟩ : Ln) = ⟨op, d, a, b⟩)) = false; rw [HIN.out]; rfl
          have HFX := Lib.hid hFx
          clear hFx
          go_wp2_with (go_quiet (fail))
          go_roundw
          case rel => exact ⟨k + 1, _, by omega, by go_num, rfl, by rw [filter_take_succ HX.out, HFX.out, if_neg (by decide), List.append_nil]; exact HA8.out.grow ((Grow.refl _).drewN _)⟩
          case measure => simp [intOf]; omega
end Go.Proofs.YtbccbokjecdaaaaGreat

namespace Go.Proofs.YtbccbokjecdaaaaGreat
open Go.RowKit

set_option maxRecDepth 100000 in
set_option maxHeartbeats 32000000 in
theorem rcand2_any (p : List Ln) (n : Nat) (op d a b : Int) (v : Value) (w : World) (hv : LinesAt w v p) (hp : p[n]? = some ⟨op, d, a, b⟩) (hall : ∀ l ∈ p, l.ok = true) (hlen : p.length ≤ 8) (R : Ending → World → Prop)
    (hR : ∀ w' x, Grow w w' → LinesAt w' x (candR p ⟨op, d, a, b⟩ 2) → R (.returned x) w') :
    Calls Tryz.prog 124 #[v, .int .i64 n, .int .i64 2] w R := by
  have HR := Lib.hid hR
  clear hR
  have hlt : n < p.length := (List.getElem?_eq_some_iff.1 hp).1
  obtain ⟨va, vc, rfl, v1, v2, v3⟩ := hv
  replace v3 := v3.resolve_left (by intro h; simp [h.1] at hlt)
  obtain ⟨g, o, rfl, hb, hc⟩ := v3
  have hpc := lines_cell hc n op d a b hp
  have hln : (n : Int) < (p.length : Int) := by omega
  have hl0 : (0 : Int) < (p.length : Int) := by omega
  have _h := hall
  have HPC := Lib.hid hpc
  have HC := Lib.hid hc
  clear hc hpc hp hall
  obtain ⟨N, hN⟩ : ∃ N, allR.length = N := ⟨_, rfl⟩
  have HN := Lib.hid hN
  have hNb : N ≤ 1000 := by rw [← hN]; decide +kernel
  have HN0 := Lib.hid (show 0 < N by rw [← hN]; decide +kernel)
  clear hN
  obtain ⟨F, hF⟩ : ∃ F, (fun x => inC p ⟨op, d, a, b⟩ 2 x && !decide (x = ⟨op, d, a, b⟩)) = F := ⟨_, rfl⟩
  have hcr : candR p ⟨op, d, a, b⟩ 2 = allR.filter F := by unfold candR; rw [hF]
  rw [hcr] at HR
  have HF := Lib.hid hF
  clear hF hcr
  go_enter Tryz.func124, Tryz.ntmps124
  go_wp2_with fail
  refine rAll_any _ _ ?_
  intro w1 x1 hg1 hx1
  obtain ⟨aA, cA, rfl, q1, q2, q3⟩ := hx1
  rw [HN.out] at q1 ⊢
  replace q3 := q3.resolve_left (by intro h; have := HN0.out; rw [← HN.out, h.1] at this; simp at this)
  obtain ⟨gA, oA, rfl, hbA, hcA⟩ := q3
  have HCA := Lib.hid hcA
  have HG1 := Lib.hid hg1
  have hz1 := hg1.sz
  clear hg1 hcA
  go_wp2_with fail
  go_loopw [8, 9] (fun out i wr => ∃ (k : Nat) (ov : Value), k ≤ N ∧ i = .int .i64 k ∧ ov = out ∧ AL w1 ((allR.take k).filter F) ov wr) (fun _ i _ => N - (intOf i).toNat)
  case atStart => exact ⟨0, _, by omega, rfl, rfl, Grow.refl _, World.ownsRow_nil _ _ _ _⟩
  case round =>
    obtain ⟨k, out, hk, rfl, rfl, ha⟩ := hrel
    have HA := Lib.hid ha
    have hzw := ha.g.sz
    clear ha
    by_cases hlk : k < N
    rotate_left
    · have hkn : k = N := by omega
      have hfin : (allR.take k).filter F = allR.filter F := by rw [hkn, ← HN.out, List.take_length]
      have HA2 := HA.out
      rw [hfin] at HA2
      have HF := Lib.hid (HR.out _ _ (HG1.out.trans HA2.g) (slc_of_owns encL_len HA2.ow))
      clear HA2 hfin hkn
      go_wp2_with fail
      exact HF.out
    obtain ⟨⟨op2, d2, a2, b2⟩, hx⟩ : ∃ x, allR[k]? = some x := ⟨_, List.getElem?_eq_getElem (by rw [HN.out]; exact hlk)⟩
    have HX := Lib.hid hx
    have HXC := Lib.hid (lines_cell HCA.out k op2 d2 a2 b2 hx)
    clear hx
    have hkN : (k : Int) < (N : Int) := by omega
    have hn1 : g < wr.heap.size := by omega
    have hn2 : gA < wr.heap.size := by omega
    have e0 := (HG1.out.trans HA.out.g).cell HPC.out.1
    have e1 := (HG1.out.trans HA.out.g).cell HPC.out.2.1
    have e2 := (HG1.out.trans HA.out.g).cell HPC.out.2.2.1
    have e3 := (HG1.out.trans HA.out.g).cell HPC.out.2.2.2
    have f0 := Grow.cell HA.out.g HXC.out.1
    have f1 := Grow.cell HA.out.g HXC.out.2.1
    have f2 := Grow.cell HA.out.g HXC.out.2.2.1
    have f3 := Grow.cell HA.out.g HXC.out.2.2.2
    go_wp2_with (go_quiet (fail))
    clear e0 e1 e2 e3 f0 f1 f2 f3 hn1 hn2
    have HIN := Lib.hid (show inC p ⟨op, d, a, b⟩ 2 ⟨op2, d2, a2, b2⟩ = true by unfold inC; simp)
    obtain ⟨wo, rfl⟩ : ∃ z : World, z = wr := ⟨_, rfl⟩
    go_loopw [10, 11] (fun f i wr => f = .bool true ∧ i = .int .i64 0 ∧ AL w1 ((allR.take k).filter F) out wr) (fun _ _ _ => 0)
    case atStart => exact ⟨rfl, rfl, HA.out.grow ((Grow.refl _).drewN _)⟩
    case round =>
      obtain ⟨rfl, rfl, ha⟩ := hrel
      clear HA
      have HA8 := Lib.hid ha
      have hzr := ha.g.sz
      clear ha
      have HLB := Lib.hid (show ((allR.take k).filter F).length < 100000000000 by have := filter_take_len F allR k; rw [HN.out] at this; omega)
      have hn1 : g < wr.heap.size := by omega
      have hn2 : gA < wr.heap.size := by omega
      have e0 := (HG1.out.trans HA8.out.g).cell HPC.out.1
      have e1 := (HG1.out.trans HA8.out.g).cell HPC.out.2.1
      have e2 := (HG1.out.trans HA8.out.g).cell HPC.out.2.2.1
      have e3 := (HG1.out.trans HA8.out.g).cell HPC.out.2.2.2
      have f0 := Grow.cell HA8.out.g HXC.out.1
      have f1 := Grow.cell HA8.out.g HXC.out.2.1
      have f2 := Grow.cell HA8.out.g HXC.out.2.2.1
      have f3 := Grow.cell HA8.out.g HXC.out.2.2.2
      by_cases heq : (⟨op2, d2, a2, b2⟩ : Ln) = ⟨op, d, a, b⟩
      · have HEQ := Lib.hid heq
        have hFx : F ⟨op2, d2, a2, b2⟩ = false := by rw [← HF.out]; show (inC p ⟨op, d, a, b⟩ 2 ⟨op2, d2, a2, b2⟩ && !decide ((⟨op2, d2, a2, b2⟩ : Ln) = ⟨op, d, a, b⟩)) = false; rw [decide_eq_true HEQ.out]; simp
        have HFX := Lib.hid hFx
        clear hFx
        simp only [Ln.mk.injEq] at heq
        obtain ⟨rfl, rfl, rfl, rfl⟩ := heq
        go_wp2_with (go_quiet (fail))
        go_roundw
        case rel => exact ⟨k + 1, _, by omega, by go_num, rfl, by rw [filter_take_succ HX.out, HFX.out, if_neg (by decide), List.append_nil]; exact HA8.out.grow ((Grow.refl _).drewN _)⟩
        case measure => simp [intOf]; omega
      have hFx : F ⟨op2, d2, a2, b2⟩ = true := by rw [← HF.out]; show (inC p ⟨op, d, a, b⟩ 2 ⟨op2, d2, a2, b2⟩ && !decide ((⟨op2, d2, a2, b2⟩ : Ln) = ⟨op, d, a, b⟩)) = true; rw [decide_eq_false heq, HIN.out]; rfl
      have HFX := Lib.hid hFx
      have HNE := Lib.hid heq
      clear hFx heq
      by_cases gq0 : op2 = op
      rotate_left
      · have tq1 : (op2 == op) = false := by simpa using gq0
        have tq2 : (op2 != op) = true := by simpa using gq0
        go_wp2_with (first | (at_builtin; refine wpList_app _ rfl (.tmp 70) (.tmp 75) 22 rfl w1.heap.size 25 Tryz.underlying22 info_ln rfl (by decide) (by decide) encL encL_len encL_one _ ((allR.take k).filter F) rfl (HA8.out.grow (((Grow.refl _).drewN _).alloc _)).ow _ (⟨op2, d2, a2, b2⟩ : Ln) 1 rfl (news_gen _ _ (by simp) (encL ⟨op2, d2, a2, b2⟩) _) HLB.out (by have := HA8.out.g.sz; simp; omega) ?_; intro out2 w2 hown2 hgr2) | go_quiet (fail))
        have HA2 := Lib.hid (HA8.out.app (y := ⟨op2, d2, a2, b2⟩) (((Grow.refl _).drewN _).alloc _) hown2 hgr2)
        clear hown2 hgr2
        go_roundw
        case rel => exact ⟨k + 1, _, by omega, by go_num, rfl, by rw [filter_take_succ HX.out, HFX.out, if_pos rfl]; exact HA2.out⟩
        case measure => simp [intOf]; omega
      subst gq0
      by_cases gq1 : d2 = d
      rotate_left
      · have tq1 : (d2 == d) = false := by simpa using gq1
        have tq2 : (d2 != d) = true := by simpa using gq1
        go_wp2_with (first | (at_builtin; refine wpList_app _ rfl (.tmp 70) (.tmp 75) 22 rfl w1.heap.size 25 Tryz.underlying22 info_ln rfl (by decide) (by decide) encL encL_len encL_one _ ((allR.take k).filter F) rfl (HA8.out.grow (((Grow.refl _).drewN _).alloc _)).ow _ (⟨op2, d2, a2, b2⟩ : Ln) 1 rfl (news_gen _ _ (by simp) (encL ⟨op2, d2, a2, b2⟩) _) HLB.out (by have := HA8.out.g.sz; simp; omega) ?_; intro out2 w2 hown2 hgr2) | go_quiet (fail))
        have HA2 := Lib.hid (HA8.out.app (y := ⟨op2, d2, a2, b2⟩) (((Grow.refl _).drewN _).alloc _) hown2 hgr2)
        clear hown2 hgr2
        go_roundw
        case rel => exact ⟨k + 1, _, by omega, by go_num, rfl, by rw [filter_take_succ HX.out, HFX.out, if_pos rfl]; exact HA2.out⟩
        case measure => simp [intOf]; omega
      subst gq1
      by_cases gq2 : a2 = a
      rotate_left
      · have tq1 : (a2 == a) = false := by simpa using gq2
        have tq2 : (a2 != a) = true := by simpa using gq2
        go_wp2_with (first | (at_builtin; refine wpList_app _ rfl (.tmp 70) (.tmp 75) 22 rfl w1.heap.size 25 Tryz.underlying22 info_ln rfl (by decide) (by decide) encL encL_len encL_one _ ((allR.take k).filter F) rfl (HA8.out.grow (((Grow.refl _).drewN _).alloc _)).ow _ (⟨op2, d2, a2, b2⟩ : Ln) 1 rfl (news_gen _ _ (by simp) (encL ⟨op2, d2, a2, b2⟩) _) HLB.out (by have := HA8.out.g.sz; simp; omega) ?_; intro out2 w2 hown2 hgr2) | go_quiet (fail))
        have HA2 := Lib.hid (HA8.out.app (y := ⟨op2, d2, a2, b2⟩) (((Grow.refl _).drewN _).alloc _) hown2 hgr2)
        clear hown2 hgr2
        go_roundw
        case rel => exact ⟨k + 1, _, by omega, by go_num, rfl, by rw [filter_take_succ HX.out, HFX.out, if_pos rfl]; exact HA2.out⟩
        case measure => simp [intOf]; omega
      subst gq2
      by_cases gq3 : b2 = b
      rotate_left
      · have tq1 : (b2 == b) = false := by simpa using gq3
        have tq2 : (b2 != b) = true := by simpa using gq3
        go_wp2_with (first | (at_builtin; refine wpList_app _ rfl (.tmp 70) (.tmp 75) 22 rfl w1.heap.size 25 Tryz.underlying22 info_ln rfl (by decide) (by decide) encL encL_len encL_one _ ((allR.take k).filter F) rfl (HA8.out.grow (((Grow.refl _).drewN _).alloc _)).ow _ (⟨op2, d2, a2, b2⟩ : Ln) 1 rfl (news_gen _ _ (by simp) (encL ⟨op2, d2, a2, b2⟩) _) HLB.out (by have := HA8.out.g.sz; simp; omega) ?_; intro out2 w2 hown2 hgr2) | go_quiet (fail))
        have HA2 := Lib.hid (HA8.out.app (y := ⟨op2, d2, a2, b2⟩) (((Grow.refl _).drewN _).alloc _) hown2 hgr2)
        clear hown2 hgr2
        go_roundw
        case rel => exact ⟨k + 1, _, by omega, by go_num, rfl, by rw [filter_take_succ HX.out, HFX.out, if_pos rfl]; exact HA2.out⟩
        case measure => simp [intOf]; omega
      subst gq3
      exact absurd rfl HNE.out
end Go.Proofs.YtbccbokjecdaaaaGreat
