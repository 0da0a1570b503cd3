/- The walks of Exchange, the program's and the document's. -/
import Derived.Test.YtmaphlbmmemgcaaExA
import Derived.Test.YtmaphlbmmemgcaaPut
import Derived.RegionTactic
import Derived.BigRegion
namespace Go.Proofs.Ytmaphlbmmemgcaa
open Go.RowKit

def xchE (p : List Ln) (at_ : Int) : Int := if canE p at_ = 0 then (if canB p at_ then 0 else 6) else canE p at_
def xchM (p : List Ln) (at_ : Int) : List Ln := ifOK (xchE p at_) (exch p at_.toNat)
theorem xchE_ok {p : List Ln} {at_ : Int} (h : xchE p at_ = 0) : valP p = 0 ∧ (∃ m : Nat, at_ = m ∧ m + 1 < p.length ∧ jmp p m = false ∧ ind (p.getD m default) (p.getD (m + 1) default) = true) := by
  unfold xchE at h
  by_cases h1 : canE p at_ = 0
  · rw [if_pos h1] at h
    cases hb : canB p at_ with
    | false => rw [hb] at h; cases h
    | true =>
      unfold canB at hb
      simp at hb
      unfold canE at h1
      by_cases hv : valP p = 0
      · rw [if_pos hv] at h1
        cases hin : inB at_ 0 (p.length - 2) with
        | false => rw [hin] at h1; cases h1
        | true =>
          obtain ⟨i0, i1⟩ := inB_true.1 hin
          refine ⟨hv, at_.toNat, by omega, by omega, hb.2.1, ?_⟩
          have := hb.2.2
          rw [List.getD_eq_getElem?_getD, List.getD_eq_getElem?_getD]; exact this
      · rw [if_neg hv] at h1; exact absurd h1 hv
  · rw [if_neg h1] at h; exact absurd h h1
theorem exch_len {p : List Ln} (m : Nat) : (exch p m).length = p.length := exch_length p m

set_option maxRecDepth 100000 in
set_option maxHeartbeats 8000000 in
theorem Xch_any (p : List Ln) (at_ : Int) (v : Value) (w : World) (hp : LinesAt w v p) (R : Ending → World → Prop) (hR : ∀ w' x, Grow w w' → LinesAt w' x (xchM p at_) → R (.returned (.tuple #[x, .int .i64 (xchE p at_)])) w') :
    Calls Try.prog 48 #[v, .int .i64 at_] w R := by
  have HP := Lib.hid hp
  have HR := Lib.hid hR
  obtain ⟨pa, pc, rfl, p1, p2, _⟩ := hp
  clear hR
  obtain ⟨cb, hcb⟩ : ∃ z, canB p at_ = z := ⟨_, rfl⟩
  by_cases hce : canE p at_ = 0
  rotate_left
  · have hE : xchE p at_ = canE p at_ := by unfold xchE; rw [if_neg hce]
    have hM : xchM p at_ = [] := by unfold xchM; rw [hE]; exact ifOK_err hce _
    have HRR := HR.out
    rw [hM, hE] at HRR
    generalize he : canE p at_ = e at hce HRR
    have HR2 := Lib.hid HRR
    have HVE := Lib.hid he
    have HCB := Lib.hid hcb
    have t1 : (e == 0) = false := by simpa using hce
    have t2 : (e != 0) = true := by simpa using hce
    clear HRR HR hE hM he hcb
    go_enter Try.func48, Try.ntmps48
    go_wp2_with fail
    refine Can_any p at_ _ _ HP.out _ ?_
    intro w1 hg1
    rw [HVE.out, HCB.out]
    go_wp2_with fail
    exact HR2.out _ _ hg1 (SlcAt.nil _ _ _)
  have HCE := Lib.hid hce
  have HCB := Lib.hid hcb
  cases cb with
  | false =>
    have hE : xchE p at_ = 6 := by unfold xchE; rw [if_pos hce, hcb]; rfl
    have hM : xchM p at_ = [] := by unfold xchM; rw [hE]; exact ifOK_err (by decide) _
    have HRR := HR.out
    rw [hM, hE] at HRR
    have HR2 := Lib.hid HRR
    clear HRR HR hE hM hcb hce
    go_enter Try.func48, Try.ntmps48
    go_wp2_with fail
    refine Can_any p at_ _ _ HP.out _ ?_
    intro w1 hg1
    rw [HCE.out, HCB.out]
    go_wp2_with fail
    exact HR2.out _ _ hg1 (SlcAt.nil _ _ _)
  | true =>
    have hE : xchE p at_ = 0 := by unfold xchE; rw [if_pos hce, hcb]; rfl
    obtain ⟨hval, m, rfl, hm1, _, _⟩ := xchE_ok hE
    have hM : xchM p m = exch p m := by unfold xchM; rw [hE, Int.toNat_natCast]; rfl
    have HRR := HR.out
    rw [hM, hE] at HRR
    have HR2 := Lib.hid HRR
    have hp8 := (valP_ok.1 hval).1
    obtain ⟨⟨op, d, a, b⟩, hl⟩ : ∃ l, p[m]? = some l := ⟨_, List.getElem?_eq_getElem (by omega)⟩
    obtain ⟨⟨op', d', a', b'⟩, hl'⟩ : ∃ l, p[m + 1]? = some l := ⟨_, List.getElem?_eq_getElem hm1⟩
    have hx : exch p m = (p.set m ⟨op', d', a', b'⟩).set (m + 1) ⟨op, d, a, b⟩ := by
      unfold exch
      rw [List.getD_eq_getElem?_getD, hl', List.getD_eq_getElem?_getD, hl]; rfl
    have HX := Lib.hid hx
    have HL := Lib.hid hl
    have HL' := Lib.hid hl'
    clear HRR HR hE hM hcb hce hval hx hl hl'
    go_enter Try.func48, Try.ntmps48
    go_wp2_with fail
    refine Can_any p m _ _ HP.out _ ?_
    intro w1 hg1
    rw [HCE.out, HCB.out]
    have HG1 := Lib.hid hg1
    clear hg1
    go_wp2_with fail
    refine clone_any' p _ _ (HP.out.grow HG1.out) (by omega) _ ?_
    intro w2 x hg2 ho
    obtain ⟨e, g, cap, rfl, hbg, hgl, hrow⟩ := own_slice ho (by omega)
    obtain ⟨k0, k1, k2, k3⟩ := own_cells hrow m _ HL.out
    obtain ⟨j0, j1, j2, j3⟩ := own_cells hrow (m + 1) _ HL'.out
    have z0 := ownsRow_free hrow (m * 4)
    have z1 := ownsRow_free hrow (m * 4 + 1)
    have z2 := ownsRow_free hrow (m * 4 + 2)
    have z3 := ownsRow_free hrow (m * 4 + 3)
    have y0 := ownsRow_free hrow ((m + 1) * 4)
    have y1 := ownsRow_free hrow ((m + 1) * 4 + 1)
    have y2 := ownsRow_free hrow ((m + 1) * 4 + 2)
    have y3 := ownsRow_free hrow ((m + 1) * 4 + 3)
    have HROW := Lib.hid hrow
    have HG2 := Lib.hid (HG1.out.trans hg2)
    have hsz := HG1.out.sz
    have hsz2 := hg2.sz
    have HPW := Lib.hid (HP.out.grow (HG1.out.trans hg2))
    have hs1 := owns_storeL hrow m (by omega) ⟨op', d', a', b'⟩
    have hs2 := owns_storeL hs1 (m + 1) (by rw [List.length_set]; exact hm1) ⟨op, d, a, b⟩
    have hs3 := slc_of_owns encL_len hs2
    rw [List.length_set, List.length_set, ← HX.out] at hs3
    have hgf : Grow w (storeL (storeL w2 g (m * 4) ⟨op', d', a', b'⟩) g ((m + 1) * 4) ⟨op, d, a, b⟩) := below_storeL _ (below_storeL _ HG2.out (by omega)) (by omega)
    have HS3 := Lib.hid hs3
    have HGF := Lib.hid hgf
    clear hrow ho hg2 hs1 hs2 hs3 hgf
    have q1 : IntKind.i64.wrap ((m : Int) + 1) = (m : Int) + 1 := IntWalk.i64_in _ (by omega)
    have q2 : ((m : Int) + 1).toNat = m + 1 := by omega
    have q3 : (m : Int) + 1 < (p.length : Int) := by omega
    have q4 : (0 : Int) ≤ (m : Int) + 1 := by omega
    have q5 : (m : Int) < (p.length : Int) := by omega
    have q6 : (0 : Int) ≤ (m : Int) := by omega
    have q7 : m < p.length := by omega
    go_wp2_with fail
    go_region
    have HF := Lib.hid (HR2.out _ _ HGF.out.drew (HS3.out.grow (Grow.refl _).drew))
    clear k0 k1 k2 k3 j0 j1 j2 j3 z0 z1 z2 z3 y0 y1 y2 y3
    unfold storeL at HF
    go_wp2_with fail
    exact HF.out

set_option maxRecDepth 100000 in
set_option maxHeartbeats 8000000 in
theorem rXch_any (p : List Ln) (at_ : Int) (v : Value) (w : World) (hp : LinesAt w v p) (R : Ending → World → Prop) (hR : ∀ w' x, Grow w w' → LinesAt w' x (xchM p at_) → R (.returned (.tuple #[x, .int .i64 (xchE p at_)])) w') :
    Calls Try.prog 49 #[v, .int .i64 at_] w R := by
  have HP := Lib.hid hp
  have HR := Lib.hid hR
  obtain ⟨pa, pc, rfl, p1, p2, _⟩ := hp
  clear hR
  obtain ⟨cb, hcb⟩ : ∃ z, canB p at_ = z := ⟨_, rfl⟩
  by_cases hce : canE p at_ = 0
  rotate_left
  · have hE : xchE p at_ = canE p at_ := by unfold xchE; rw [if_neg hce]
    have hM : xchM p at_ = [] := by unfold xchM; rw [hE]; exact ifOK_err hce _
    have HRR := HR.out
    rw [hM, hE] at HRR
    generalize he : canE p at_ = e at hce HRR
    have HR2 := Lib.hid HRR
    have HVE := Lib.hid he
    have HCB := Lib.hid hcb
    have t1 : (e == 0) = false := by simpa using hce
    have t2 : (e != 0) = true := by simpa using hce
    clear HRR HR hE hM he hcb
    go_enter Try.func49, Try.ntmps49
    go_wp2_with fail
    refine rCan_any p at_ _ _ HP.out _ ?_
    intro w1 hg1
    rw [HVE.out, HCB.out]
    go_wp2_with fail
    exact HR2.out _ _ hg1 (SlcAt.nil _ _ _)
  have HCE := Lib.hid hce
  have HCB := Lib.hid hcb
  cases cb with
  | false =>
    have hE : xchE p at_ = 6 := by unfold xchE; rw [if_pos hce, hcb]; rfl
    have hM : xchM p at_ = [] := by unfold xchM; rw [hE]; exact ifOK_err (by decide) _
    have HRR := HR.out
    rw [hM, hE] at HRR
    have HR2 := Lib.hid HRR
    clear HRR HR hE hM hcb hce
    go_enter Try.func49, Try.ntmps49
    go_wp2_with fail
    refine rCan_any p at_ _ _ HP.out _ ?_
    intro w1 hg1
    rw [HCE.out, HCB.out]
    go_wp2_with fail
    exact HR2.out _ _ hg1 (SlcAt.nil _ _ _)
  | true =>
    have hE : xchE p at_ = 0 := by unfold xchE; rw [if_pos hce, hcb]; rfl
    obtain ⟨hval, m, rfl, hm1, _, _⟩ := xchE_ok hE
    have hM : xchM p m = exch p m := by unfold xchM; rw [hE, Int.toNat_natCast]; rfl
    have HRR := HR.out
    rw [hM, hE] at HRR
    have HR2 := Lib.hid HRR
    have hp8 := (valP_ok.1 hval).1
    obtain ⟨⟨op, d, a, b⟩, hl⟩ : ∃ l, p[m]? = some l := ⟨_, List.getElem?_eq_getElem (by omega)⟩
    obtain ⟨⟨op', d', a', b'⟩, hl'⟩ : ∃ l, p[m + 1]? = some l := ⟨_, List.getElem?_eq_getElem hm1⟩
    have hx : exch p m = (p.set m ⟨op', d', a', b'⟩).set (m + 1) ⟨op, d, a, b⟩ := by
      unfold exch
      rw [List.getD_eq_getElem?_getD, hl', List.getD_eq_getElem?_getD, hl]; rfl
    have HX := Lib.hid hx
    have HL := Lib.hid hl
    have HL' := Lib.hid hl'
    clear HRR HR hE hM hcb hce hval hx hl hl'
    go_enter Try.func49, Try.ntmps49
    go_wp2_with fail
    refine rCan_any p m _ _ HP.out _ ?_
    intro w1 hg1
    rw [HCE.out, HCB.out]
    have HG1 := Lib.hid hg1
    clear hg1
    go_wp2_with fail
    refine rcopy_any p _ _ (HP.out.grow HG1.out) (by omega) _ ?_
    intro w2 x hg2 ho
    obtain ⟨e, g, cap, rfl, hbg, hgl, hrow⟩ := own_slice ho (by omega)
    obtain ⟨k0, k1, k2, k3⟩ := own_cells hrow m _ HL.out
    obtain ⟨j0, j1, j2, j3⟩ := own_cells hrow (m + 1) _ HL'.out
    have z0 := ownsRow_free hrow (m * 4)
    have z1 := ownsRow_free hrow (m * 4 + 1)
    have z2 := ownsRow_free hrow (m * 4 + 2)
    have z3 := ownsRow_free hrow (m * 4 + 3)
    have y0 := ownsRow_free hrow ((m + 1) * 4)
    have y1 := ownsRow_free hrow ((m + 1) * 4 + 1)
    have y2 := ownsRow_free hrow ((m + 1) * 4 + 2)
    have y3 := ownsRow_free hrow ((m + 1) * 4 + 3)
    have HROW := Lib.hid hrow
    have HG2 := Lib.hid (HG1.out.trans hg2)
    have hsz := HG1.out.sz
    have hsz2 := hg2.sz
    have HPW := Lib.hid (HP.out.grow (HG1.out.trans hg2))
    have hs1 := owns_storeL hrow m (by omega) ⟨op', d', a', b'⟩
    have hs2 := owns_storeL hs1 (m + 1) (by rw [List.length_set]; exact hm1) ⟨op, d, a, b⟩
    have hs3 := slc_of_owns encL_len hs2
    rw [List.length_set, List.length_set, ← HX.out] at hs3
    have hgf : Grow w (storeL (storeL w2 g (m * 4) ⟨op', d', a', b'⟩) g ((m + 1) * 4) ⟨op, d, a, b⟩) := below_storeL _ (below_storeL _ HG2.out (by omega)) (by omega)
    have HS3 := Lib.hid hs3
    have HGF := Lib.hid hgf
    clear hrow ho hg2 hs1 hs2 hs3 hgf
    have q1 : IntKind.i64.wrap ((m : Int) + 1) = (m : Int) + 1 := IntWalk.i64_in _ (by omega)
    have q2 : ((m : Int) + 1).toNat = m + 1 := by omega
    have q3 : (m : Int) + 1 < (p.length : Int) := by omega
    have q4 : (0 : Int) ≤ (m : Int) + 1 := by omega
    have q5 : (m : Int) < (p.length : Int) := by omega
    have q6 : (0 : Int) ≤ (m : Int) := by omega
    have q7 : m < p.length := by omega
    obtain ⟨pb, po, rfl, hpb, f0, f1, f2, f3⟩ := lines_at HP.out HL.out
    clear f0 f1 f2 f3
    obtain ⟨_, _, e, _, f0, f1, f2, f3⟩ := lines_at HPW.out HL.out
    cases e
    obtain ⟨_, _, e, _, h0, h1, h2, h3⟩ := lines_at HPW.out HL'.out
    cases e
    have hne1 : pb ≠ g := by omega
    have hne2 : g ≠ pb := by omega
    have HF := Lib.hid (HR2.out _ _ HGF.out HS3.out)
    unfold storeL at HF
    go_wp2_with fail
    exact HF.out

end Go.Proofs.Ytmaphlbmmemgcaa
