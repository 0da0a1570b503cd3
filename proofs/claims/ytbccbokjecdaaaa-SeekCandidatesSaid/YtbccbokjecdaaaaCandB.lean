/- The walk of Candidates. -/
import Derived.Test.YtbccbokjecdaaaaCand
namespace Go.Proofs.Ytbccbokjecdaaaa
open Go.RowKit

def lineAt (p : List Ln) (at_ : Int) : Ln := (p[at_.toNat]?).getD ⟨0, 0, 0, 0⟩
def candO (p : List Ln) (at_ kind : Int) : List Ln := if candE p at_ kind = 0 then candL p (lineAt p at_) kind else []

theorem sources_any (w : World) (R : Ending → World → Prop)
    (hR : R (.returned (.slice (some ⟨w.heap.size, 0, none⟩) 3 3)) (w.alloc (.cells #[.iface 67 (.agg #[]), .iface 68 (.agg #[]), .iface 69 (.agg #[])] 50))) :
    Calls Try.prog 23 #[] w R := by
  have HR := Lib.hid hR
  clear hR
  go_enter Try.func23, Try.ntmps23
  go_wp2_with fail
  exact HR.out

set_option maxRecDepth 100000 in
set_option maxHeartbeats 8000000 in
theorem Candidates_any (p : List Ln) (at_ kind : Int) (v : Value) (w : World) (hv : LinesAt w v p) (R : Ending → World → Prop)
    (hR : ∀ w' x, Grow w w' → LinesAt w' x (candO p at_ kind) → R (.returned (.tuple #[x, .int .i64 (candE p at_ kind)])) w') :
    Calls Try.prog 13 #[v, .int .i64 at_, .int .i64 kind] w R := by
  have HV := Lib.hid hv
  have HR := Lib.hid hR
  obtain ⟨va, vc, rfl, v1, v2, _⟩ := hv
  clear hR
  have he0 : candE p at_ kind = if valP p = 0 then askE p.length at_ kind else valP p := rfl
  have ho0 : candO p at_ kind = if candE p at_ kind = 0 then candL p (lineAt p at_) kind else [] := rfl
  rw [he0] at ho0
  rw [ho0, he0] at HR
  clear he0 ho0
  have hval := fun h : valP p = 0 => (valP_ok.1 h)
  obtain ⟨e, he⟩ : ∃ e, valP p = e := ⟨_, rfl⟩
  obtain ⟨q, hq⟩ : ∃ q, askE p.length at_ kind = q := ⟨_, rfl⟩
  have hask := fun h : q = 0 => askE_ok.1 (hq.trans h)
  rw [he] at hval
  rw [he, hq] at HR
  have HE := Lib.hid he
  have HQ := Lib.hid hq
  clear he hq
  by_cases h0 : e = 0
  rotate_left
  · rw [if_neg h0, if_neg h0] at HR
    have t1 : (e != 0) = true := by simpa using h0
    clear hval hask h0
    go_enter Try.func13, Try.ntmps13
    go_wp2_with fail
    refine validate_any p _ _ HV.out _ ?_
    intro w1 hg1
    rw [HE.out]
    have HF := Lib.hid (HR.out w1 (.slice none 0 0) hg1 (SlcAt.nil _ _ _))
    clear hg1
    go_wp2_with fail
    exact HF.out
  · obtain ⟨hlen, hall⟩ := hval h0
    subst h0
    rw [if_pos rfl] at HR
    have HV8 := Lib.hid hlen
    have HALL := Lib.hid hall
    clear hval hall hlen
    by_cases h1 : q = 0
    rotate_left
    · rw [if_neg h1] at HR
      have t1 : (q != 0) = true := by simpa using h1
      clear hask h1
      go_enter Try.func13, Try.ntmps13
      go_wp2_with fail
      refine validate_any p _ _ HV.out _ ?_
      intro w1 hg1
      rw [HE.out]
      have HG1 := Lib.hid hg1
      clear hg1
      go_wp2_with fail
      refine asked_any _ _ _ _ _ _ (by omega) _ ?_
      rw [HQ.out]
      have HF := Lib.hid (HR.out w1 (.slice none 0 0) HG1.out (SlcAt.nil _ _ _))
      go_wp2_with fail
      exact HF.out
    · obtain ⟨a0, a1, k0, k2⟩ := hask h1
      subst h1
      rw [if_pos rfl] at HR
      clear hask
      obtain ⟨n, rfl⟩ : ∃ n : Nat, at_ = n := ⟨at_.toNat, by omega⟩
      obtain ⟨⟨op, d, a, b⟩, hx⟩ : ∃ l, p[n]? = some l := ⟨_, List.getElem?_eq_getElem (by omega)⟩
      have hl : lineAt p (n : Int) = ⟨op, d, a, b⟩ := by unfold lineAt; rw [show ((n : Int)).toNat = n by omega, hx]; rfl
      rw [hl] at HR
      have HOK := Lib.hid (show vL op d a b = true from HALL.out _ (List.mem_of_getElem? hx))
      have HX := Lib.hid hx
      clear hx hl
      have hk : kind = 0 ∨ kind = 1 ∨ kind = 2 := by omega
      rcases hk with rfl | rfl | rfl
      · rw [show candL p ⟨op, d, a, b⟩ 0 = tmpl ⟨op, d, a, b⟩ from rfl] at HR
        go_enter Try.func13, Try.ntmps13
        go_wp2_with fail
        refine validate_any p _ _ HV.out _ ?_
        intro w1 hg1
        rw [HE.out]
        have HG1 := Lib.hid hg1
        have HV1 := Lib.hid (HV.out.grow hg1)
        clear hg1
        go_wp2_with fail
        refine asked_any _ _ _ _ _ _ (by omega) _ ?_
        rw [HQ.out]
        go_wp2_with fail
        refine sources_any _ _ ?_
        go_wp2_with fail
        refine cand0_any p n op d a b _ _ (HV1.out.grow ((Grow.refl _).alloc _)) HX.out HOK.out _ ?_
        intro w3 x3 hg3 hx3
        have HF := Lib.hid (HR.out w3 x3 (HG1.out.trans (((Grow.refl _).alloc _).trans hg3)) hx3)
        clear hg3 hx3
        go_wp2_with fail
        exact HF.out
      · rw [show candL p ⟨op, d, a, b⟩ 1 = validL p ⟨op, d, a, b⟩ from rfl] at HR
        go_enter Try.func13, Try.ntmps13
        go_wp2_with fail
        refine validate_any p _ _ HV.out _ ?_
        intro w1 hg1
        rw [HE.out]
        have HG1 := Lib.hid hg1
        have HV1 := Lib.hid (HV.out.grow hg1)
        clear hg1
        go_wp2_with fail
        refine asked_any _ _ _ _ _ _ (by omega) _ ?_
        rw [HQ.out]
        go_wp2_with fail
        refine sources_any _ _ ?_
        go_wp2_with fail
        refine cand1_any p n op d a b _ _ (HV1.out.grow ((Grow.refl _).alloc _)) HX.out (by have := HV8.out; omega) _ ?_
        intro w3 x3 hg3 hx3
        have HF := Lib.hid (HR.out w3 x3 (HG1.out.trans (((Grow.refl _).alloc _).trans hg3)) hx3)
        clear hg3 hx3
        go_wp2_with fail
        exact HF.out
      · rw [show candL p ⟨op, d, a, b⟩ 2 = validL allR ⟨op, d, a, b⟩ from rfl] at HR
        go_enter Try.func13, Try.ntmps13
        go_wp2_with fail
        refine validate_any p _ _ HV.out _ ?_
        intro w1 hg1
        rw [HE.out]
        have HG1 := Lib.hid hg1
        have HV1 := Lib.hid (HV.out.grow hg1)
        clear hg1
        go_wp2_with fail
        refine asked_any _ _ _ _ _ _ (by omega) _ ?_
        rw [HQ.out]
        go_wp2_with fail
        refine sources_any _ _ ?_
        go_wp2_with fail
        refine cand2_any p n op d a b _ _ (HV1.out.grow ((Grow.refl _).alloc _)) HX.out  _ ?_
        intro w3 x3 hg3 hx3
        have HF := Lib.hid (HR.out w3 x3 (HG1.out.trans (((Grow.refl _).alloc _).trans hg3)) hx3)
        clear hg3 hx3
        go_wp2_with fail
        exact HF.out
end Go.Proofs.Ytbccbokjecdaaaa
