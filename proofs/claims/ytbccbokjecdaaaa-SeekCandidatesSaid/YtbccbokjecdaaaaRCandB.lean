/- The walk of the document's Candidates. -/
import Derived.Test.YtbccbokjecdaaaaRCand0
import Derived.Test.YtbccbokjecdaaaaRCand1
import Derived.Test.YtbccbokjecdaaaaRCand2
import Derived.Test.YtbccbokjecdaaaaRefA1
namespace Go.Proofs.Ytbccbokjecdaaaa
open Go.RowKit

set_option maxRecDepth 100000 in
set_option maxHeartbeats 8000000 in
theorem rCandidates_any (p : List Ln) (at_ kind : Int) (v : Value) (w : World) (hv : LinesAt w v p) (R : Ending → World → Prop)
    (hR : ∀ w' x, Grow w w' → LinesAt w' x (candO p at_ kind) → R (.returned (.tuple #[x, .int .i64 (candE p at_ kind)])) w') :
    Calls Try.prog 14 #[v, .int .i64 at_, .int .i64 kind] w R := by
  have HV := Lib.hid hv
  have HR := Lib.hid hR
  obtain ⟨va, vc, rfl, v1, v2, _⟩ := hv
  clear hR
  have he0 : candE p at_ kind = if valP p = 0 then askE p.length at_ kind else valP p := rfl
  have ho0 : candO p at_ kind = if candE p at_ kind = 0 then candL p (lineAt p at_) kind else [] := rfl
  rw [he0] at ho0
  rw [ho0, he0] at HR
  clear he0 ho0
  have hval := fun h : valP p = 0 => (valP_ok.1 h)
  obtain ⟨e, he⟩ : ∃ e, valP p = e := ⟨_, rfl⟩
  rw [he] at hval
  rw [he] at HR
  have HE := Lib.hid he
  clear he
  by_cases h0 : e = 0
  rotate_left
  · rw [if_neg h0, if_neg h0] at HR
    have t1 : (e != 0) = true := by simpa using h0
    clear hval h0
    go_enter Try.func14, Try.ntmps14
    go_wp2_with fail
    refine rValidate_any p _ _ HV.out _ ?_
    intro w1 hg1
    rw [HE.out]
    have HF := Lib.hid (HR.out w1 (.slice none 0 0) hg1 (SlcAt.nil _ _ _))
    clear hg1
    go_wp2_with fail
    exact HF.out
  · obtain ⟨hlen, hall⟩ := hval h0
    subst h0
    rw [if_pos rfl] at HR
    have HV8 := Lib.hid hlen
    have HALL := Lib.hid hall
    clear hval hall hlen
    by_cases a0 : at_ < 0
    · skip
      have hq : askE p.length at_ kind = 4 := by unfold askE; rw [inB_false.2 (by omega)]; rfl
      rw [hq, if_neg (by decide)] at HR
      clear hq
      go_enter Try.func14, Try.ntmps14
      go_wp2_with fail
      refine rValidate_any p _ _ HV.out _ ?_
      intro w1 hg1
      rw [HE.out]
      have HF := Lib.hid (HR.out w1 (.slice none 0 0) hg1 (SlcAt.nil _ _ _))
      clear hg1
      go_wp2_with fail
      exact HF.out
    · by_cases a1 : (p.length : Int) ≤ at_
      · skip
        have hq : askE p.length at_ kind = 4 := by unfold askE; rw [inB_false.2 (by omega)]; rfl
        rw [hq, if_neg (by decide)] at HR
        clear hq
        go_enter Try.func14, Try.ntmps14
        go_wp2_with fail
        refine rValidate_any p _ _ HV.out _ ?_
        intro w1 hg1
        rw [HE.out]
        have HF := Lib.hid (HR.out w1 (.slice none 0 0) hg1 (SlcAt.nil _ _ _))
        clear hg1
        go_wp2_with fail
        exact HF.out
      · by_cases k0 : kind < 0
        · skip
          have hq : askE p.length at_ kind = 1 := by unfold askE; rw [inB_true.2 (by omega), inB_false.2 (by omega)]; rfl
          rw [hq, if_neg (by decide)] at HR
          clear hq
          go_enter Try.func14, Try.ntmps14
          go_wp2_with fail
          refine rValidate_any p _ _ HV.out _ ?_
          intro w1 hg1
          rw [HE.out]
          have HF := Lib.hid (HR.out w1 (.slice none 0 0) hg1 (SlcAt.nil _ _ _))
          clear hg1
          go_wp2_with fail
          exact HF.out
        · by_cases k2 : 2 < kind
          · skip
            have hq : askE p.length at_ kind = 1 := by unfold askE; rw [inB_true.2 (by omega), inB_false.2 (by omega)]; rfl
            rw [hq, if_neg (by decide)] at HR
            clear hq
            go_enter Try.func14, Try.ntmps14
            go_wp2_with fail
            refine rValidate_any p _ _ HV.out _ ?_
            intro w1 hg1
            rw [HE.out]
            have HF := Lib.hid (HR.out w1 (.slice none 0 0) hg1 (SlcAt.nil _ _ _))
            clear hg1
            go_wp2_with fail
            exact HF.out
          · have hq : askE p.length at_ kind = 0 := askE_ok.2 (by omega)
            rw [hq, if_pos rfl] at HR
            clear hq
            obtain ⟨n, rfl⟩ : ∃ n : Nat, at_ = n := ⟨at_.toNat, by omega⟩
            obtain ⟨⟨op, d, a, b⟩, hx⟩ : ∃ l, p[n]? = some l := ⟨_, List.getElem?_eq_getElem (by omega)⟩
            have hl : lineAt p (n : Int) = ⟨op, d, a, b⟩ := by unfold lineAt; rw [show ((n : Int)).toNat = n by omega, hx]; rfl
            have hok : (⟨op, d, a, b⟩ : Ln).ok = true := HALL.out _ (List.mem_of_getElem? hx)
            rw [hl, cand_eq hok (by omega) (by omega)] at HR
            have HX := Lib.hid hx
            clear hx hl hok
            have hk : kind = 0 ∨ kind = 1 ∨ kind = 2 := by omega
            clear k0 k2
            rcases hk with rfl | rfl | rfl
            · go_enter Try.func14, Try.ntmps14
              go_wp2_with fail
              refine rValidate_any p _ _ HV.out _ ?_
              intro w1 hg1
              rw [HE.out]
              have HG1 := Lib.hid hg1
              have HV1 := Lib.hid (HV.out.grow hg1)
              clear hg1
              go_wp2_with fail
              refine rcand0_any p n op d a b _ _ HV1.out HX.out HALL.out HV8.out _ ?_
              intro w3 x3 hg3 hx3
              have HF := Lib.hid (HR.out w3 x3 (HG1.out.trans hg3) hx3)
              clear hg3 hx3
              go_wp2_with fail
              exact HF.out
            · go_enter Try.func14, Try.ntmps14
              go_wp2_with fail
              refine rValidate_any p _ _ HV.out _ ?_
              intro w1 hg1
              rw [HE.out]
              have HG1 := Lib.hid hg1
              have HV1 := Lib.hid (HV.out.grow hg1)
              clear hg1
              go_wp2_with fail
              refine rcand1_any p n op d a b _ _ HV1.out HX.out HALL.out HV8.out _ ?_
              intro w3 x3 hg3 hx3
              have HF := Lib.hid (HR.out w3 x3 (HG1.out.trans hg3) hx3)
              clear hg3 hx3
              go_wp2_with fail
              exact HF.out
            · go_enter Try.func14, Try.ntmps14
              go_wp2_with fail
              refine rValidate_any p _ _ HV.out _ ?_
              intro w1 hg1
              rw [HE.out]
              have HG1 := Lib.hid hg1
              have HV1 := Lib.hid (HV.out.grow hg1)
              clear hg1
              go_wp2_with fail
              refine rcand2_any p n op d a b _ _ HV1.out HX.out HALL.out HV8.out _ ?_
              intro w3 x3 hg3 hx3
              have HF := Lib.hid (HR.out w3 x3 (HG1.out.trans hg3) hx3)
              clear hg3 hx3
              go_wp2_with fail
              exact HF.out
end Go.Proofs.Ytbccbokjecdaaaa
