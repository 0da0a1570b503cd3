/- The walk of the document's answer to Force. -/
import Derived.Test.YtmaphlbmmemgcaaRefF
import Derived.Test.YtmaphlbmmemgcaaCodeJ
namespace Go.Proofs.Ytmaphlbmmemgcaa
open Go.RowKit


set_option maxRecDepth 100000 in
set_option maxHeartbeats 8000000 in
theorem rForce_any (p : List Ln) (s lines values : List Int) (v u lv vv : Value) (w : World) (hp : LinesAt w v p) (hs : IntsAt w u s) (hl : IntsAt w lv lines) (hv : IntsAt w vv values) (R : Ending → World → Prop)
    (hR : ∀ w' x, Grow w w' → IntsAt w' x (frcM p s lines values) → R (.returned (.tuple #[x, .int .i64 (frcE p s lines values)])) w') :
    Calls Try.prog 51 #[v, u, lv, vv] w R := by
  have HP := Lib.hid hp
  have HS := Lib.hid hs
  have HL := Lib.hid hl
  have HV := Lib.hid hv
  have HR := Lib.hid hR
  obtain ⟨pa, pc, rfl, p1, p2, _⟩ := hp
  obtain ⟨sa, sc, rfl, s1, s2, _⟩ := hs
  obtain ⟨la, lc, rfl, l1, l2, _⟩ := hl
  obtain ⟨va, vc, rfl, v1, v2, _⟩ := hv
  clear hR
  go_enter Try.func51, Try.ntmps51
  go_wp2_with fail
  refine rasked_any p s _ _ _ HP.out HS.out _ ?_
  intro w1 hg1
  have HG := Lib.hid hg1
  clear hg1
  by_cases hck : chk p s = 0
  rotate_left
  · have hE : frcE p s lines values = chk p s := by unfold frcE; rw [if_neg hck]
    have hM : frcM p s lines values = [] := by unfold frcM; rw [hE]; exact ifOK_err hck _
    have HRR := HR.out
    rw [hE, hM] at HRR
    generalize he : chk p s = e at hck HRR
    have HR2 := Lib.hid HRR
    have t1 : (e == 0) = false := by simpa using hck
    have t2 : (e != 0) = true := by simpa using hck
    clear HRR HR hE hM he
    go_wp2_with fail
    exact HR2.out _ _ HG.out (SlcAt.nil _ _ _)
  rw [hck]
  have hE := show frcE p s lines values = _ by unfold frcE; rw [if_pos hck]
  have HE1 := Lib.hid hE
  clear hE
  have HCK := Lib.hid hck
  have hp8 := (valP_ok.1 (chk_ok.1 hck).1).1
  clear hck
  go_wp2_with fail
  refine rIsSet_any lines _ _ (HL.out.grow HG.out) _ ?_
  intro w2 hg2
  have HG2 := Lib.hid (HG.out.trans hg2)
  clear hg2
  have hE := HE1.out
  clear HE1
  cases hasc : ascB lines with
  | false =>
    rw [hasc, if_neg (by simp)] at hE
    have hM : frcM p s lines values = [] := by unfold frcM; rw [hE]; exact ifOK_err (by decide) _
    have HRR := HR.out
    rw [hE, hM] at HRR
    have HR2 := Lib.hid HRR
    clear HRR HR hE hM hasc
    go_wp2_with fail
    exact HR2.out _ _ HG2.out (SlcAt.nil _ _ _)
  | true =>
  rw [hasc, if_pos rfl] at hE
  have HE1 := Lib.hid hE
  clear hE
  have HASC := Lib.hid hasc
  clear hasc
  go_wp2_with fail
  go_loopw [11] (fun iv wr => ∃ k : Nat, k ≤ lines.length ∧ iv = .int .i64 k ∧ Grow w2 wr ∧ ∀ l ∈ lines.take k, (!inB l 0 (p.length - 1)) = false) (fun iv _ => lines.length - (intOf iv).toNat)
  case atStart => exact ⟨0, Nat.zero_le _, rfl, Grow.refl _, by simp⟩
  case round =>
    obtain ⟨k, hk, rfl, hg, hall⟩ := hrel
    have HA := Lib.hid hall
    have HGL := Lib.hid hg
    have HG3 := Lib.hid (HG2.out.trans hg)
    clear hall hg
    by_cases hlt : k < lines.length
    · obtain ⟨x, hx⟩ : ∃ x, lines[k]? = some x := ⟨_, List.getElem?_eq_getElem hlt⟩
      obtain ⟨lb, lo, rfl, _, ex⟩ := ints_at (HL.out.grow HG3.out) hx
      have HX := Lib.hid hx
      clear hx
      cases hin : inB x 0 (p.length - 1) with
      | true =>
        have HIN := Lib.hid hin
        clear hin
        go_wp2_with fail
        refine rwithin_any _ _ _ _ _ ?_
        rw [HIN.out]
        go_wp2_with fail
        go_roundw
        case rel => exact ⟨k + 1, by omega, by go_num, HGL.out, any_take_succ HA.out HX.out (by rw [HIN.out]; rfl)⟩
        case measure => simp [intOf]; omega
      | false =>
        have hE := HE1.out
        rw [any_at HX.out (f := fun l => !inB l 0 (p.length - 1)) (by rw [hin]; rfl), if_pos rfl] at hE
        have HIN := Lib.hid hin
        have hM : frcM p s lines values = [] := by unfold frcM; rw [hE]; exact ifOK_err (by decide) _
        have HRR := HR.out
        rw [hE, hM] at HRR
        have HR2 := Lib.hid HRR
        clear HRR HR hE hM hin
        go_wp2_with fail
        refine rwithin_any _ _ _ _ _ ?_
        rw [HIN.out]
        go_wp2_with fail
        exact HR2.out _ _ HG3.out (SlcAt.nil _ _ _)
    · have hrng := any_of_take HA.out (by omega)
      have HRNG := Lib.hid hrng
      have hE := HE1.out
      rw [hrng, if_neg (by simp)] at hE
      clear HE1 hrng
      by_cases hlen : values.length = lines.length
      rotate_left
      · rw [if_neg hlen] at hE
        have hne : ((values.length : Int) == lines.length) = false := by simp; omega
        have hne2 : ((values.length : Int) != lines.length) = true := by simp; omega
        have hM : frcM p s lines values = [] := by unfold frcM; rw [hE]; exact ifOK_err (by decide) _
        have HRR := HR.out
        rw [hE, hM] at HRR
        have HR2 := Lib.hid HRR
        clear HRR HR hE hM
        go_wp2_with fail
        exact HR2.out _ _ HG3.out (SlcAt.nil _ _ _)
      rw [if_pos hlen] at hE
      have HE1 := Lib.hid hE
      clear hE
      have heq : ((values.length : Int) == lines.length) = true := by simp; omega
      have heq2 : ((values.length : Int) != lines.length) = false := by simp; omega
      have HLEN := Lib.hid hlen
      clear hlen
      obtain ⟨w3, rfl⟩ : ∃ w3 : World, w3 = wr := ⟨_, rfl⟩
      go_wp2_with fail
      clear heq heq2
      go_loopw [12] (fun iv wi => ∃ k : Nat, k ≤ values.length ∧ iv = .int .i64 k ∧ Grow w3 wi ∧ ∀ l ∈ values.take k, (!inB l (-999) 999) = false) (fun iv _ => values.length - (intOf iv).toNat)
      case atStart => exact ⟨0, Nat.zero_le _, rfl, Grow.refl _, by simp⟩
      case round =>
        obtain ⟨k, hk, rfl, hg, hall⟩ := hrel
        have HA := Lib.hid hall
        have HGL := Lib.hid hg
        have HG4 := Lib.hid (HG3.out.trans hg)
        clear hall hg
        by_cases hlt : k < values.length
        · obtain ⟨x, hx⟩ : ∃ x, values[k]? = some x := ⟨_, List.getElem?_eq_getElem hlt⟩
          obtain ⟨lb, lo, rfl, _, ex⟩ := ints_at (HV.out.grow HG4.out) hx
          have HX := Lib.hid hx
          clear hx
          cases hin : inB x (-999) 999 with
          | true =>
            have HIN := Lib.hid hin
            clear hin
            go_wp2_with fail
            refine rwithin_any _ _ _ _ _ ?_
            rw [HIN.out]
            go_wp2_with fail
            go_roundw
            case rel => exact ⟨k + 1, by omega, by go_num, HGL.out, any_take_succ HA.out HX.out (by rw [HIN.out]; rfl)⟩
            case measure => simp [intOf]; omega
          | false =>
            have hE := HE1.out
            rw [any_at HX.out (f := fun l => !inB l (-999) 999) (by rw [hin]; rfl), if_pos rfl] at hE
            have HIN := Lib.hid hin
            have hM : frcM p s lines values = [] := by unfold frcM; rw [hE]; exact ifOK_err (by decide) _
            have HRR := HR.out
            rw [hE, hM] at HRR
            have HR2 := Lib.hid HRR
            clear HRR HR hE hM hin
            go_wp2_with fail
            refine rwithin_any _ _ _ _ _ ?_
            rw [HIN.out]
            go_wp2_with fail
            exact HR2.out _ _ HG4.out (SlcAt.nil _ _ _)
        · have hval := any_of_take HA.out (by omega)
          have HVAL := Lib.hid hval
          have hE := HE1.out
          rw [hval, if_neg (by simp)] at hE
          clear HE1 hval
          have HE1 := Lib.hid hE
          clear hE
          obtain ⟨w4, rfl⟩ : ∃ w4 : World, w4 = wr := ⟨_, rfl⟩
          go_wp2_with fail
          go_loopw [13] (fun iv wj => ∃ k : Nat, k ≤ lines.length ∧ iv = .int .i64 k ∧ Grow w4 wj ∧ ∀ l ∈ lines.take k, (!wrB (p.getD l.toNat default).op) = false) (fun iv _ => lines.length - (intOf iv).toNat)
          case atStart => exact ⟨0, Nat.zero_le _, rfl, Grow.refl _, by simp⟩
          case round =>
            obtain ⟨k, hk, rfl, hg, hall⟩ := hrel
            have HA := Lib.hid hall
            have HGL := Lib.hid hg
            have HG5 := Lib.hid (HG4.out.trans hg)
            clear hall hg
            by_cases hlt : k < lines.length
            · obtain ⟨x, hx⟩ : ∃ x, lines[k]? = some x := ⟨_, List.getElem?_eq_getElem hlt⟩
              obtain ⟨lb, lo, rfl, _, ex⟩ := ints_at (HL.out.grow HG5.out) hx
              have hin : 0 ≤ x ∧ x ≤ p.length - 1 := by
                have h := HRNG.out
                have := List.any_eq_false.1 h x (List.mem_of_getElem? hx)
                simp at this
                exact inB_true.1 this
              obtain ⟨m, rfl⟩ : ∃ m : Nat, x = m := ⟨x.toNat, by omega⟩
              have hmp : m < p.length := by omega
              obtain ⟨⟨op, d, a, b⟩, hlm⟩ : ∃ l, p[m]? = some l := ⟨_, List.getElem?_eq_getElem hmp⟩
              have hok := (valP_ok.1 (chk_ok.1 HCK.out).1).2 _ (List.mem_of_getElem? hlm)
              have hwr := wrB_of_ok (op := op) (d := d) (a := a) (b := b) hok
              obtain ⟨pb, po, rfl, _, f0, f1, f2, f3⟩ := lines_at (HP.out.grow HG5.out) hlm
              have hgd : (p.getD (m : Int).toNat default).op = op := by rw [Int.toNat_natCast, List.getD_eq_getElem?_getD, hlm]; rfl
              have HGD := Lib.hid hgd
              have HX := Lib.hid hx
              have HWR := Lib.hid hwr
              clear hx hlm hgd hin hok hwr
              cases hw : wrB op with
              | true =>
                have HW := Lib.hid hw
                clear hw
                go_wp2_with fail
                refine rwrites_any op d a b _ _ ?_
                intro w6 hg6
                rw [HWR.out, HW.out]
                have HG6 := Lib.hid (HGL.out.trans hg6)
                clear hg6
                go_wp2_with fail
                go_roundw
                case rel => exact ⟨k + 1, by omega, by go_num, HG6.out, any_take_succ HA.out HX.out (by rw [HGD.out, HW.out]; rfl)⟩
                case measure => simp [intOf]; omega
              | false =>
                have hE := HE1.out
                rw [any_at HX.out (f := fun l => !wrB (p.getD l.toNat default).op) (by rw [HGD.out, hw]; rfl), if_pos rfl] at hE
                have hM : frcM p s lines values = [] := by unfold frcM; rw [hE]; exact ifOK_err (by decide) _
                have HRR := HR.out
                rw [hE, hM] at HRR
                have HR2 := Lib.hid HRR
                have HW := Lib.hid hw
                clear HRR HR hE hM hw
                go_wp2_with fail
                refine rwrites_any op d a b _ _ ?_
                intro w6 hg6
                rw [HWR.out, HW.out]
                have HG6 := Lib.hid (HG5.out.trans hg6)
                clear hg6
                go_wp2_with fail
                exact HR2.out _ _ HG6.out (SlcAt.nil _ _ _)
            · have hE := HE1.out
              rw [any_of_take HA.out (by omega), if_neg (by simp)] at hE
              have hM : frcM p s lines values = (trc p (frc lines values) 0 (St.ofL s)).2.toL := by unfold frcM; rw [hE]; rfl
              have HRR := HR.out
              rw [hE, hM] at HRR
              have HR2 := Lib.hid HRR
              clear HRR HR hE hM
              obtain ⟨q, hq, hqf⟩ := St.of_valS (chk_ok.1 HCK.out).2
              have hvf : ∀ n ∈ values, -999 ≤ n ∧ n ≤ 999 := fun n hn => by
                have := List.any_eq_false.1 HVAL.out n hn
                simp at this
                exact inB_true.1 this
              have HVF := Lib.hid hvf
              have HQ := Lib.hid hq
              clear hvf hq
              have hqs : IntsAt wr (.slice sa s.length sc) q.toL := by rw [HQ.out]; exact HS.out.grow HG5.out
              have HQS := Lib.hid hqs
              clear hqs
              go_wp2_with fail
              refine rtrace_any p q lines values _ _ _ _ _ (HP.out.grow HG5.out) HQS.out (HL.out.grow HG5.out) (HV.out.grow HG5.out) HLEN.out.symm hp8 (valP_ok.1 (chk_ok.1 HCK.out).1).2 hqf HVF.out _ ?_
              intro w6 x y hg6 _ ho
              have hst : St.ofL s = q := by rw [← HQ.out]; rfl
              have HF0 := HR2.out
              rw [hst] at HF0
              have HF := Lib.hid (HF0 w6 y (HG5.out.trans hg6) (ho.slc encI_len))
              clear HF0 hst hg6 HR2 ho
              go_wp2_with fail
              exact HF.out
end Go.Proofs.Ytmaphlbmmemgcaa
