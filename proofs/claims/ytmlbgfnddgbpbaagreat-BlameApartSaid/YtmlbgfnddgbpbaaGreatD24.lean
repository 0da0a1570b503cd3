/-
The walks of the document's answer to layer 1: what a line reads and writes.
The walk of the document's answer to Force.
-/
import Derived.Test.YtmlbgfnddgbpbaaGreatD10
import Derived.Test.YtmlbgfnddgbpbaaGreatD02
namespace Go.Proofs.YtmlbgfnddgbpbaaGreat
open Go.RowKit

set_option maxRecDepth 100000 in
set_option maxHeartbeats 2000000 in
theorem rreads_any (op d a b : Int) (w : World) (h2 : 2 ≤ op → 0 ≤ a ∧ a ≤ 3) (h3 : 3 ≤ op → 0 ≤ b ∧ b ≤ 3) (R : Ending → World → Prop)
    (hR : ∀ w', Grow w w' → w'.heap[w.heap.size + 1]? = some (.cells (arrM (rdM op a b)) 4 (0, 0)) → R (.returned (.slice (some ⟨w.heap.size + 1, 0, none⟩) 4 4)) w') :
    Calls Tryz.prog 151 #[.agg #[.int .i64 op, .int .i64 d, .int .i64 a, .int .i64 b]] w R := by
  have HR := Lib.hid hR
  clear hR
  have hmk : ∀ W, (Instr.makeSlice 128 (.int .i64 4) (.int .i64 4)).run Tryz.prog W = .ok (.slice (some ⟨W.heap.size, 0, none⟩) 4 4) (W.alloc (.cells #[.bool false, .bool false, .bool false, .bool false] 4)) := fun W => by kernel_rfl
  by_cases g2 : 2 ≤ op
  · obtain ⟨a0, a3⟩ := h2 g2
    have a4 : a < 4 := by omega
    by_cases g3 : 3 ≤ op
    · obtain ⟨b0, b3⟩ := h3 g3
      have b4 : b < 4 := by omega
      go_enter Tryz.func151, Tryz.ntmps151
      go_wp2_with fail
      refine HR.out _ (((Grow.refl w).alloc _).alloc _) ((heap_two1 w _ _).trans ?_)
      have e2 : rdM op a b = (Ms.set ⟨false, false, false, false⟩ a true).set b true := by unfold rdM; rw [if_pos g3, if_pos g2]
      rw [e2]
      have ha : a = 0 ∨ a = 1 ∨ a = 2 ∨ a = 3 := by omega
      have hb : b = 0 ∨ b = 1 ∨ b = 2 ∨ b = 3 := by omega
      rcases ha with rfl | rfl | rfl | rfl <;> rcases hb with rfl | rfl | rfl | rfl <;> rfl
    · go_enter Tryz.func151, Tryz.ntmps151
      go_wp2_with fail
      refine HR.out _ (((Grow.refl w).alloc _).alloc _) ((heap_two1 w _ _).trans ?_)
      have e2 : rdM op a b = Ms.set ⟨false, false, false, false⟩ a true := by unfold rdM; rw [if_neg (by omega), if_pos g2]
      rw [e2]
      have ha : a = 0 ∨ a = 1 ∨ a = 2 ∨ a = 3 := by omega
      rcases ha with rfl | rfl | rfl | rfl <;> rfl
  · have g3 : ¬ 3 ≤ op := by omega
    go_enter Tryz.func151, Tryz.ntmps151
    go_wp2_with fail
    refine HR.out _ (((Grow.refl w).alloc _).alloc _) ((heap_two1 w _ _).trans ?_)
    have e2 : rdM op a b = ⟨false, false, false, false⟩ := by unfold rdM; rw [if_neg (by omega), if_neg (by omega)]
    rw [e2]
    rfl

theorem bools_of_block {w : World} {b : Nat} {m : Ms} {e : TypeId} (h : w.heap[b]? = some (.cells (arrM m) e (0, 0))) : BoolsAt w (.slice (some ⟨b, 0, none⟩) 4 4) m.toL := by
  refine ⟨_, 4, rfl, by simp [Ms.toL], by decide, .inr ⟨b, 0, rfl, lt_of_block h, ?_⟩⟩
  intro j x hj i u hu
  have hi : i = 0 := by
    have := (List.getElem?_eq_some_iff.1 hu).1
    simp [encT] at this; exact this
  subst hi
  simp [encT] at hu
  subst hu
  match j, hj with
  | 0, hj => simp [Ms.toL] at hj; subst hj; simp [World.cell?, h, arrM]
  | 1, hj => simp [Ms.toL] at hj; subst hj; simp [World.cell?, h, arrM]
  | 2, hj => simp [Ms.toL] at hj; subst hj; simp [World.cell?, h, arrM]
  | 3, hj => simp [Ms.toL] at hj; subst hj; simp [World.cell?, h, arrM]
  | n + 4, hj => simp [Ms.toL] at hj

set_option maxHeartbeats 2000000 in
theorem rset_any (bs : List Bool) (v : Value) (w : World) (hb : BoolsAt w v bs) (hlen : bs.length < 100000000) (R : Ending → World → Prop) (hR : ∀ w' x, Grow w w' → OwnI w.heap.size w' x (setL bs) → R (.returned x) w') :
    Calls Tryz.prog 152 #[v] w R := by
  have HR := Lib.hid hR
  clear hR
  obtain ⟨a, c, rfl, h1, h2, h3⟩ := hb
  go_enter Tryz.func152, Tryz.ntmps152
  go_wp2_with fail
  go_loopw [3, 4] (fun out i wr => ∃ k : Nat, k ≤ bs.length ∧ i = .int .i64 k ∧ wr.ownsRow w.heap.size 3 1 out (setN bs k).length ((setN bs k).flatMap encI) ∧ Grow w wr) (fun _ i _ => bs.length - (intOf i).toNat)
  case atStart => exact ⟨0, Nat.zero_le _, rfl, World.ownsRow_nil _ _ _ _, Grow.refl _⟩
  case round =>
    obtain ⟨k, hk, rfl, hown, hg⟩ := hrel
    by_cases hlt : k < bs.length
    · replace h3 := h3.resolve_left (by intro h; simp [h.1] at hlt)
      obtain ⟨b, o, rfl, hb, hc⟩ := h3
      obtain ⟨x, hx⟩ : ∃ l, bs[k]? = some l := ⟨_, List.getElem?_eq_getElem hlt⟩
      have e0 := hg.cell (bools_cell hc k x hx)
      have hsz := hg.sz
      have HG := Lib.hid hg
      have HX := Lib.hid hx
      have HO := Lib.hid hown
      have hn1 : (setN bs k).length < 100000000000 := by have := setN_len bs k; omega
      clear hc hx hg hown
      cases x with
      | true =>
        go_wp2_with (at_builtin; refine wpList_app _ rfl (.tmp 15) (.tmp 17) 29 rfl w.heap.size 3 Tryz.underlying29 info_int rfl (by decide) (by decide) encI encI_len encI_one _ (setN bs k) rfl (HO.out.alloc _) ⟨wr.heap.size, 0, none⟩ (k : Int) 1 rfl (news_one _ (encI k) _) hn1 (by simp; omega) ?_; intro out1 w5 hown1 hgr1)
        have hg5 : Grow w w5 := grown_below HO.out hgr1 (Nat.le_refl _) (by simp; omega) (HG.out.alloc _)
        rw [← setN_true HX.out] at hown1
        go_roundw
        case rel => exact ⟨k + 1, by omega, by go_num, hown1, hg5⟩
        case measure => simp [intOf]; omega
      | false =>
        go_wp2_with fail
        go_roundw
        case rel => exact ⟨k + 1, by omega, by go_num, by rw [setN_false HX.out]; exact HO.out, HG.out⟩
        case measure => simp [intOf]; omega
    · have hke : k = bs.length := by omega
      subst hke
      have HO := Lib.hid hown
      have HG := Lib.hid hg
      clear hown hg
      go_wp2_with fail
      exact HR.out _ _ HG.out ⟨_, HO.out⟩

set_option maxHeartbeats 1000000 in
theorem rWrites_any (op d a b : Int) (w : World) (R : Ending → World → Prop)
    (hR : ∀ w', Grow w w' → R (.returned (.tuple #[.int .i64 (wrO op d a b), .bool (wrI op d a b), .int .i64 (errB (vL op d a b))])) w') :
    Calls Tryz.prog 96 #[.agg #[.int .i64 op, .int .i64 d, .int .i64 a, .int .i64 b]] w R := by
  have HR := Lib.hid hR
  clear hR
  cases hv : vL op d a b with
  | true =>
    have HRR := HR.out
    rw [wrO, wrI, hv, errB_true, if_pos rfl, Bool.true_and] at HRR
    have HV := Lib.hid hv
    have hw := wrB_of_ok hv
    have HR2 := Lib.hid HRR
    clear HRR HR hv
    go_enter Tryz.func96, Tryz.ntmps96
    go_wp2_with fail
    refine risLine_any op d a b _ _ ?_
    intro w1 hg1
    rw [HV.out]
    have e0 := hg1.cell (a := ⟨w.heap.size, 0, none⟩) (v := .int .i64 op) (by simp)
    have e1 := hg1.cell (a := ⟨w.heap.size, 1, none⟩) (v := .int .i64 d) (by simp)
    have e2 := hg1.cell (a := ⟨w.heap.size, 2, none⟩) (v := .int .i64 a) (by simp)
    have e3 := hg1.cell (a := ⟨w.heap.size, 3, none⟩) (v := .int .i64 b) (by simp)
    have hz : w.heap.size < w1.heap.size := by have := hg1.sz; simp at this; omega
    have HG := Lib.hid hg1
    clear hg1
    go_wp2_with fail
    refine rwrites_any op d a b _ _ ?_
    intro w2 hg2
    rw [hw]
    have f1 := hg2.cell e1
    have hz2 := hg2.sz
    cases hwb : wrB op with
    | true =>
      have hf := HR2.out w2 (((Grow.refl w).alloc _).trans (HG.out.trans hg2))
      rw [show wrT op d = d by simp [wrT, hwb], hwb] at hf
      have HF := Lib.hid hf
      clear hf hg2 hw
      go_wp2_with fail
      go_ret3
      exact HF.out
    | false =>
      have hf := HR2.out w2 (((Grow.refl w).alloc _).trans (HG.out.trans hg2))
      rw [show wrT op d = 0 by simp [wrT, hwb], hwb] at hf
      have HF := Lib.hid hf
      clear hf hg2 hw
      go_wp2_with fail
      go_ret3
      exact HF.out
  | false =>
    have HRR := HR.out
    rw [wrO, wrI, hv, errB_false, if_neg (by simp), Bool.false_and] at HRR
    have HR2 := Lib.hid HRR
    have HV := Lib.hid hv
    clear HRR HR hv
    go_enter Tryz.func96, Tryz.ntmps96
    go_wp2_with fail
    refine risLine_any op d a b _ _ ?_
    intro w1 hg1
    rw [HV.out]
    go_wp2_with fail
    go_ret3
    exact HR2.out _ (((Grow.refl w).alloc _).trans hg1)
end Go.Proofs.YtmlbgfnddgbpbaaGreat

namespace Go.Proofs.YtmlbgfnddgbpbaaGreat
open Go.RowKit


set_option maxRecDepth 100000 in
set_option maxHeartbeats 8000000 in
theorem rForce_any (p : List Ln) (s lines values : List Int) (v u lv vv : Value) (w : World) (hp : LinesAt w v p) (hs : IntsAt w u s) (hl : IntsAt w lv lines) (hv : IntsAt w vv values) (R : Ending → World → Prop)
    (hR : ∀ w' x, Grow w w' → IntsAt w' x (frcM p s lines values) → R (.returned (.tuple #[x, .int .i64 (frcE p s lines values)])) w') :
    Calls Tryz.prog 79 #[v, u, lv, vv] w R := by
  have HP := Lib.hid hp
  have HS := Lib.hid hs
  have HL := Lib.hid hl
  have HV := Lib.hid hv
  have HR := Lib.hid hR
  obtain ⟨pa, pc, rfl, p1, p2, _⟩ := hp
  obtain ⟨sa, sc, rfl, s1, s2, _⟩ := hs
  obtain ⟨la, lc, rfl, l1, l2, _⟩ := hl
  obtain ⟨va, vc, rfl, v1, v2, _⟩ := hv
  clear hR
  go_enter Tryz.func79, Tryz.ntmps79
  go_wp2_with fail
  refine rasked_any p s _ _ _ HP.out HS.out _ ?_
  intro w1 hg1
  have HG := Lib.hid hg1
  clear hg1
  by_cases hck : chk p s = 0
  rotate_left
  · have hE : frcE p s lines values = chk p s := by unfold frcE; rw [if_neg hck]
    have hM : frcM p s lines values = [] := by unfold frcM; rw [hE]; exact ifOK_err hck _
    have HRR := HR.out
    rw [hE, hM] at HRR
    generalize he : chk p s = e at hck HRR
    have HR2 := Lib.hid HRR
    have t1 : (e == 0) = false := by simpa using hck
    have t2 : (e != 0) = true := by simpa using hck
    clear HRR HR hE hM he
    go_wp2_with fail
    exact HR2.out _ _ HG.out (SlcAt.nil _ _ _)
  rw [hck]
  have hE := show frcE p s lines values = _ by unfold frcE; rw [if_pos hck]
  have HE1 := Lib.hid hE
  clear hE
  have HCK := Lib.hid hck
  have hp8 := (valP_ok.1 (chk_ok.1 hck).1).1
  clear hck
  go_wp2_with fail
  refine rIsSet_any lines _ _ (HL.out.grow HG.out) _ ?_
  intro w2 hg2
  have HG2 := Lib.hid (HG.out.trans hg2)
  clear hg2
  have hE := HE1.out
  clear HE1
  cases hasc : ascB lines with
  | false =>
    rw [hasc, if_neg (by simp)] at hE
    have hM : frcM p s lines values = [] := by unfold frcM; rw [hE]; exact ifOK_err (by decide) _
    have HRR := HR.out
    rw [hE, hM] at HRR
    have HR2 := Lib.hid HRR
    clear HRR HR hE hM hasc
    go_wp2_with fail
    exact HR2.out _ _ HG2.out (SlcAt.nil _ _ _)
  | true =>
  rw [hasc, if_pos rfl] at hE
  have HE1 := Lib.hid hE
  clear hE
  have HASC := Lib.hid hasc
  clear hasc
  go_wp2_with fail
  go_loopw [11] (fun iv wr => ∃ k : Nat, k ≤ lines.length ∧ iv = .int .i64 k ∧ Grow w2 wr ∧ ∀ l ∈ lines.take k, (!inB l 0 (p.length - 1)) = false) (fun iv _ => lines.length - (intOf iv).toNat)
  case atStart => exact ⟨0, Nat.zero_le _, rfl, Grow.refl _, by simp⟩
  case round =>
    obtain ⟨k, hk, rfl, hg, hall⟩ := hrel
    have HA := Lib.hid hall
    have HGL := Lib.hid hg
    have HG3 := Lib.hid (HG2.out.trans hg)
    clear hall hg
    by_cases hlt : k < lines.length
    · obtain ⟨x, hx⟩ : ∃ x, lines[k]? = some x := ⟨_, List.getElem?_eq_getElem hlt⟩
      obtain ⟨lb, lo, rfl, _, ex⟩ := ints_at (HL.out.grow HG3.out) hx
      have HX := Lib.hid hx
      clear hx
      cases hin : inB x 0 (p.length - 1) with
      | true =>
        have HIN := Lib.hid hin
        clear hin
        go_wp2_with fail
        refine rwithin_any _ _ _ _ _ ?_
        rw [HIN.out]
        go_wp2_with fail
        go_roundw
        case rel => exact ⟨k + 1, by omega, by go_num, HGL.out, any_take_succ HA.out HX.out (by rw [HIN.out]; rfl)⟩
        case measure => simp [intOf]; omega
      | false =>
        have hE := HE1.out
        rw [any_atI HX.out (f := fun l => !inB l 0 (p.length - 1)) (by rw [hin]; rfl), if_pos rfl] at hE
        have HIN := Lib.hid hin
        have hM : frcM p s lines values = [] := by unfold frcM; rw [hE]; exact ifOK_err (by decide) _
        have HRR := HR.out
        rw [hE, hM] at HRR
        have HR2 := Lib.hid HRR
        clear HRR HR hE hM hin
        go_wp2_with fail
        refine rwithin_any _ _ _ _ _ ?_
        rw [HIN.out]
        go_wp2_with fail
        exact HR2.out _ _ HG3.out (SlcAt.nil _ _ _)
    · have hrng := any_of_take HA.out (by omega)
      have HRNG := Lib.hid hrng
      have hE := HE1.out
      rw [hrng, if_neg (by simp)] at hE
      clear HE1 hrng
      by_cases hlen : values.length = lines.length
      rotate_left
      · rw [if_neg hlen] at hE
        have hne : ((values.length : Int) == lines.length) = false := by simp; omega
        have hne2 : ((values.length : Int) != lines.length) = true := by simp; omega
        have hM : frcM p s lines values = [] := by unfold frcM; rw [hE]; exact ifOK_err (by decide) _
        have HRR := HR.out
        rw [hE, hM] at HRR
        have HR2 := Lib.hid HRR
        clear HRR HR hE hM
        go_wp2_with fail
        exact HR2.out _ _ HG3.out (SlcAt.nil _ _ _)
      rw [if_pos hlen] at hE
      have HE1 := Lib.hid hE
      clear hE
      have heq : ((values.length : Int) == lines.length) = true := by simp; omega
      have heq2 : ((values.length : Int) != lines.length) = false := by simp; omega
      have HLEN := Lib.hid hlen
      clear hlen
      obtain ⟨w3, rfl⟩ : ∃ w3 : World, w3 = wr := ⟨_, rfl⟩
      go_wp2_with fail
      clear heq heq2
      go_loopw [12] (fun iv wi => ∃ k : Nat, k ≤ values.length ∧ iv = .int .i64 k ∧ Grow w3 wi ∧ ∀ l ∈ values.take k, (!inB l (-999) 999) = false) (fun iv _ => values.length - (intOf iv).toNat)
      case atStart => exact ⟨0, Nat.zero_le _, rfl, Grow.refl _, by simp⟩
      case round =>
        obtain ⟨k, hk, rfl, hg, hall⟩ := hrel
        have HA := Lib.hid hall
        have HGL := Lib.hid hg
        have HG4 := Lib.hid (HG3.out.trans hg)
        clear hall hg
        by_cases hlt : k < values.length
        · obtain ⟨x, hx⟩ : ∃ x, values[k]? = some x := ⟨_, List.getElem?_eq_getElem hlt⟩
          obtain ⟨lb, lo, rfl, _, ex⟩ := ints_at (HV.out.grow HG4.out) hx
          have HX := Lib.hid hx
          clear hx
          cases hin : inB x (-999) 999 with
          | true =>
            have HIN := Lib.hid hin
            clear hin
            go_wp2_with fail
            refine rwithin_any _ _ _ _ _ ?_
            rw [HIN.out]
            go_wp2_with fail
            go_roundw
            case rel => exact ⟨k + 1, by omega, by go_num, HGL.out, any_take_succ HA.out HX.out (by rw [HIN.out]; rfl)⟩
            case measure => simp [intOf]; omega
          | false =>
            have hE := HE1.out
            rw [any_atI HX.out (f := fun l => !inB l (-999) 999) (by rw [hin]; rfl), if_pos rfl] at hE
            have HIN := Lib.hid hin
            have hM : frcM p s lines values = [] := by unfold frcM; rw [hE]; exact ifOK_err (by decide) _
            have HRR := HR.out
            rw [hE, hM] at HRR
            have HR2 := Lib.hid HRR
            clear HRR HR hE hM hin
            go_wp2_with fail
            refine rwithin_any _ _ _ _ _ ?_
            rw [HIN.out]
            go_wp2_with fail
            exact HR2.out _ _ HG4.out (SlcAt.nil _ _ _)
        · have hval := any_of_take HA.out (by omega)
          have HVAL := Lib.hid hval
          have hE := HE1.out
          rw [hval, if_neg (by simp)] at hE
          clear HE1 hval
          have HE1 := Lib.hid hE
          clear hE
          obtain ⟨w4, rfl⟩ : ∃ w4 : World, w4 = wr := ⟨_, rfl⟩
          go_wp2_with fail
          go_loopw [13] (fun iv wj => ∃ k : Nat, k ≤ lines.length ∧ iv = .int .i64 k ∧ Grow w4 wj ∧ ∀ l ∈ lines.take k, (!wrB (p.getD l.toNat default).op) = false) (fun iv _ => lines.length - (intOf iv).toNat)
          case atStart => exact ⟨0, Nat.zero_le _, rfl, Grow.refl _, by simp⟩
          case round =>
            obtain ⟨k, hk, rfl, hg, hall⟩ := hrel
            have HA := Lib.hid hall
            have HGL := Lib.hid hg
            have HG5 := Lib.hid (HG4.out.trans hg)
            clear hall hg
            by_cases hlt : k < lines.length
            · obtain ⟨x, hx⟩ : ∃ x, lines[k]? = some x := ⟨_, List.getElem?_eq_getElem hlt⟩
              obtain ⟨lb, lo, rfl, _, ex⟩ := ints_at (HL.out.grow HG5.out) hx
              have hin : 0 ≤ x ∧ x ≤ p.length - 1 := by
                have h := HRNG.out
                have := List.any_eq_false.1 h x (List.mem_of_getElem? hx)
                simp at this
                exact inB_true.1 this
              obtain ⟨m, rfl⟩ : ∃ m : Nat, x = m := ⟨x.toNat, by omega⟩
              have hmp : m < p.length := by omega
              obtain ⟨⟨op, d, a, b⟩, hlm⟩ : ∃ l, p[m]? = some l := ⟨_, List.getElem?_eq_getElem hmp⟩
              have hok := (valP_ok.1 (chk_ok.1 HCK.out).1).2 _ (List.mem_of_getElem? hlm)
              have hwr := wrB_of_ok (op := op) (d := d) (a := a) (b := b) hok
              obtain ⟨pb, po, rfl, _, f0, f1, f2, f3⟩ := lines_at (HP.out.grow HG5.out) hlm
              have hgd : (p.getD (m : Int).toNat default).op = op := by rw [Int.toNat_natCast, List.getD_eq_getElem?_getD, hlm]; rfl
              have HGD := Lib.hid hgd
              have HX := Lib.hid hx
              have HWR := Lib.hid hwr
              clear hx hlm hgd hin hok hwr
              cases hw : wrB op with
              | true =>
                have HW := Lib.hid hw
                clear hw
                go_wp2_with fail
                refine rwrites_any op d a b _ _ ?_
                intro w6 hg6
                rw [HWR.out, HW.out]
                have HG6 := Lib.hid (HGL.out.trans hg6)
                clear hg6
                go_wp2_with fail
                go_roundw
                case rel => exact ⟨k + 1, by omega, by go_num, HG6.out, any_take_succ HA.out HX.out (by rw [HGD.out, HW.out]; rfl)⟩
                case measure => simp [intOf]; omega
              | false =>
                have hE := HE1.out
                rw [any_atI HX.out (f := fun l => !wrB (p.getD l.toNat default).op) (by rw [HGD.out, hw]; rfl), if_pos rfl] at hE
                have hM : frcM p s lines values = [] := by unfold frcM; rw [hE]; exact ifOK_err (by decide) _
                have HRR := HR.out
                rw [hE, hM] at HRR
                have HR2 := Lib.hid HRR
                have HW := Lib.hid hw
                clear HRR HR hE hM hw
                go_wp2_with fail
                refine rwrites_any op d a b _ _ ?_
                intro w6 hg6
                rw [HWR.out, HW.out]
                have HG6 := Lib.hid (HG5.out.trans hg6)
                clear hg6
                go_wp2_with fail
                exact HR2.out _ _ HG6.out (SlcAt.nil _ _ _)
            · have hE := HE1.out
              rw [any_of_take HA.out (by omega), if_neg (by simp)] at hE
              have hM : frcM p s lines values = (trc p (frc lines values) 0 (St.ofL s)).2.toL := by unfold frcM; rw [hE]; rfl
              have HRR := HR.out
              rw [hE, hM] at HRR
              have HR2 := Lib.hid HRR
              clear HRR HR hE hM
              obtain ⟨q, hq, hqf⟩ := St.of_valS (chk_ok.1 HCK.out).2
              have hvf : ∀ n ∈ values, -999 ≤ n ∧ n ≤ 999 := fun n hn => by
                have := List.any_eq_false.1 HVAL.out n hn
                simp at this
                exact inB_true.1 this
              have HVF := Lib.hid hvf
              have HQ := Lib.hid hq
              clear hvf hq
              have hqs : IntsAt wr (.slice sa s.length sc) q.toL := by rw [HQ.out]; exact HS.out.grow HG5.out
              have HQS := Lib.hid hqs
              clear hqs
              go_wp2_with fail
              refine rtrace_any p q lines values _ _ _ _ _ (HP.out.grow HG5.out) HQS.out (HL.out.grow HG5.out) (HV.out.grow HG5.out) HLEN.out.symm hp8 (valP_ok.1 (chk_ok.1 HCK.out).1).2 hqf HVF.out _ ?_
              intro w6 x y hg6 _ ho
              have hst : St.ofL s = q := by rw [← HQ.out]; rfl
              have HF0 := HR2.out
              rw [hst] at HF0
              have HF := Lib.hid (HF0 w6 y (HG5.out.trans hg6) (ho.slc encI_len))
              clear HF0 hst hg6 HR2 ho
              go_wp2_with fail
              exact HF.out
end Go.Proofs.YtmlbgfnddgbpbaaGreat
