/-
The walk of Fixes.
The single repairs at a place, as the document says them: the same ones. No program is named.
The walks of the document's answer to layer 5: the errors of what is sought, the single repairs.
The walk of the document's Fixes.
-/
import Derived.Test.YtbccbokjecdaaaaGreatB30
import Derived.Test.YtbccbokjecdaaaaGreatB18
import Derived.Test.YtbccbokjecdaaaaGreatB20
import Derived.Test.YtbccbokjecdaaaaGreatB27
import Derived.Test.YtbccbokjecdaaaaGreatB19
namespace Go.Proofs.YtbccbokjecdaaaaGreat
open Go.RowKit

def fixErr (p : List Ln) (ts : List Tst) (at_ kind : Int) : Int := if chkT p ts = 0 then (if askE p.length at_ kind = 0 then (if allPass p ts then 8 else 0) else askE p.length at_ kind) else chkT p ts
def fixO (p : List Ln) (ts : List Tst) (at_ kind : Int) : List Ln := if fixErr p ts at_ kind = 0 then (candL p (lineAt p at_) kind).filter (fixB p ts at_) else []
theorem candL_len {p : List Ln} {l : Ln} {kind : Int} (hl : l.ok = true) (hk : 0 ≤ kind) (hk2 : kind ≤ 2) : (candL p l kind).length ≤ 1000 := by
  have h1 : allR.length ≤ 1000 := by decide +kernel
  rw [cand_eq hl hk hk2]
  have := List.length_filter_le (fun x => inC p l kind x && !decide (x = l)) allR
  unfold candR; omega
theorem fixE_lines (p : List Ln) (ts : List Tst) (at_ : Int) (C : List Ln) : (fixE p ts at_ C).map Ed.l = C.filter (fixB p ts at_) := by
  unfold fixE; rw [List.map_map]; exact List.map_id _

set_option maxRecDepth 100000 in
set_option maxHeartbeats 16000000 in
theorem Fixes_any (p : List Ln) (ts : List Tst) (at_ kind : Int) (pv tv : Value) (w : World) (hp : LinesAt w pv p) (ht : TestsAt w tv ts) (R : Ending → World → Prop)
    (hR : ∀ w' v, Grow w w' → LinesAt w' v (fixO p ts at_ kind) → R (.returned (.tuple #[v, .int .i64 (fixErr p ts at_ kind)])) w') :
    Calls Tryz.prog 29 #[pv, tv, .int .i64 at_, .int .i64 kind] w R := by
  have HP := Lib.hid hp
  have HT := Lib.hid ht
  have ho : fixO p ts at_ kind = if fixErr p ts at_ kind = 0 then (candL p (lineAt p at_) kind).filter (fixB p ts at_) else [] := rfl
  have he : fixErr p ts at_ kind = if chkT p ts = 0 then (if askE p.length at_ kind = 0 then (if allPass p ts then 8 else 0) else askE p.length at_ kind) else chkT p ts := rfl
  rw [he] at ho
  rw [ho, he] at hR
  have HR := Lib.hid hR
  obtain ⟨e, h1⟩ : ∃ e, chkT p ts = e := ⟨_, rfl⟩
  obtain ⟨q, h2⟩ : ∃ e, askE p.length at_ kind = e := ⟨_, rfl⟩
  obtain ⟨g, h3⟩ : ∃ e, allPass p ts = e := ⟨_, rfl⟩
  have hok := fun h : e = 0 => chkT_ok.1 (h1.trans h)
  have hask := fun h : q = 0 => askE_ok.1 (h2.trans h)
  rw [h1, h2, h3] at HR
  have H1 := Lib.hid h1
  have H2 := Lib.hid h2
  have H3 := Lib.hid h3
  obtain ⟨pa, pc, rfl, r1, r2, _⟩ := hp
  obtain ⟨⟨ta, tc, rfl, _⟩, _⟩ := ht
  clear hR ho he h1 h2 h3
  by_cases z1 : e = 0
  rotate_left
  · rw [if_neg z1, if_neg z1] at HR
    have t1 : (e != 0) = true := by simpa using z1
    clear hok hask z1
    go_enter Tryz.func29, Tryz.ntmps29
    go_wp2_with fail
    refine programs_any p ts _ _ _ HP.out HT.out _ ?_
    intro w1 hg1
    rw [H1.out]
    have HG1 := Lib.hid hg1
    clear hg1
    have HF := Lib.hid (HR.out w1 (.slice none 0 0) HG1.out (SlcAt.nil _ _ _))
    go_wp2_with fail
    exact HF.out
  obtain ⟨hv, hvt⟩ := hok z1
  subst z1
  rw [if_pos rfl] at HR
  clear hok
  by_cases z2 : q = 0
  rotate_left
  · rw [if_neg z2, if_neg z2] at HR
    have t1 : (q != 0) = true := by simpa using z2
    clear hask z2 hv hvt
    go_enter Tryz.func29, Tryz.ntmps29
    go_wp2_with fail
    refine programs_any p ts _ _ _ HP.out HT.out _ ?_
    intro w1 hg1
    rw [H1.out]
    have HG1 := Lib.hid hg1
    clear hg1
    go_wp2_with fail
    refine asked_any _ _ _ _ _ _ (by omega) _ ?_
    rw [H2.out]
    have HF := Lib.hid (HR.out w1 (.slice none 0 0) HG1.out (SlcAt.nil _ _ _))
    go_wp2_with fail
    exact HF.out
  obtain ⟨a0, a1, k0, k2⟩ := hask z2
  subst z2
  rw [if_pos rfl] at HR
  clear hask
  cases g with
  | true =>
    rw [if_pos rfl, if_neg (by decide)] at HR
    clear hv hvt
    go_enter Tryz.func29, Tryz.ntmps29
    go_wp2_with fail
    refine programs_any p ts _ _ _ HP.out HT.out _ ?_
    intro w1 hg1
    rw [H1.out]
    have HG1 := Lib.hid hg1
    clear hg1
    go_wp2_with fail
    refine asked_any _ _ _ _ _ _ (by omega) _ ?_
    rw [H2.out]
    go_wp2_with fail
    refine failing_any p ts _ _ _ (HP.out.grow HG1.out) (HT.out.grow HG1.out) H1.out _ ?_
    intro w2 hg2
    rw [H3.out]
    have HG2 := Lib.hid (HG1.out.trans hg2)
    clear hg2
    have HF := Lib.hid (HR.out w2 (.slice none 0 0) HG2.out (SlcAt.nil _ _ _))
    go_wp2_with fail
    exact HF.out
  | false =>
    rw [show (if (false : Bool) = true then (8 : Int) else 0) = 0 from rfl, if_pos rfl] at HR
    obtain ⟨n, rfl⟩ : ∃ n : Nat, at_ = n := ⟨at_.toNat, by omega⟩
    obtain ⟨⟨op, d, a, b⟩, hx⟩ : ∃ l, p[n]? = some l := ⟨_, List.getElem?_eq_getElem (by omega)⟩
    have hl : lineAt p (n : Int) = ⟨op, d, a, b⟩ := by unfold lineAt; rw [show ((n : Int)).toNat = n by omega, hx]; rfl
    rw [hl] at HR
    have hlok : vL op d a b = true := (valP_ok.1 hv).2 _ (List.mem_of_getElem? hx)
    have hp8 := (valP_ok.1 hv).1
    have hcl := candL_len (p := p) (l := ⟨op, d, a, b⟩) (kind := kind) hlok k0 k2
    have HX := Lib.hid hx
    have HOK := Lib.hid hlok
    clear hv hvt hx hl hlok
    have hk : kind = 0 ∨ kind = 1 ∨ kind = 2 := by omega
    clear k0 k2
    rcases hk with rfl | rfl | rfl
    · skip
      rw [show candL p ⟨op, d, a, b⟩ 0 = tmpl ⟨op, d, a, b⟩ from rfl] at HR hcl
      go_enter Tryz.func29, Tryz.ntmps29
      go_wp2_with fail
      refine programs_any p ts _ _ _ HP.out HT.out _ ?_
      intro w1 hg1
      rw [H1.out]
      have HG1 := Lib.hid hg1
      clear hg1
      go_wp2_with fail
      refine asked_any _ _ _ _ _ _ (by omega) _ ?_
      rw [H2.out]
      go_wp2_with fail
      refine failing_any p ts _ _ _ (HP.out.grow HG1.out) (HT.out.grow HG1.out) H1.out _ ?_
      intro w2 hg2
      rw [H3.out]
      have HG2 := Lib.hid (HG1.out.trans hg2)
      clear hg2
      go_wp2_with fail
      refine sources_any _ _ ?_
      go_wp2_with fail
      refine fixes_any p ts n (.iface 137 (.agg #[])) (tmpl ⟨op, d, a, b⟩) _ _ _ (HP.out.grow (HG2.out.alloc _)) (HT.out.grow (HG2.out.alloc _)) (by omega) (fun R' hR' => cand0_any p n op d a b _ _ (HP.out.grow (HG2.out.alloc _)) HX.out HOK.out R' hR') _ ?_
      intro w3 v3 hg3 hv3
      have hs3 := hv3.slc encE_len
      obtain ⟨E, hE⟩ : ∃ E, fixE p ts n (tmpl ⟨op, d, a, b⟩) = E := ⟨_, rfl⟩
      have hEl := fixE_lines p ts n (tmpl ⟨op, d, a, b⟩)
      have hElen := fixE_len p ts n (tmpl ⟨op, d, a, b⟩)
      rw [hE] at hs3 hEl hElen
      have HS3 := Lib.hid hs3
      obtain ⟨a3, c3, rfl, s1, s2, _⟩ := hs3
      have HG3 := Lib.hid (Grow.trans (HG2.out.alloc _) hg3)
      rw [← hEl] at HR
      clear hg3 hv3 hE hEl
      go_wp2_with fail
      go_loopw [13, 15, 44] (fun out _ i wr => ∃ k : Nat, k ≤ E.length ∧ i = .int .i64 k ∧ Grow w3 wr ∧ wr.ownsRow w3.heap.size 25 4 out ((E.take k).map Ed.l).length (((E.take k).map Ed.l).flatMap encL)) (fun _ _ i _ => E.length - (intOf i).toNat)
      case atStart => exact ⟨0, Nat.zero_le _, rfl, Grow.refl _, World.ownsRow_nil _ _ _ _⟩
      case round =>
        obtain ⟨k, hk, rfl, hg, how⟩ := hrel
        have HG := Lib.hid hg
        have HOW := Lib.hid how
        have hzw := hg.sz
        clear hg how
        by_cases hlt : k < E.length
        · obtain ⟨⟨t, o1, d1, a1', b1⟩, hx⟩ : ∃ x, E[k]? = some x := ⟨_, List.getElem?_eq_getElem hlt⟩
          obtain ⟨gb, o, rfl, hgb, y0, y1, y2, y3, y4⟩ := edits_at (HS3.out.grow HG.out) hx
          have HTK := Lib.hid (show (E.take (k + 1)).map Ed.l = (E.take k).map Ed.l ++ [⟨o1, d1, a1', b1⟩] by rw [List.take_add_one, hx, List.map_append]; rfl)
          have HLB := Lib.hid (show ((E.take k).map Ed.l).length < 100000000000 by rw [List.length_map, List.length_take]; omega)
          clear hx
          have hgb1 := (Grow.refl wr).alloc (.cells #[.int .i64 t, .int .i64 o1, .int .i64 d1, .int .i64 a1', .int .i64 b1] 27)
          go_wp2_with (at_builtin; refine wpList_app _ rfl (.tmp 48) (.tmp 51) 22 rfl w3.heap.size 25 Tryz.underlying22 info_line rfl (by decide) (by decide) encL encL_len encL_one _ ((E.take k).map Ed.l) rfl ((hgb1.alloc _).owns HOW.out) _ (⟨o1, d1, a1', b1⟩ : Ln) 1 rfl (newsG _ _ (by simp) (encL ⟨o1, d1, a1', b1⟩) _) HLB.out (by simp; omega) ?_; intro out2 w4 hown2 hgr2)
          have HG4 := Lib.hid (show Grow w3 w4 from grown_below HOW.out hgr2 (Nat.le_refl _) (by simp; omega) (HG.out.trans (hgb1.alloc _)))
          have HO2 := Lib.hid hown2
          clear hown2 hgr2
          go_roundw
          case rel => exact ⟨k + 1, by omega, by go_num, HG4.out, by rw [HTK.out]; exact HO2.out⟩
          case measure => simp [intOf]; omega
        · have hkn : k = E.length := by omega
          have HO2 := HOW.out
          rw [hkn, List.take_length] at HO2
          have HF := Lib.hid (HR.out _ _ (HG3.out.trans HG.out) (slc_of_owns encL_len HO2))
          clear HO2 hkn
          go_wp2_with fail
          exact HF.out
    · skip
      rw [show candL p ⟨op, d, a, b⟩ 1 = validL p ⟨op, d, a, b⟩ from rfl] at HR hcl
      go_enter Tryz.func29, Tryz.ntmps29
      go_wp2_with fail
      refine programs_any p ts _ _ _ HP.out HT.out _ ?_
      intro w1 hg1
      rw [H1.out]
      have HG1 := Lib.hid hg1
      clear hg1
      go_wp2_with fail
      refine asked_any _ _ _ _ _ _ (by omega) _ ?_
      rw [H2.out]
      go_wp2_with fail
      refine failing_any p ts _ _ _ (HP.out.grow HG1.out) (HT.out.grow HG1.out) H1.out _ ?_
      intro w2 hg2
      rw [H3.out]
      have HG2 := Lib.hid (HG1.out.trans hg2)
      clear hg2
      go_wp2_with fail
      refine sources_any _ _ ?_
      go_wp2_with fail
      refine fixes_any p ts n (.iface 138 (.agg #[])) (validL p ⟨op, d, a, b⟩) _ _ _ (HP.out.grow (HG2.out.alloc _)) (HT.out.grow (HG2.out.alloc _)) (by omega) (fun R' hR' => cand1_any p n op d a b _ _ (HP.out.grow (HG2.out.alloc _)) HX.out (by omega) R' hR') _ ?_
      intro w3 v3 hg3 hv3
      have hs3 := hv3.slc encE_len
      obtain ⟨E, hE⟩ : ∃ E, fixE p ts n (validL p ⟨op, d, a, b⟩) = E := ⟨_, rfl⟩
      have hEl := fixE_lines p ts n (validL p ⟨op, d, a, b⟩)
      have hElen := fixE_len p ts n (validL p ⟨op, d, a, b⟩)
      rw [hE] at hs3 hEl hElen
      have HS3 := Lib.hid hs3
      obtain ⟨a3, c3, rfl, s1, s2, _⟩ := hs3
      have HG3 := Lib.hid (Grow.trans (HG2.out.alloc _) hg3)
      rw [← hEl] at HR
      clear hg3 hv3 hE hEl
      go_wp2_with fail
      go_loopw [13, 15, 44] (fun out _ i wr => ∃ k : Nat, k ≤ E.length ∧ i = .int .i64 k ∧ Grow w3 wr ∧ wr.ownsRow w3.heap.size 25 4 out ((E.take k).map Ed.l).length (((E.take k).map Ed.l).flatMap encL)) (fun _ _ i _ => E.length - (intOf i).toNat)
      case atStart => exact ⟨0, Nat.zero_le _, rfl, Grow.refl _, World.ownsRow_nil _ _ _ _⟩
      case round =>
        obtain ⟨k, hk, rfl, hg, how⟩ := hrel
        have HG := Lib.hid hg
        have HOW := Lib.hid how
        have hzw := hg.sz
        clear hg how
        by_cases hlt : k < E.length
        · obtain ⟨⟨t, o1, d1, a1', b1⟩, hx⟩ : ∃ x, E[k]? = some x := ⟨_, List.getElem?_eq_getElem hlt⟩
          obtain ⟨gb, o, rfl, hgb, y0, y1, y2, y3, y4⟩ := edits_at (HS3.out.grow HG.out) hx
          have HTK := Lib.hid (show (E.take (k + 1)).map Ed.l = (E.take k).map Ed.l ++ [⟨o1, d1, a1', b1⟩] by rw [List.take_add_one, hx, List.map_append]; rfl)
          have HLB := Lib.hid (show ((E.take k).map Ed.l).length < 100000000000 by rw [List.length_map, List.length_take]; omega)
          clear hx
          have hgb1 := (Grow.refl wr).alloc (.cells #[.int .i64 t, .int .i64 o1, .int .i64 d1, .int .i64 a1', .int .i64 b1] 27)
          go_wp2_with (at_builtin; refine wpList_app _ rfl (.tmp 48) (.tmp 51) 22 rfl w3.heap.size 25 Tryz.underlying22 info_line rfl (by decide) (by decide) encL encL_len encL_one _ ((E.take k).map Ed.l) rfl ((hgb1.alloc _).owns HOW.out) _ (⟨o1, d1, a1', b1⟩ : Ln) 1 rfl (newsG _ _ (by simp) (encL ⟨o1, d1, a1', b1⟩) _) HLB.out (by simp; omega) ?_; intro out2 w4 hown2 hgr2)
          have HG4 := Lib.hid (show Grow w3 w4 from grown_below HOW.out hgr2 (Nat.le_refl _) (by simp; omega) (HG.out.trans (hgb1.alloc _)))
          have HO2 := Lib.hid hown2
          clear hown2 hgr2
          go_roundw
          case rel => exact ⟨k + 1, by omega, by go_num, HG4.out, by rw [HTK.out]; exact HO2.out⟩
          case measure => simp [intOf]; omega
        · have hkn : k = E.length := by omega
          have HO2 := HOW.out
          rw [hkn, List.take_length] at HO2
          have HF := Lib.hid (HR.out _ _ (HG3.out.trans HG.out) (slc_of_owns encL_len HO2))
          clear HO2 hkn
          go_wp2_with fail
          exact HF.out
    · skip
      rw [show candL p ⟨op, d, a, b⟩ 2 = validL allR ⟨op, d, a, b⟩ from rfl] at HR hcl
      go_enter Tryz.func29, Tryz.ntmps29
      go_wp2_with fail
      refine programs_any p ts _ _ _ HP.out HT.out _ ?_
      intro w1 hg1
      rw [H1.out]
      have HG1 := Lib.hid hg1
      clear hg1
      go_wp2_with fail
      refine asked_any _ _ _ _ _ _ (by omega) _ ?_
      rw [H2.out]
      go_wp2_with fail
      refine failing_any p ts _ _ _ (HP.out.grow HG1.out) (HT.out.grow HG1.out) H1.out _ ?_
      intro w2 hg2
      rw [H3.out]
      have HG2 := Lib.hid (HG1.out.trans hg2)
      clear hg2
      go_wp2_with fail
      refine sources_any _ _ ?_
      go_wp2_with fail
      refine fixes_any p ts n (.iface 139 (.agg #[])) (validL allR ⟨op, d, a, b⟩) _ _ _ (HP.out.grow (HG2.out.alloc _)) (HT.out.grow (HG2.out.alloc _)) (by omega) (fun R' hR' => cand2_any p n op d a b _ _ (HP.out.grow (HG2.out.alloc _)) HX.out  R' hR') _ ?_
      intro w3 v3 hg3 hv3
      have hs3 := hv3.slc encE_len
      obtain ⟨E, hE⟩ : ∃ E, fixE p ts n (validL allR ⟨op, d, a, b⟩) = E := ⟨_, rfl⟩
      have hEl := fixE_lines p ts n (validL allR ⟨op, d, a, b⟩)
      have hElen := fixE_len p ts n (validL allR ⟨op, d, a, b⟩)
      rw [hE] at hs3 hEl hElen
      have HS3 := Lib.hid hs3
      obtain ⟨a3, c3, rfl, s1, s2, _⟩ := hs3
      have HG3 := Lib.hid (Grow.trans (HG2.out.alloc _) hg3)
      rw [← hEl] at HR
      clear hg3 hv3 hE hEl
      go_wp2_with fail
      go_loopw [13, 15, 44] (fun out _ i wr => ∃ k : Nat, k ≤ E.length ∧ i = .int .i64 k ∧ Grow w3 wr ∧ wr.ownsRow w3.heap.size 25 4 out ((E.take k).map Ed.l).length (((E.take k).map Ed.l).flatMap encL)) (fun _ _ i _ => E.length - (intOf i).toNat)
      case atStart => exact ⟨0, Nat.zero_le _, rfl, Grow.refl _, World.ownsRow_nil _ _ _ _⟩
      case round =>
        obtain ⟨k, hk, rfl, hg, how⟩ := hrel
        have HG := Lib.hid hg
        have HOW := Lib.hid how
        have hzw := hg.sz
        clear hg how
        by_cases hlt : k < E.length
        · obtain ⟨⟨t, o1, d1, a1', b1⟩, hx⟩ : ∃ x, E[k]? = some x := ⟨_, List.getElem?_eq_getElem hlt⟩
          obtain ⟨gb, o, rfl, hgb, y0, y1, y2, y3, y4⟩ := edits_at (HS3.out.grow HG.out) hx
          have HTK := Lib.hid (show (E.take (k + 1)).map Ed.l = (E.take k).map Ed.l ++ [⟨o1, d1, a1', b1⟩] by rw [List.take_add_one, hx, List.map_append]; rfl)
          have HLB := Lib.hid (show ((E.take k).map Ed.l).length < 100000000000 by rw [List.length_map, List.length_take]; omega)
          clear hx
          have hgb1 := (Grow.refl wr).alloc (.cells #[.int .i64 t, .int .i64 o1, .int .i64 d1, .int .i64 a1', .int .i64 b1] 27)
          go_wp2_with (at_builtin; refine wpList_app _ rfl (.tmp 48) (.tmp 51) 22 rfl w3.heap.size 25 Tryz.underlying22 info_line rfl (by decide) (by decide) encL encL_len encL_one _ ((E.take k).map Ed.l) rfl ((hgb1.alloc _).owns HOW.out) _ (⟨o1, d1, a1', b1⟩ : Ln) 1 rfl (newsG _ _ (by simp) (encL ⟨o1, d1, a1', b1⟩) _) HLB.out (by simp; omega) ?_; intro out2 w4 hown2 hgr2)
          have HG4 := Lib.hid (show Grow w3 w4 from grown_below HOW.out hgr2 (Nat.le_refl _) (by simp; omega) (HG.out.trans (hgb1.alloc _)))
          have HO2 := Lib.hid hown2
          clear hown2 hgr2
          go_roundw
          case rel => exact ⟨k + 1, by omega, by go_num, HG4.out, by rw [HTK.out]; exact HO2.out⟩
          case measure => simp [intOf]; omega
        · have hkn : k = E.length := by omega
          have HO2 := HOW.out
          rw [hkn, List.take_length] at HO2
          have HF := Lib.hid (HR.out _ _ (HG3.out.trans HG.out) (slc_of_owns encL_len HO2))
          clear HO2 hkn
          go_wp2_with fail
          exact HF.out
end Go.Proofs.YtbccbokjecdaaaaGreat

namespace Go.Proofs.YtbccbokjecdaaaaGreat
open Go.RowKit

/-- The single repairs, as the document says them. -/
def goodR (p : List Ln) (at_ : Int) (x : Ln) (ts : List Tst) : Bool := allPass (setAll p [⟨at_, x⟩]) ts
def fixR (p : List Ln) (ts : List Tst) (at_ kind : Int) : List Ln := (candR p (lineAt p at_) kind).filter fun x => goodR p at_ x ts
def fixRO (p : List Ln) (ts : List Tst) (at_ kind : Int) : List Ln := if fixErr p ts at_ kind = 0 then fixR p ts at_ kind else []
/-- The errors of a program, tests and a kind. -/
def sgtE (p : List Ln) (ts : List Tst) (kind : Int) : Int := if chkT p ts = 0 then (if inB kind 0 2 then (if allPass p ts then 8 else 0) else 1) else chkT p ts
theorem edsOK_one {at_ : Int} {x : Ln} (h0 : 0 ≤ at_) (h1 : at_ < 8) (hx : x.ok = true) : edsOK [⟨at_, x⟩] = true := by
  refine edsOK_upto (k := 1) (fun i hi => ?_) (by simp)
  have : i = 0 := by omega
  subst this
  refine (edOK_iff (e := ⟨at_, x⟩) rfl).2 ⟨⟨h0, h1⟩, ?_, hx⟩
  show (-1 : Int) < at_
  omega
theorem chkX_one {p : List Ln} {ts : List Tst} {at_ : Int} {x : Ln} (hp : valP p = 0) (ht : valT ts = 0) (h0 : 0 ≤ at_) (h1 : at_ < p.length) (hx : x.ok = true) : chkX p [⟨at_, x⟩] ts = 0 := by
  have h8 := (valP_ok.1 hp).1
  refine chkX_ok.2 ⟨hp, valX_ok.2 ⟨by simp, edsOK_one h0 (by omega) hx⟩, ht, ?_⟩
  unfold offB
  simp; omega
theorem fixB_eq {p : List Ln} {ts : List Tst} {at_ : Int} {x : Ln} (hp : valP p = 0) (ht : valT ts = 0) (h0 : 0 ≤ at_) (h1 : at_ < p.length) (hx : x.ok = true) : fixB p ts at_ x = goodR p at_ x ts := by
  have h8 := (valP_ok.1 hp).1
  unfold fixB goodR
  rw [decide_eq_true (chkX_one hp ht h0 h1 hx), Bool.true_and, setAll_eq (edsOK_one h0 (by omega) hx)]
  rfl
theorem goodR_ok {p : List Ln} {at_ : Int} {x : Ln} (hp : valP p = 0) (h0 : 0 ≤ at_) (h1 : at_ < p.length) (hx : x.ok = true) : valP (setAll p [⟨at_, x⟩]) = 0 := by
  have h8 := (valP_ok.1 hp).1
  rw [setAll_eq (edsOK_one h0 (by omega) hx)]
  refine doM_ok hp fun e he => ?_
  simp at he
  subst he
  exact hx
theorem fixErr_ok {p : List Ln} {ts : List Tst} {at_ kind : Int} : fixErr p ts at_ kind = 0 ↔ (valP p = 0 ∧ valT ts = 0) ∧ (0 ≤ at_ ∧ at_ < p.length ∧ 0 ≤ kind ∧ kind ≤ 2) ∧ allPass p ts = false := by
  unfold fixErr
  rw [← chkT_ok, ← askE_ok]
  by_cases h1 : chkT p ts = 0
  · by_cases h2 : askE p.length at_ kind = 0
    · cases h3 : allPass p ts <;> simp [h1, h2]
    · simp [h1, h2]
  · simp [h1]
theorem lineAt_ok {p : List Ln} {at_ : Int} (hp : valP p = 0) (h0 : 0 ≤ at_) (h1 : at_ < p.length) : (lineAt p at_).ok = true := by
  unfold lineAt
  rw [List.getElem?_eq_getElem (show at_.toNat < p.length by omega)]
  exact (valP_ok.1 hp).2 _ (List.getElem_mem _)
theorem candR_ok {p : List Ln} {l x : Ln} {kind : Int} (h : x ∈ candR p l kind) : x.ok = true := mem_allR.1 (List.mem_filter.1 h).1
theorem candR_len (p : List Ln) (l : Ln) (kind : Int) : (candR p l kind).length ≤ 1000 := by
  have h1 : allR.length ≤ 1000 := by decide +kernel
  have := List.length_filter_le (fun x => inC p l kind x && !decide (x = l)) allR
  unfold candR; omega
theorem fixO_eq (p : List Ln) (ts : List Tst) (at_ kind : Int) : fixO p ts at_ kind = fixRO p ts at_ kind := by
  unfold fixO fixRO
  by_cases h : fixErr p ts at_ kind = 0
  · rw [if_pos h, if_pos h]
    obtain ⟨⟨hp, ht⟩, ⟨h0, h1, k0, k2⟩, _⟩ := fixErr_ok.1 h
    unfold fixR
    rw [cand_eq (lineAt_ok hp h0 h1) k0 k2]
    exact List.filter_congr fun x hx => fixB_eq hp ht h0 h1 (candR_ok hx)
  · rw [if_neg h, if_neg h]
theorem fixO_good {p : List Ln} {ts : List Tst} {at_ kind : Int} {x : Ln} (h : x ∈ fixO p ts at_ kind) : chkX p [⟨at_, x⟩] ts = 0 ∧ goodM p [⟨at_, x⟩] ts = true := by
  unfold fixO at h
  split at h
  · have := (List.mem_filter.1 h).2
    unfold fixB at this
    rw [Bool.and_eq_true, decide_eq_true_eq] at this
    exact this
  · cases h
theorem fixO_len (p : List Ln) (ts : List Tst) (at_ kind : Int) : (fixO p ts at_ kind).length ≤ 1000 := by
  rw [fixO_eq]
  unfold fixRO fixR
  split
  · exact Nat.le_trans (List.length_filter_le _ _) (candR_len _ _ _)
  · simp
end Go.Proofs.YtbccbokjecdaaaaGreat

namespace Go.Proofs.YtbccbokjecdaaaaGreat
open Go.RowKit

set_option maxHeartbeats 4000000 in
theorem r5sought_any (p : List Ln) (ts : List Tst) (kind : Int) (pv tv : Value) (w : World) (hp : LinesAt w pv p) (ht : TestsAt w tv ts) (R : Ending → World → Prop)
    (hR : ∀ w', Grow w w' → R (.returned (.int .i64 (sgtE p ts kind))) w') :
    Calls Tryz.prog 80 #[pv, tv, .int .i64 kind] w R := by
  have HP := Lib.hid hp
  have HT := Lib.hid ht
  have hc : sgtE p ts kind = if chkT p ts = 0 then (if inB kind 0 2 then (if ts.all (passM p) then 8 else 0) else 1) else chkT p ts := rfl
  rw [hc] at hR
  have HR := Lib.hid hR
  obtain ⟨e, he⟩ : ∃ e, chkT p ts = e := ⟨_, rfl⟩
  rw [he] at HR
  have hok := fun h : e = 0 => chkT_ok.1 (he.trans h)
  have HE := Lib.hid he
  obtain ⟨pa, pc, rfl, _⟩ := hp
  obtain ⟨⟨ta, tc, rfl, _⟩, _⟩ := ht
  clear hR hc he
  by_cases z1 : e = 0
  rotate_left
  · rw [if_neg z1] at HR
    have t1 : (e != 0) = true := by simpa using z1
    clear hok z1
    go_enter Tryz.func80, Tryz.ntmps80
    go_wp2_with fail
    refine r5tested_any p ts _ _ _ HP.out HT.out _ ?_
    intro w1 hg1
    rw [HE.out]
    have HG1 := Lib.hid hg1
    clear hg1
    go_wp2_with fail
    exact HR.out w1 HG1.out
  obtain ⟨hv, hvt⟩ := hok z1
  subst z1
  rw [if_pos rfl] at HR
  have HV := Lib.hid hv
  have HVT := Lib.hid hvt
  clear hok hv hvt
  by_cases k0 : kind < 0
  · rw [inB_false.2 (by omega), if_neg (by decide)] at HR
    go_enter Tryz.func80, Tryz.ntmps80
    go_wp2_with fail
    refine r5tested_any p ts _ _ _ HP.out HT.out _ ?_
    intro w1 hg1
    rw [HE.out]
    have HG1 := Lib.hid hg1
    clear hg1
    go_wp2_with fail
    exact HR.out w1 HG1.out
  by_cases k2 : 2 < kind
  · rw [inB_false.2 (by omega), if_neg (by decide)] at HR
    go_enter Tryz.func80, Tryz.ntmps80
    go_wp2_with fail
    refine r5tested_any p ts _ _ _ HP.out HT.out _ ?_
    intro w1 hg1
    rw [HE.out]
    have HG1 := Lib.hid hg1
    clear hg1
    go_wp2_with fail
    exact HR.out w1 HG1.out
  rw [inB_true.2 (by omega), if_pos rfl] at HR
  cases g : ts.all (passM p) with
  | true =>
    rw [g] at HR
    have H3 := Lib.hid g
    clear g
    go_enter Tryz.func80, Tryz.ntmps80
    go_wp2_with fail
    refine r5tested_any p ts _ _ _ HP.out HT.out _ ?_
    intro w1 hg1
    rw [HE.out]
    have HG1 := Lib.hid hg1
    clear hg1
    go_wp2_with fail
    refine r4PassesAll_any p ts _ _ _ (HP.out.grow HG1.out) (HT.out.grow HG1.out) HV.out HVT.out _ ?_
    intro w2 hg2
    rw [H3.out]
    have HF := Lib.hid (HR.out w2 (HG1.out.trans hg2))
    clear hg2
    go_wp2_with fail
    exact HF.out
  | false =>
    rw [g] at HR
    have H3 := Lib.hid g
    clear g
    go_enter Tryz.func80, Tryz.ntmps80
    go_wp2_with fail
    refine r5tested_any p ts _ _ _ HP.out HT.out _ ?_
    intro w1 hg1
    rw [HE.out]
    have HG1 := Lib.hid hg1
    clear hg1
    go_wp2_with fail
    refine r4PassesAll_any p ts _ _ _ (HP.out.grow HG1.out) (HT.out.grow HG1.out) HV.out HVT.out _ ?_
    intro w2 hg2
    rw [H3.out]
    have HF := Lib.hid (HR.out w2 (HG1.out.trans hg2))
    clear hg2
    go_wp2_with fail
    exact HF.out

set_option maxRecDepth 100000 in
set_option maxHeartbeats 8000000 in
theorem r5fixes_any (p : List Ln) (ts : List Tst) (n : Nat) (kind : Int) (C : List Ln) (pv tv : Value) (w : World) (hp : LinesAt w pv p) (ht : TestsAt w tv ts) (hC : C.length ≤ 1000) (hCok : ∀ x ∈ C, x.ok = true) (hn : n < p.length) (hval : valP p = 0) (htv : valT ts = 0)
    (hcand : ∀ R' : Ending → World → Prop, (∀ W' v, Grow w W' → LinesAt W' v C → R' (.returned v) W') → Calls Tryz.prog 124 #[pv, .int .i64 n, .int .i64 kind] w R') (R : Ending → World → Prop)
    (hR : ∀ w' v, Grow w w' → LinesAt w' v (C.filter fun x => goodR p n x ts) → R (.returned v) w') :
    Calls Tryz.prog 81 #[pv, tv, .int .i64 n, .int .i64 kind] w R := by
  have HP := Lib.hid hp
  have HT := Lib.hid ht
  have HR := Lib.hid hR
  have HC := Lib.hid hcand
  have HCOK := Lib.hid hCok
  have HV := Lib.hid hval
  have HVT := Lib.hid htv
  have hp8 := (valP_ok.1 hval).1
  obtain ⟨F, hF⟩ : ∃ F, (fun x => goodR p n x ts) = F := ⟨_, rfl⟩
  rw [hF] at HR
  have HFF := Lib.hid hF
  have HN := Lib.hid (show ∀ x : Ln, ∀ e ∈ [(⟨(n : Int), x⟩ : Ed)], 0 ≤ e.at_ ∧ e.at_ < p.length from fun x e he => by simp at he; subst he; dsimp only; omega)
  obtain ⟨pa, pc, rfl, _⟩ := hp
  obtain ⟨⟨ta, tc, rfl, _⟩, _⟩ := ht
  clear hR hcand hCok hval htv hF
  go_enter Tryz.func81, Tryz.ntmps81
  go_wp2_with fail
  refine HC.out _ ?_
  intro w1 v1 hg1 hv1
  have HV1 := Lib.hid hv1
  obtain ⟨a1, c1, rfl, q1, q2, _⟩ := hv1
  have HG1 := Lib.hid hg1
  have hz1 := hg1.sz
  clear hg1
  go_wp2_with fail
  go_loopw [10, 11] (fun out i wr => ∃ k : Nat, k ≤ C.length ∧ i = .int .i64 k ∧ Grow w1 wr ∧ wr.ownsRow w1.heap.size 25 4 out ((C.take k).filter F).length (((C.take k).filter F).flatMap encL)) (fun _ i _ => C.length - (intOf i).toNat)
  case atStart => exact ⟨0, Nat.zero_le _, rfl, Grow.refl _, World.ownsRow_nil _ _ _ _⟩
  case round =>
    obtain ⟨k, hk, rfl, hg, how⟩ := hrel
    have HG := Lib.hid hg
    have HOW := Lib.hid how
    have hzw := hg.sz
    clear hg how
    by_cases hlt : k < C.length
    · obtain ⟨⟨op, d, a, b⟩, hx⟩ : ∃ x, C[k]? = some x := ⟨_, List.getElem?_eq_getElem hlt⟩
      obtain ⟨gb, o, rfl, hgb, y0, y1, y2, y3⟩ := lines_at (HV1.out.grow HG.out) hx
      have hlt2 : (k : Int) < (C.length : Int) := by omega
      have HS := Lib.hid (filter_take_succ (F := F) hx)
      have HLB := Lib.hid (show ((C.take k).filter F).length < 100000000000 by have := filter_take_len F C k; omega)
      have HSV := Lib.hid (goodR_ok (at_ := (n : Int)) HV.out (by omega) (by omega) (HCOK.out _ (List.mem_of_getElem? hx)))
      obtain ⟨f, hf⟩ : ∃ f, F ⟨op, d, a, b⟩ = f := ⟨_, rfl⟩
      have HF := Lib.hid hf
      have HGD := Lib.hid (show ts.all (passM (setAll p [⟨(n : Int), ⟨op, d, a, b⟩⟩])) = f by rw [← hf, ← HFF.out]; rfl)
      have hlit := edits_lit wr (n : Int) op d a b 27
      have HLIT := Lib.hid hlit
      clear hx hf hlit
      go_wp2_with fail
      refine r4Good_any p [⟨(n : Int), ⟨op, d, a, b⟩⟩] ts _ _ _ _ (HP.out.grow (HG1.out.trans (HG.out.trans ((Grow.refl wr).alloc _)))) HLIT.out (HT.out.grow (HG1.out.trans (HG.out.trans ((Grow.refl wr).alloc _)))) (HN.out _) hp8 HVT.out HSV.out _ ?_
      intro w2 hg2
      rw [HGD.out]
      have HG2 := Lib.hid (((Grow.refl wr).alloc _).trans hg2)
      have x0 := HG2.out.cell y0
      have x1 := HG2.out.cell y1
      have x2 := HG2.out.cell y2
      have x3 := HG2.out.cell y3
      have hgb2 : gb < w2.heap.size := Nat.lt_of_lt_of_le hgb HG2.out.sz
      clear hg2 y0 y1 y2 y3 HLIT
      cases f with
      | false =>
        go_wp2_with fail
        go_roundw
        case rel => exact ⟨k + 1, by omega, by go_num, HG.out.trans HG2.out, by rw [HS.out, HF.out, if_neg (by decide), List.append_nil]; exact HG2.out.owns HOW.out⟩
        case measure => simp [intOf]; omega
      | true =>
        go_wp2_with (at_builtin; refine wpList_app _ rfl (.tmp 32) (.tmp 37) 22 rfl w1.heap.size 25 Tryz.underlying22 info_line rfl (by decide) (by decide) encL encL_len encL_one _ ((C.take k).filter F) rfl ((HG2.out.alloc _).owns HOW.out) _ (⟨op, d, a, b⟩ : Ln) 1 rfl (newsG _ _ (by simp) (encL ⟨op, d, a, b⟩) _) HLB.out (by have := HG.out.sz; have := HG2.out.sz; simp; omega) ?_; intro out2 w3 hown2 hgr2)
        have HG3 := Lib.hid (show Grow w1 w3 from grown_below HOW.out hgr2 (Nat.le_refl _) (by have := HG.out.sz; have := HG2.out.sz; simp; omega) (HG.out.trans (HG2.out.alloc _)))
        have HO2 := Lib.hid hown2
        clear hown2 hgr2
        go_roundw
        case rel => exact ⟨k + 1, by omega, by go_num, HG3.out, by rw [HS.out, HF.out, if_pos rfl]; exact HO2.out⟩
        case measure => simp [intOf]; omega
    · have hkn : k = C.length := by omega
      have HO2 := HOW.out
      rw [hkn, List.take_length] at HO2
      have HF := Lib.hid (HR.out _ _ (HG1.out.trans HG.out) (slc_of_owns encL_len HO2))
      clear HO2 hkn
      go_wp2_with fail
      exact HF.out
end Go.Proofs.YtbccbokjecdaaaaGreat

namespace Go.Proofs.YtbccbokjecdaaaaGreat
open Go.RowKit

set_option maxRecDepth 100000 in
set_option maxHeartbeats 8000000 in
theorem r5Fixes_any (p : List Ln) (ts : List Tst) (at_ kind : Int) (pv tv : Value) (w : World) (hp : LinesAt w pv p) (ht : TestsAt w tv ts) (R : Ending → World → Prop)
    (hR : ∀ w' v, Grow w w' → LinesAt w' v (fixO p ts at_ kind) → R (.returned (.tuple #[v, .int .i64 (fixErr p ts at_ kind)])) w') :
    Calls Tryz.prog 30 #[pv, tv, .int .i64 at_, .int .i64 kind] w R := by
  have HP := Lib.hid hp
  have HT := Lib.hid ht
  have ho : fixO p ts at_ kind = if fixErr p ts at_ kind = 0 then fixR p ts at_ kind else [] := fixO_eq p ts at_ kind
  have he : fixErr p ts at_ kind = if chkT p ts = 0 then (if askE p.length at_ kind = 0 then (if allPass p ts then 8 else 0) else askE p.length at_ kind) else chkT p ts := rfl
  have hs : sgtE p ts kind = if chkT p ts = 0 then (if inB kind 0 2 then (if allPass p ts then 8 else 0) else 1) else chkT p ts := rfl
  rw [he] at ho
  rw [ho, he] at hR
  have HR := Lib.hid hR
  obtain ⟨e, h1⟩ : ∃ e, chkT p ts = e := ⟨_, rfl⟩
  obtain ⟨g, h3⟩ : ∃ e, allPass p ts = e := ⟨_, rfl⟩
  have hok := fun h : e = 0 => chkT_ok.1 (h1.trans h)
  rw [h1, h3] at HR hs
  have H1 := Lib.hid h1
  obtain ⟨pa, pc, rfl, r1, r2, _⟩ := hp
  obtain ⟨⟨ta, tc, rfl, _⟩, _⟩ := ht
  clear hR ho he h1 h3
  by_cases z1 : e = 0
  rotate_left
  · rw [if_neg z1, if_neg z1] at HR
    have t1 : (e != 0) = true := by simpa using z1
    clear hok hs z1
    go_enter Tryz.func30, Tryz.ntmps30
    go_wp2_with fail
    refine r5tested_any p ts _ _ _ HP.out HT.out _ ?_
    intro w1 hg1
    rw [H1.out]
    have HG1 := Lib.hid hg1
    clear hg1
    have HF := Lib.hid (HR.out w1 (.slice none 0 0) HG1.out (SlcAt.nil _ _ _))
    go_wp2_with fail
    exact HF.out
  obtain ⟨hv, hvt⟩ := hok z1
  subst z1
  rw [if_pos rfl] at HR hs
  clear hok
  obtain ⟨q, h2⟩ : ∃ z, askE p.length at_ kind = z := ⟨_, rfl⟩
  rw [h2] at HR
  by_cases a0 : at_ < 0
  · skip
    have hq : q = 4 := h2.symm.trans (by unfold askE; rw [inB_false.2 (by omega)]; rfl)
    subst hq
    rw [if_neg (show ¬ (4 : Int) = 0 by decide), if_neg (show ¬ (4 : Int) = 0 by decide)] at HR
    clear hs hv hvt h2
    go_enter Tryz.func30, Tryz.ntmps30
    go_wp2_with fail
    refine r5tested_any p ts _ _ _ HP.out HT.out _ ?_
    intro w1 hg1
    rw [H1.out]
    have HG1 := Lib.hid hg1
    clear hg1
    have HF := Lib.hid (HR.out w1 (.slice none 0 0) HG1.out (SlcAt.nil _ _ _))
    go_wp2_with fail
    exact HF.out
  by_cases a1 : (p.length : Int) ≤ at_
  · skip
    have hq : q = 4 := h2.symm.trans (by unfold askE; rw [inB_false.2 (by omega)]; rfl)
    subst hq
    rw [if_neg (show ¬ (4 : Int) = 0 by decide), if_neg (show ¬ (4 : Int) = 0 by decide)] at HR
    clear hs hv hvt h2
    go_enter Tryz.func30, Tryz.ntmps30
    go_wp2_with fail
    refine r5tested_any p ts _ _ _ HP.out HT.out _ ?_
    intro w1 hg1
    rw [H1.out]
    have HG1 := Lib.hid hg1
    clear hg1
    have HF := Lib.hid (HR.out w1 (.slice none 0 0) HG1.out (SlcAt.nil _ _ _))
    go_wp2_with fail
    exact HF.out
  by_cases k0 : kind < 0
  · skip
    have hq : q = 1 := h2.symm.trans (by unfold askE; rw [inB_true.2 (by omega), inB_false.2 (by omega)]; rfl)
    subst hq
    rw [if_neg (show ¬ (1 : Int) = 0 by decide), if_neg (show ¬ (1 : Int) = 0 by decide)] at HR
    rw [inB_false.2 (by omega), if_neg (by decide)] at hs
    have HS := Lib.hid hs
    clear hs hv hvt h2
    go_enter Tryz.func30, Tryz.ntmps30
    go_wp2_with fail
    refine r5tested_any p ts _ _ _ HP.out HT.out _ ?_
    intro w1 hg1
    rw [H1.out]
    have HG1 := Lib.hid hg1
    clear hg1
    go_wp2_with fail
    refine r5sought_any p ts kind _ _ _ (HP.out.grow HG1.out) (HT.out.grow HG1.out) _ ?_
    intro w2 hg2
    rw [HS.out]
    have HG2 := Lib.hid (HG1.out.trans hg2)
    clear hg2
    have HF := Lib.hid (HR.out w2 (.slice none 0 0) HG2.out (SlcAt.nil _ _ _))
    go_wp2_with fail
    exact HF.out
  by_cases k2 : 2 < kind
  · skip
    have hq : q = 1 := h2.symm.trans (by unfold askE; rw [inB_true.2 (by omega), inB_false.2 (by omega)]; rfl)
    subst hq
    rw [if_neg (show ¬ (1 : Int) = 0 by decide), if_neg (show ¬ (1 : Int) = 0 by decide)] at HR
    rw [inB_false.2 (by omega), if_neg (by decide)] at hs
    have HS := Lib.hid hs
    clear hs hv hvt h2
    go_enter Tryz.func30, Tryz.ntmps30
    go_wp2_with fail
    refine r5tested_any p ts _ _ _ HP.out HT.out _ ?_
    intro w1 hg1
    rw [H1.out]
    have HG1 := Lib.hid hg1
    clear hg1
    go_wp2_with fail
    refine r5sought_any p ts kind _ _ _ (HP.out.grow HG1.out) (HT.out.grow HG1.out) _ ?_
    intro w2 hg2
    rw [HS.out]
    have HG2 := Lib.hid (HG1.out.trans hg2)
    clear hg2
    have HF := Lib.hid (HR.out w2 (.slice none 0 0) HG2.out (SlcAt.nil _ _ _))
    go_wp2_with fail
    exact HF.out
  have hq : q = 0 := h2.symm.trans (askE_ok.2 ⟨by omega, by omega, by omega, by omega⟩)
  subst hq
  rw [if_pos rfl] at HR
  rw [inB_true.2 (by omega), if_pos rfl] at hs
  cases g with
  | true =>
    rw [if_pos rfl, if_neg (show ¬ (8 : Int) = 0 by decide)] at HR
    clear h2
    rw [if_pos rfl] at hs
    have HS := Lib.hid hs
    clear hs hv hvt
    go_enter Tryz.func30, Tryz.ntmps30
    go_wp2_with fail
    refine r5tested_any p ts _ _ _ HP.out HT.out _ ?_
    intro w1 hg1
    rw [H1.out]
    have HG1 := Lib.hid hg1
    clear hg1
    go_wp2_with fail
    refine r5sought_any p ts kind _ _ _ (HP.out.grow HG1.out) (HT.out.grow HG1.out) _ ?_
    intro w2 hg2
    rw [HS.out]
    have HG2 := Lib.hid (HG1.out.trans hg2)
    clear hg2
    have HF := Lib.hid (HR.out w2 (.slice none 0 0) HG2.out (SlcAt.nil _ _ _))
    go_wp2_with fail
    exact HF.out
  | false =>
    rw [show (if (false : Bool) = true then (8 : Int) else 0) = 0 from rfl, if_pos rfl] at HR
    rw [if_neg (by decide)] at hs
    have HS := Lib.hid hs
    obtain ⟨n, rfl⟩ : ∃ n : Nat, at_ = n := ⟨at_.toNat, by omega⟩
    obtain ⟨⟨op, d, a, b⟩, hx⟩ : ∃ l, p[n]? = some l := ⟨_, List.getElem?_eq_getElem (by omega)⟩
    have hl : lineAt p (n : Int) = ⟨op, d, a, b⟩ := by unfold lineAt; rw [show ((n : Int)).toNat = n by omega, hx]; rfl
    rw [show fixR p ts n kind = (candR p (lineAt p n) kind).filter fun x => goodR p n x ts from rfl, hl] at HR
    have hnp : n < p.length := by omega
    have HX := Lib.hid hx
    have HV := Lib.hid hv
    have HVT := Lib.hid hvt
    have HALL := Lib.hid (valP_ok.1 hv).2
    have HP8 := Lib.hid (valP_ok.1 hv).1
    clear hv hvt hx hl hs
    have hk : kind = 0 ∨ kind = 1 ∨ kind = 2 := by omega
    clear k0 k2
    rcases hk with rfl | rfl | rfl
    · skip
      go_enter Tryz.func30, Tryz.ntmps30
      go_wp2_with fail
      refine r5tested_any p ts _ _ _ HP.out HT.out _ ?_
      intro w1 hg1
      rw [H1.out]
      have HG1 := Lib.hid hg1
      clear hg1
      go_wp2_with fail
      refine r5sought_any p ts 0 _ _ _ (HP.out.grow HG1.out) (HT.out.grow HG1.out) _ ?_
      intro w2 hg2
      rw [HS.out]
      have HG2 := Lib.hid (HG1.out.trans hg2)
      clear hg2
      go_wp2_with fail
      refine r5fixes_any p ts n 0 (candR p ⟨op, d, a, b⟩ 0) _ _ _ (HP.out.grow HG2.out) (HT.out.grow HG2.out) (candR_len _ _ _) (fun x hx => candR_ok hx) hnp HV.out HVT.out (fun R' hR' => rcand0_any p n op d a b _ _ (HP.out.grow HG2.out) HX.out HALL.out HP8.out R' hR') _ ?_
      intro w3 v3 hg3 hv3
      have HF := Lib.hid (HR.out w3 v3 (HG2.out.trans hg3) hv3)
      clear hg3 hv3
      go_wp2_with fail
      exact HF.out
    · skip
      go_enter Tryz.func30, Tryz.ntmps30
      go_wp2_with fail
      refine r5tested_any p ts _ _ _ HP.out HT.out _ ?_
      intro w1 hg1
      rw [H1.out]
      have HG1 := Lib.hid hg1
      clear hg1
      go_wp2_with fail
      refine r5sought_any p ts 1 _ _ _ (HP.out.grow HG1.out) (HT.out.grow HG1.out) _ ?_
      intro w2 hg2
      rw [HS.out]
      have HG2 := Lib.hid (HG1.out.trans hg2)
      clear hg2
      go_wp2_with fail
      refine r5fixes_any p ts n 1 (candR p ⟨op, d, a, b⟩ 1) _ _ _ (HP.out.grow HG2.out) (HT.out.grow HG2.out) (candR_len _ _ _) (fun x hx => candR_ok hx) hnp HV.out HVT.out (fun R' hR' => rcand1_any p n op d a b _ _ (HP.out.grow HG2.out) HX.out HALL.out HP8.out R' hR') _ ?_
      intro w3 v3 hg3 hv3
      have HF := Lib.hid (HR.out w3 v3 (HG2.out.trans hg3) hv3)
      clear hg3 hv3
      go_wp2_with fail
      exact HF.out
    · skip
      go_enter Tryz.func30, Tryz.ntmps30
      go_wp2_with fail
      refine r5tested_any p ts _ _ _ HP.out HT.out _ ?_
      intro w1 hg1
      rw [H1.out]
      have HG1 := Lib.hid hg1
      clear hg1
      go_wp2_with fail
      refine r5sought_any p ts 2 _ _ _ (HP.out.grow HG1.out) (HT.out.grow HG1.out) _ ?_
      intro w2 hg2
      rw [HS.out]
      have HG2 := Lib.hid (HG1.out.trans hg2)
      clear hg2
      go_wp2_with fail
      refine r5fixes_any p ts n 2 (candR p ⟨op, d, a, b⟩ 2) _ _ _ (HP.out.grow HG2.out) (HT.out.grow HG2.out) (candR_len _ _ _) (fun x hx => candR_ok hx) hnp HV.out HVT.out (fun R' hR' => rcand2_any p n op d a b _ _ (HP.out.grow HG2.out) HX.out HALL.out HP8.out R' hR') _ ?_
      intro w3 v3 hg3 hv3
      have HF := Lib.hid (HR.out w3 v3 (HG2.out.trans hg3) hv3)
      clear hg3 hv3
      go_wp2_with fail
      exact HF.out
end Go.Proofs.YtbccbokjecdaaaaGreat
