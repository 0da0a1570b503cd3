/-
The walk of Fixes.
The single repairs at a place, as the document says them: the same ones. No program is named.
All single repairs, how many there are and at which places: the plain laws. No program is named.
The walks of every, Count and Places.
The walks of smallest, single and Single: the smallest single repair.
The walks of single and Single: the smallest single repair.
The walks of compareEdits, and of the library's sort and Compact on a list of edits that rises.
The mutants of a program: the plain laws. No program is named.
Few templates, and few mutants: plain laws.
The walks of the document's answer to layer 5: the errors of what is sought, the single repairs.
The walk of the document's Fixes.
The walks of the document's Count and Places.
-/
import Derived.Test.YtbccbokjecdaaaaGreatD16
import Derived.Test.YtbccbokjecdaaaaGreatD08
import Derived.Test.YtbccbokjecdaaaaGreatD01
import Derived.Test.YtbccbokjecdaaaaGreatD05
import Derived.Test.YtbccbokjecdaaaaGreatD17
import Derived.Test.YtbccbokjecdaaaaGreatD06
import Derived.Test.YtbccbokjecdaaaaGreatD02
import Derived.Test.YtbccbokjecdaaaaGreatD09
import Derived.Test.YtbccbokjecdaaaaGreatD23
namespace Go.Proofs.YtbccbokjecdaaaaGreat
open Go.RowKit

def fixErr (p : List Ln) (ts : List Tst) (at_ kind : Int) : Int := if chkT p ts = 0 then (if askE p.length at_ kind = 0 then (if allPass p ts then 8 else 0) else askE p.length at_ kind) else chkT p ts
def fixO (p : List Ln) (ts : List Tst) (at_ kind : Int) : List Ln := if fixErr p ts at_ kind = 0 then (candL p (lineAt p at_) kind).filter (fixB p ts at_) else []
theorem candL_len {p : List Ln} {l : Ln} {kind : Int} (hl : l.ok = true) (hk : 0 ≤ kind) (hk2 : kind ≤ 2) : (candL p l kind).length ≤ 1000 := by
  have h1 : allR.length ≤ 1000 := by decide +kernel
  rw [cand_eq hl hk hk2]
  have := List.length_filter_le (fun x => inC p l kind x && !decide (x = l)) allR
  unfold candR; omega
theorem fixE_lines (p : List Ln) (ts : List Tst) (at_ : Int) (C : List Ln) : (fixE p ts at_ C).map Ed.l = C.filter (fixB p ts at_) := by
  unfold fixE; rw [List.map_map]; exact List.map_id _

set_option maxRecDepth 100000 in
set_option maxHeartbeats 16000000 in
theorem Fixes_any (p : List Ln) (ts : List Tst) (at_ kind : Int) (pv tv : Value) (w : World) (hp : LinesAt w pv p) (ht : TestsAt w tv ts) (R : Ending → World → Prop)
    (hR : ∀ w' v, Grow w w' → LinesAt w' v (fixO p ts at_ kind) → R (.returned (.tuple #[v, .int .i64 (fixErr p ts at_ kind)])) w') :
    Calls Tryz.prog 29 #[pv, tv, .int .i64 at_, .int .i64 kind] w R := by
  have HP := Lib.hid hp
  have HT := Lib.hid ht
  have ho : fixO p ts at_ kind = if fixErr p ts at_ kind = 0 then (candL p (lineAt p at_) kind).filter (fixB p ts at_) else [] := rfl
  have he : fixErr p ts at_ kind = if chkT p ts = 0 then (if askE p.length at_ kind = 0 then (if allPass p ts then 8 else 0) else askE p.length at_ kind) else chkT p ts := rfl
  rw [he] at ho
  rw [ho, he] at hR
  have HR := Lib.hid hR
  obtain ⟨e, h1⟩ : ∃ e, chkT p ts = e := ⟨_, rfl⟩
  obtain ⟨q, h2⟩ : ∃ e, askE p.length at_ kind = e := ⟨_, rfl⟩
  obtain ⟨g, h3⟩ : ∃ e, allPass p ts = e := ⟨_, rfl⟩
  have hok := fun h : e = 0 => chkT_ok.1 (h1.trans h)
  have hask := fun h : q = 0 => askE_ok.1 (h2.trans h)
  rw [h1, h2, h3] at HR
  have H1 := Lib.hid h1
  have H2 := Lib.hid h2
  have H3 := Lib.hid h3
  obtain ⟨pa, pc, rfl, r1, r2, _⟩ := hp
  obtain ⟨⟨ta, tc, rfl, _⟩, _⟩ := ht
  clear hR ho he h1 h2 h3
  by_cases z1 : e = 0
  rotate_left
  · rw [if_neg z1, if_neg z1] at HR
    have t1 : (e != 0) = true := by simpa using z1
    clear hok hask z1
    go_enter Tryz.func29, Tryz.ntmps29
    go_wp2_with fail
    refine programs_any p ts _ _ _ HP.out HT.out _ ?_
    intro w1 hg1
    rw [H1.out]
    have HG1 := Lib.hid hg1
    clear hg1
    have HF := Lib.hid (HR.out w1 (.slice none 0 0) HG1.out (SlcAt.nil _ _ _))
    go_wp2_with fail
    exact HF.out
  obtain ⟨hv, hvt⟩ := hok z1
  subst z1
  rw [if_pos rfl] at HR
  clear hok
  by_cases z2 : q = 0
  rotate_left
  · rw [if_neg z2, if_neg z2] at HR
    have t1 : (q != 0) = true := by simpa using z2
    clear hask z2 hv hvt
    go_enter Tryz.func29, Tryz.ntmps29
    go_wp2_with fail
    refine programs_any p ts _ _ _ HP.out HT.out _ ?_
    intro w1 hg1
    rw [H1.out]
    have HG1 := Lib.hid hg1
    clear hg1
    go_wp2_with fail
    refine asked_any _ _ _ _ _ _ (by omega) _ ?_
    rw [H2.out]
    have HF := Lib.hid (HR.out w1 (.slice none 0 0) HG1.out (SlcAt.nil _ _ _))
    go_wp2_with fail
    exact HF.out
  obtain ⟨a0, a1, k0, k2⟩ := hask z2
  subst z2
  rw [if_pos rfl] at HR
  clear hask
  cases g with
  | true =>
    rw [if_pos rfl, if_neg (by decide)] at HR
    clear hv hvt
    go_enter Tryz.func29, Tryz.ntmps29
    go_wp2_with fail
    refine programs_any p ts _ _ _ HP.out HT.out _ ?_
    intro w1 hg1
    rw [H1.out]
    have HG1 := Lib.hid hg1
    clear hg1
    go_wp2_with fail
    refine asked_any _ _ _ _ _ _ (by omega) _ ?_
    rw [H2.out]
    go_wp2_with fail
    refine failing_any p ts _ _ _ (HP.out.grow HG1.out) (HT.out.grow HG1.out) H1.out _ ?_
    intro w2 hg2
    rw [H3.out]
    have HG2 := Lib.hid (HG1.out.trans hg2)
    clear hg2
    have HF := Lib.hid (HR.out w2 (.slice none 0 0) HG2.out (SlcAt.nil _ _ _))
    go_wp2_with fail
    exact HF.out
  | false =>
    rw [show (if (false : Bool) = true then (8 : Int) else 0) = 0 from rfl, if_pos rfl] at HR
    obtain ⟨n, rfl⟩ : ∃ n : Nat, at_ = n := ⟨at_.toNat, by omega⟩
    obtain ⟨⟨op, d, a, b⟩, hx⟩ : ∃ l, p[n]? = some l := ⟨_, List.getElem?_eq_getElem (by omega)⟩
    have hl : lineAt p (n : Int) = ⟨op, d, a, b⟩ := by unfold lineAt; rw [show ((n : Int)).toNat = n by omega, hx]; rfl
    rw [hl] at HR
    have hlok : vL op d a b = true := (valP_ok.1 hv).2 _ (List.mem_of_getElem? hx)
    have hp8 := (valP_ok.1 hv).1
    have hcl := candL_len (p := p) (l := ⟨op, d, a, b⟩) (kind := kind) hlok k0 k2
    have HX := Lib.hid hx
    have HOK := Lib.hid hlok
    clear hv hvt hx hl hlok
    have hk : kind = 0 ∨ kind = 1 ∨ kind = 2 := by omega
    clear k0 k2
    rcases hk with rfl | rfl | rfl
    · skip
      rw [show candL p ⟨op, d, a, b⟩ 0 = tmpl ⟨op, d, a, b⟩ from rfl] at HR hcl
      go_enter Tryz.func29, Tryz.ntmps29
      go_wp2_with fail
      refine programs_any p ts _ _ _ HP.out HT.out _ ?_
      intro w1 hg1
      rw [H1.out]
      have HG1 := Lib.hid hg1
      clear hg1
      go_wp2_with fail
      refine asked_any _ _ _ _ _ _ (by omega) _ ?_
      rw [H2.out]
      go_wp2_with fail
      refine failing_any p ts _ _ _ (HP.out.grow HG1.out) (HT.out.grow HG1.out) H1.out _ ?_
      intro w2 hg2
      rw [H3.out]
      have HG2 := Lib.hid (HG1.out.trans hg2)
      clear hg2
      go_wp2_with fail
      refine sources_any _ _ ?_
      go_wp2_with fail
      refine fixes_any p ts n (.iface 137 (.agg #[])) (tmpl ⟨op, d, a, b⟩) _ _ _ (HP.out.grow (HG2.out.alloc _)) (HT.out.grow (HG2.out.alloc _)) (by omega) (fun R' hR' => cand0_any p n op d a b _ _ (HP.out.grow (HG2.out.alloc _)) HX.out HOK.out R' hR') _ ?_
      intro w3 v3 hg3 hv3
      have hs3 := hv3.slc encE_len
      obtain ⟨E, hE⟩ : ∃ E, fixE p ts n (tmpl ⟨op, d, a, b⟩) = E := ⟨_, rfl⟩
      have hEl := fixE_lines p ts n (tmpl ⟨op, d, a, b⟩)
      have hElen := fixE_len p ts n (tmpl ⟨op, d, a, b⟩)
      rw [hE] at hs3 hEl hElen
      have HS3 := Lib.hid hs3
      obtain ⟨a3, c3, rfl, s1, s2, _⟩ := hs3
      have HG3 := Lib.hid (Grow.trans (HG2.out.alloc _) hg3)
      rw [← hEl] at HR
      clear hg3 hv3 hE hEl
      go_wp2_with fail
      go_loopw [13, 15, 44] (fun out _ i wr => ∃ k : Nat, k ≤ E.length ∧ i = .int .i64 k ∧ Grow w3 wr ∧ wr.ownsRow w3.heap.size 25 4 out ((E.take k).map Ed.l).length (((E.take k).map Ed.l).flatMap encL)) (fun _ _ i _ => E.length - (intOf i).toNat)
      case atStart => exact ⟨0, Nat.zero_le _, rfl, Grow.refl _, World.ownsRow_nil _ _ _ _⟩
      case round =>
        obtain ⟨k, hk, rfl, hg, how⟩ := hrel
        have HG := Lib.hid hg
        have HOW := Lib.hid how
        have hzw := hg.sz
        clear hg how
        by_cases hlt : k < E.length
        · obtain ⟨⟨t, o1, d1, a1', b1⟩, hx⟩ : ∃ x, E[k]? = some x := ⟨_, List.getElem?_eq_getElem hlt⟩
          obtain ⟨gb, o, rfl, hgb, y0, y1, y2, y3, y4⟩ := edits_at (HS3.out.grow HG.out) hx
          have HTK := Lib.hid (show (E.take (k + 1)).map Ed.l = (E.take k).map Ed.l ++ [⟨o1, d1, a1', b1⟩] by rw [List.take_add_one, hx, List.map_append]; rfl)
          have HLB := Lib.hid (show ((E.take k).map Ed.l).length < 100000000000 by rw [List.length_map, List.length_take]; omega)
          clear hx
          have hgb1 := (Grow.refl wr).alloc (.cells #[.int .i64 t, .int .i64 o1, .int .i64 d1, .int .i64 a1', .int .i64 b1] 27)
          go_wp2_with (at_builtin; refine wpList_app _ rfl (.tmp 48) (.tmp 51) 22 rfl w3.heap.size 25 Tryz.underlying22 info_line rfl (by decide) (by decide) encL encL_len encL_one _ ((E.take k).map Ed.l) rfl ((hgb1.alloc _).owns HOW.out) _ (⟨o1, d1, a1', b1⟩ : Ln) 1 rfl (newsG _ _ (by simp) (encL ⟨o1, d1, a1', b1⟩) _) HLB.out (by simp; omega) ?_; intro out2 w4 hown2 hgr2)
          have HG4 := Lib.hid (show Grow w3 w4 from grown_below HOW.out hgr2 (Nat.le_refl _) (by simp; omega) (HG.out.trans (hgb1.alloc _)))
          have HO2 := Lib.hid hown2
          clear hown2 hgr2
          go_roundw
          case rel => exact ⟨k + 1, by omega, by go_num, HG4.out, by rw [HTK.out]; exact HO2.out⟩
          case measure => simp [intOf]; omega
        · have hkn : k = E.length := by omega
          have HO2 := HOW.out
          rw [hkn, List.take_length] at HO2
          have HF := Lib.hid (HR.out _ _ (HG3.out.trans HG.out) (slc_of_owns encL_len HO2))
          clear HO2 hkn
          go_wp2_with fail
          exact HF.out
    · skip
      rw [show candL p ⟨op, d, a, b⟩ 1 = validL p ⟨op, d, a, b⟩ from rfl] at HR hcl
      go_enter Tryz.func29, Tryz.ntmps29
      go_wp2_with fail
      refine programs_any p ts _ _ _ HP.out HT.out _ ?_
      intro w1 hg1
      rw [H1.out]
      have HG1 := Lib.hid hg1
      clear hg1
      go_wp2_with fail
      refine asked_any _ _ _ _ _ _ (by omega) _ ?_
      rw [H2.out]
      go_wp2_with fail
      refine failing_any p ts _ _ _ (HP.out.grow HG1.out) (HT.out.grow HG1.out) H1.out _ ?_
      intro w2 hg2
      rw [H3.out]
      have HG2 := Lib.hid (HG1.out.trans hg2)
      clear hg2
      go_wp2_with fail
      refine sources_any _ _ ?_
      go_wp2_with fail
      refine fixes_any p ts n (.iface 138 (.agg #[])) (validL p ⟨op, d, a, b⟩) _ _ _ (HP.out.grow (HG2.out.alloc _)) (HT.out.grow (HG2.out.alloc _)) (by omega) (fun R' hR' => cand1_any p n op d a b _ _ (HP.out.grow (HG2.out.alloc _)) HX.out (by omega) R' hR') _ ?_
      intro w3 v3 hg3 hv3
      have hs3 := hv3.slc encE_len
      obtain ⟨E, hE⟩ : ∃ E, fixE p ts n (validL p ⟨op, d, a, b⟩) = E := ⟨_, rfl⟩
      have hEl := fixE_lines p ts n (validL p ⟨op, d, a, b⟩)
      have hElen := fixE_len p ts n (validL p ⟨op, d, a, b⟩)
      rw [hE] at hs3 hEl hElen
      have HS3 := Lib.hid hs3
      obtain ⟨a3, c3, rfl, s1, s2, _⟩ := hs3
      have HG3 := Lib.hid (Grow.trans (HG2.out.alloc _) hg3)
      rw [← hEl] at HR
      clear hg3 hv3 hE hEl
      go_wp2_with fail
      go_loopw [13, 15, 44] (fun out _ i wr => ∃ k : Nat, k ≤ E.length ∧ i = .int .i64 k ∧ Grow w3 wr ∧ wr.ownsRow w3.heap.size 25 4 out ((E.take k).map Ed.l).length (((E.take k).map Ed.l).flatMap encL)) (fun _ _ i _ => E.length - (intOf i).toNat)
      case atStart => exact ⟨0, Nat.zero_le _, rfl, Grow.refl _, World.ownsRow_nil _ _ _ _⟩
      case round =>
        obtain ⟨k, hk, rfl, hg, how⟩ := hrel
        have HG := Lib.hid hg
        have HOW := Lib.hid how
        have hzw := hg.sz
        clear hg how
        by_cases hlt : k < E.length
        · obtain ⟨⟨t, o1, d1, a1', b1⟩, hx⟩ : ∃ x, E[k]? = some x := ⟨_, List.getElem?_eq_getElem hlt⟩
          obtain ⟨gb, o, rfl, hgb, y0, y1, y2, y3, y4⟩ := edits_at (HS3.out.grow HG.out) hx
          have HTK := Lib.hid (show (E.take (k + 1)).map Ed.l = (E.take k).map Ed.l ++ [⟨o1, d1, a1', b1⟩] by rw [List.take_add_one, hx, List.map_append]; rfl)
          have HLB := Lib.hid (show ((E.take k).map Ed.l).length < 100000000000 by rw [List.length_map, List.length_take]; omega)
          clear hx
          have hgb1 := (Grow.refl wr).alloc (.cells #[.int .i64 t, .int .i64 o1, .int .i64 d1, .int .i64 a1', .int .i64 b1] 27)
          go_wp2_with (at_builtin; refine wpList_app _ rfl (.tmp 48) (.tmp 51) 22 rfl w3.heap.size 25 Tryz.underlying22 info_line rfl (by decide) (by decide) encL encL_len encL_one _ ((E.take k).map Ed.l) rfl ((hgb1.alloc _).owns HOW.out) _ (⟨o1, d1, a1', b1⟩ : Ln) 1 rfl (newsG _ _ (by simp) (encL ⟨o1, d1, a1', b1⟩) _) HLB.out (by simp; omega) ?_; intro out2 w4 hown2 hgr2)
          have HG4 := Lib.hid (show Grow w3 w4 from grown_below HOW.out hgr2 (Nat.le_refl _) (by simp; omega) (HG.out.trans (hgb1.alloc _)))
          have HO2 := Lib.hid hown2
          clear hown2 hgr2
          go_roundw
          case rel => exact ⟨k + 1, by omega, by go_num, HG4.out, by rw [HTK.out]; exact HO2.out⟩
          case measure => simp [intOf]; omega
        · have hkn : k = E.length := by omega
          have HO2 := HOW.out
          rw [hkn, List.take_length] at HO2
          have HF := Lib.hid (HR.out _ _ (HG3.out.trans HG.out) (slc_of_owns encL_len HO2))
          clear HO2 hkn
          go_wp2_with fail
          exact HF.out
    · skip
      rw [show candL p ⟨op, d, a, b⟩ 2 = validL allR ⟨op, d, a, b⟩ from rfl] at HR hcl
      go_enter Tryz.func29, Tryz.ntmps29
      go_wp2_with fail
      refine programs_any p ts _ _ _ HP.out HT.out _ ?_
      intro w1 hg1
      rw [H1.out]
      have HG1 := Lib.hid hg1
      clear hg1
      go_wp2_with fail
      refine asked_any _ _ _ _ _ _ (by omega) _ ?_
      rw [H2.out]
      go_wp2_with fail
      refine failing_any p ts _ _ _ (HP.out.grow HG1.out) (HT.out.grow HG1.out) H1.out _ ?_
      intro w2 hg2
      rw [H3.out]
      have HG2 := Lib.hid (HG1.out.trans hg2)
      clear hg2
      go_wp2_with fail
      refine sources_any _ _ ?_
      go_wp2_with fail
      refine fixes_any p ts n (.iface 139 (.agg #[])) (validL allR ⟨op, d, a, b⟩) _ _ _ (HP.out.grow (HG2.out.alloc _)) (HT.out.grow (HG2.out.alloc _)) (by omega) (fun R' hR' => cand2_any p n op d a b _ _ (HP.out.grow (HG2.out.alloc _)) HX.out  R' hR') _ ?_
      intro w3 v3 hg3 hv3
      have hs3 := hv3.slc encE_len
      obtain ⟨E, hE⟩ : ∃ E, fixE p ts n (validL allR ⟨op, d, a, b⟩) = E := ⟨_, rfl⟩
      have hEl := fixE_lines p ts n (validL allR ⟨op, d, a, b⟩)
      have hElen := fixE_len p ts n (validL allR ⟨op, d, a, b⟩)
      rw [hE] at hs3 hEl hElen
      have HS3 := Lib.hid hs3
      obtain ⟨a3, c3, rfl, s1, s2, _⟩ := hs3
      have HG3 := Lib.hid (Grow.trans (HG2.out.alloc _) hg3)
      rw [← hEl] at HR
      clear hg3 hv3 hE hEl
      go_wp2_with fail
      go_loopw [13, 15, 44] (fun out _ i wr => ∃ k : Nat, k ≤ E.length ∧ i = .int .i64 k ∧ Grow w3 wr ∧ wr.ownsRow w3.heap.size 25 4 out ((E.take k).map Ed.l).length (((E.take k).map Ed.l).flatMap encL)) (fun _ _ i _ => E.length - (intOf i).toNat)
      case atStart => exact ⟨0, Nat.zero_le _, rfl, Grow.refl _, World.ownsRow_nil _ _ _ _⟩
      case round =>
        obtain ⟨k, hk, rfl, hg, how⟩ := hrel
        have HG := Lib.hid hg
        have HOW := Lib.hid how
        have hzw := hg.sz
        clear hg how
        by_cases hlt : k < E.length
        · obtain ⟨⟨t, o1, d1, a1', b1⟩, hx⟩ : ∃ x, E[k]? = some x := ⟨_, List.getElem?_eq_getElem hlt⟩
          obtain ⟨gb, o, rfl, hgb, y0, y1, y2, y3, y4⟩ := edits_at (HS3.out.grow HG.out) hx
          have HTK := Lib.hid (show (E.take (k + 1)).map Ed.l = (E.take k).map Ed.l ++ [⟨o1, d1, a1', b1⟩] by rw [List.take_add_one, hx, List.map_append]; rfl)
          have HLB := Lib.hid (show ((E.take k).map Ed.l).length < 100000000000 by rw [List.length_map, List.length_take]; omega)
          clear hx
          have hgb1 := (Grow.refl wr).alloc (.cells #[.int .i64 t, .int .i64 o1, .int .i64 d1, .int .i64 a1', .int .i64 b1] 27)
          go_wp2_with (at_builtin; refine wpList_app _ rfl (.tmp 48) (.tmp 51) 22 rfl w3.heap.size 25 Tryz.underlying22 info_line rfl (by decide) (by decide) encL encL_len encL_one _ ((E.take k).map Ed.l) rfl ((hgb1.alloc _).owns HOW.out) _ (⟨o1, d1, a1', b1⟩ : Ln) 1 rfl (newsG _ _ (by simp) (encL ⟨o1, d1, a1', b1⟩) _) HLB.out (by simp; omega) ?_; intro out2 w4 hown2 hgr2)
          have HG4 := Lib.hid (show Grow w3 w4 from grown_below HOW.out hgr2 (Nat.le_refl _) (by simp; omega) (HG.out.trans (hgb1.alloc _)))
          have HO2 := Lib.hid hown2
          clear hown2 hgr2
          go_roundw
          case rel => exact ⟨k + 1, by omega, by go_num, HG4.out, by rw [HTK.out]; exact HO2.out⟩
          case measure => simp [intOf]; omega
        · have hkn : k = E.length := by omega
          have HO2 := HOW.out
          rw [hkn, List.take_length] at HO2
          have HF := Lib.hid (HR.out _ _ (HG3.out.trans HG.out) (slc_of_owns encL_len HO2))
          clear HO2 hkn
          go_wp2_with fail
          exact HF.out
end Go.Proofs.YtbccbokjecdaaaaGreat

namespace Go.Proofs.YtbccbokjecdaaaaGreat
open Go.RowKit

/-- The single repairs, as the document says them. -/
def goodR (p : List Ln) (at_ : Int) (x : Ln) (ts : List Tst) : Bool := allPass (setAll p [⟨at_, x⟩]) ts
def fixR (p : List Ln) (ts : List Tst) (at_ kind : Int) : List Ln := (candR p (lineAt p at_) kind).filter fun x => goodR p at_ x ts
def fixRO (p : List Ln) (ts : List Tst) (at_ kind : Int) : List Ln := if fixErr p ts at_ kind = 0 then fixR p ts at_ kind else []
/-- The errors of a program, tests and a kind. -/
def sgtE (p : List Ln) (ts : List Tst) (kind : Int) : Int := if chkT p ts = 0 then (if inB kind 0 2 then (if allPass p ts then 8 else 0) else 1) else chkT p ts
theorem edsOK_one {at_ : Int} {x : Ln} (h0 : 0 ≤ at_) (h1 : at_ < 8) (hx : x.ok = true) : edsOK [⟨at_, x⟩] = true := by
  refine edsOK_upto (k := 1) (fun i hi => ?_) (by simp)
  have : i = 0 := by omega
  subst this
  refine (edOK_iff (e := ⟨at_, x⟩) rfl).2 ⟨⟨h0, h1⟩, ?_, hx⟩
  show (-1 : Int) < at_
  omega
theorem chkX_one {p : List Ln} {ts : List Tst} {at_ : Int} {x : Ln} (hp : valP p = 0) (ht : valT ts = 0) (h0 : 0 ≤ at_) (h1 : at_ < p.length) (hx : x.ok = true) : chkX p [⟨at_, x⟩] ts = 0 := by
  have h8 := (valP_ok.1 hp).1
  refine chkX_ok.2 ⟨hp, valX_ok.2 ⟨by simp, edsOK_one h0 (by omega) hx⟩, ht, ?_⟩
  unfold offB
  simp; omega
theorem fixB_eq {p : List Ln} {ts : List Tst} {at_ : Int} {x : Ln} (hp : valP p = 0) (ht : valT ts = 0) (h0 : 0 ≤ at_) (h1 : at_ < p.length) (hx : x.ok = true) : fixB p ts at_ x = goodR p at_ x ts := by
  have h8 := (valP_ok.1 hp).1
  unfold fixB goodR
  rw [decide_eq_true (chkX_one hp ht h0 h1 hx), Bool.true_and, setAll_eq (edsOK_one h0 (by omega) hx)]
  rfl
theorem goodR_ok {p : List Ln} {at_ : Int} {x : Ln} (hp : valP p = 0) (h0 : 0 ≤ at_) (h1 : at_ < p.length) (hx : x.ok = true) : valP (setAll p [⟨at_, x⟩]) = 0 := by
  have h8 := (valP_ok.1 hp).1
  rw [setAll_eq (edsOK_one h0 (by omega) hx)]
  refine doM_ok hp fun e he => ?_
  simp at he
  subst he
  exact hx
theorem fixErr_ok {p : List Ln} {ts : List Tst} {at_ kind : Int} : fixErr p ts at_ kind = 0 ↔ (valP p = 0 ∧ valT ts = 0) ∧ (0 ≤ at_ ∧ at_ < p.length ∧ 0 ≤ kind ∧ kind ≤ 2) ∧ allPass p ts = false := by
  unfold fixErr
  rw [← chkT_ok, ← askE_ok]
  by_cases h1 : chkT p ts = 0
  · by_cases h2 : askE p.length at_ kind = 0
    · cases h3 : allPass p ts <;> simp [h1, h2]
    · simp [h1, h2]
  · simp [h1]
theorem lineAt_ok {p : List Ln} {at_ : Int} (hp : valP p = 0) (h0 : 0 ≤ at_) (h1 : at_ < p.length) : (lineAt p at_).ok = true := by
  unfold lineAt
  rw [List.getElem?_eq_getElem (show at_.toNat < p.length by omega)]
  exact (valP_ok.1 hp).2 _ (List.getElem_mem _)
theorem candR_ok {p : List Ln} {l x : Ln} {kind : Int} (h : x ∈ candR p l kind) : x.ok = true := mem_allR.1 (List.mem_filter.1 h).1
theorem candR_len (p : List Ln) (l : Ln) (kind : Int) : (candR p l kind).length ≤ 1000 := by
  have h1 : allR.length ≤ 1000 := by decide +kernel
  have := List.length_filter_le (fun x => inC p l kind x && !decide (x = l)) allR
  unfold candR; omega
theorem fixO_eq (p : List Ln) (ts : List Tst) (at_ kind : Int) : fixO p ts at_ kind = fixRO p ts at_ kind := by
  unfold fixO fixRO
  by_cases h : fixErr p ts at_ kind = 0
  · rw [if_pos h, if_pos h]
    obtain ⟨⟨hp, ht⟩, ⟨h0, h1, k0, k2⟩, _⟩ := fixErr_ok.1 h
    unfold fixR
    rw [cand_eq (lineAt_ok hp h0 h1) k0 k2]
    exact List.filter_congr fun x hx => fixB_eq hp ht h0 h1 (candR_ok hx)
  · rw [if_neg h, if_neg h]
theorem fixO_good {p : List Ln} {ts : List Tst} {at_ kind : Int} {x : Ln} (h : x ∈ fixO p ts at_ kind) : chkX p [⟨at_, x⟩] ts = 0 ∧ goodM p [⟨at_, x⟩] ts = true := by
  unfold fixO at h
  split at h
  · have := (List.mem_filter.1 h).2
    unfold fixB at this
    rw [Bool.and_eq_true, decide_eq_true_eq] at this
    exact this
  · cases h
theorem fixO_len (p : List Ln) (ts : List Tst) (at_ kind : Int) : (fixO p ts at_ kind).length ≤ 1000 := by
  rw [fixO_eq]
  unfold fixRO fixR
  split
  · exact Nat.le_trans (List.length_filter_le _ _) (candR_len _ _ _)
  · simp
end Go.Proofs.YtbccbokjecdaaaaGreat

namespace Go.Proofs.YtbccbokjecdaaaaGreat
open Go.RowKit

theorem compactUpTo_congr {d e : Array Int} : ∀ {m : Nat}, (∀ j, j < m → d[j]! = e[j]!) → Lib.compactUpTo d m = Lib.compactUpTo e m
  | 0, _ => rfl
  | m + 1, h => by
    have hk : Lib.keeps d m = Lib.keeps e m := by
      unfold Lib.keeps
      rw [h m (by omega), h (m - 1) (by omega)]
    rw [Lib.compactUpTo_succ, Lib.compactUpTo_succ, compactUpTo_congr (fun j hj => h j (by omega)), hk, h m (by omega)]
theorem get_snoc (zs : List Int) (x : Int) (j : Nat) (hj : j < zs.length) : (zs ++ [x]).toArray[j]! = zs.toArray[j]! := by
  rw [getElem!_pos _ j (by simp; omega), getElem!_pos _ j (by simpa using hj)]
  simp [List.getElem_append_left hj]
theorem compact_snoc (zs : List Int) (x : Int) : Lib.compact (zs ++ [x]) = Lib.compact zs ++ if zs.getLast? = some x then [] else [x] := by
  unfold Lib.compact
  rw [List.length_append, List.length_singleton, Lib.compactUpTo_succ]
  have h1 : Lib.compactUpTo (zs ++ [x]).toArray zs.length = Lib.compactUpTo zs.toArray zs.length := compactUpTo_congr fun j hj => get_snoc zs x j hj
  have hx : (zs ++ [x]).toArray[zs.length]! = x := by rw [getElem!_pos _ _ (by simp)]; simp
  rw [h1, hx]
  congr 1
  cases hz : zs.length with
  | zero =>
    have : zs = [] := List.length_eq_zero_iff.1 hz
    subst this
    simp [Lib.keeps]
  | succ n =>
    have hp : (zs ++ [x]).toArray[n]! = zs[n] := by
      rw [get_snoc zs x n (by omega), getElem!_pos _ n (by simp; omega)]; simp
    have hg : zs.getLast? = some zs[n] := by
      rw [List.getLast?_eq_getElem?, show zs.length - 1 = n by omega]
      exact List.getElem?_eq_getElem (by omega)
    rw [hz] at hx
    unfold Lib.keeps
    rw [hx, show n + 1 - 1 = n by omega, hp, hg]
    by_cases e : x = zs[n]
    · simp [← e]
    · have e2 : ¬ zs[n] = x := fun h => e h.symm
      simp [e, e2]
theorem compact_rep {zs : List Int} {x : Int} (h : x ∉ zs) : ∀ c : Nat, Lib.compact (zs ++ List.replicate c x) = Lib.compact zs ++ if c = 0 then [] else [x]
  | 0 => by simp
  | 1 => by
    rw [show List.replicate 1 x = [x] from rfl, compact_snoc, if_neg (by intro e; exact h (List.mem_of_getLast? e)), if_neg (by omega)]
  | c + 2 => by
    have : (zs ++ List.replicate (c + 1) x).getLast? = some x := by
      rw [show List.replicate (c + 1) x = List.replicate c x ++ [x] from List.replicate_succ', ← List.append_assoc, List.getLast?_append]
      simp
    rw [show List.replicate (c + 2) x = List.replicate (c + 1) x ++ [x] from List.replicate_succ', ← List.append_assoc, compact_snoc, this, if_pos rfl, List.append_nil, compact_rep h (c + 1), if_neg (by omega), if_neg (by omega)]

/-- The candidates by the places. -/
def candAt (p : List Ln) (kind : Int) (n : Nat) : List Ln := candL p (lineAt p n) kind
/-- All single repairs at the first places. -/
def everyN (p : List Ln) (ts : List Tst) (C : Nat → List Ln) (k : Nat) : List Ed := (List.range k).flatMap fun n : Nat => fixE p ts n (C n)
theorem everyN_succ (p : List Ln) (ts : List Tst) (C : Nat → List Ln) (k : Nat) : everyN p ts C (k + 1) = everyN p ts C k ++ fixE p ts k (C k) := by
  unfold everyN
  rw [List.range_succ, List.flatMap_append]
  simp
theorem everyN_len {p : List Ln} {ts : List Tst} {C : Nat → List Ln} (hC : ∀ n, n < p.length → (C n).length ≤ 1000) : ∀ k, k ≤ p.length → (everyN p ts C k).length ≤ k * 1000
  | 0, _ => by simp [everyN]
  | k + 1, hk => by
    rw [everyN_succ, List.length_append]
    have := everyN_len hC k (by omega) (p := p) (ts := ts)
    have := hC k (by omega)
    have := fixE_len p ts k (C k)
    omega
/-- What the document counts. -/
def cntR (p : List Ln) (ts : List Tst) (kind : Int) (k : Nat) : Nat := ((List.range k).map fun n : Nat => (fixR p ts n kind).length).sum
theorem cntR_succ (p : List Ln) (ts : List Tst) (kind : Int) (k : Nat) : cntR p ts kind (k + 1) = cntR p ts kind k + (fixR p ts k kind).length := by
  unfold cntR; rw [List.range_succ, List.map_append, List.sum_append]; simp
def plcR (p : List Ln) (ts : List Tst) (kind : Int) (k : Nat) : List Int := (List.range k).flatMap fun n : Nat => if 0 < (fixR p ts n kind).length then [(n : Int)] else []
theorem plcR_succ (p : List Ln) (ts : List Tst) (kind : Int) (k : Nat) : plcR p ts kind (k + 1) = plcR p ts kind k ++ if 0 < (fixR p ts k kind).length then [(k : Int)] else [] := by
  unfold plcR; rw [List.range_succ, List.flatMap_append]; simp
theorem plcR_len (p : List Ln) (ts : List Tst) (kind : Int) : ∀ k, (plcR p ts kind k).length ≤ k
  | 0 => by simp [plcR]
  | k + 1 => by
    rw [plcR_succ, List.length_append]
    have := plcR_len p ts kind k
    split <;> simp <;> omega
theorem fixE_R {p : List Ln} {ts : List Tst} {kind : Int} (hp : valP p = 0) (ht : valT ts = 0) (k0 : 0 ≤ kind) (k2 : kind ≤ 2) {n : Nat} (hn : n < p.length) : (fixE p ts n (candAt p kind n)).map Ed.l = fixR p ts n kind := by
  rw [fixE_lines]
  unfold candAt fixR
  rw [cand_eq (lineAt_ok hp (by omega) (by omega)) k0 k2]
  exact List.filter_congr fun x hx => fixB_eq hp ht (by omega) (by omega) (candR_ok hx)
theorem fixE_at (p : List Ln) (ts : List Tst) (a : Int) (C : List Ln) : (fixE p ts a C).map Ed.at_ = List.replicate (fixE p ts a C).length a := by
  unfold fixE
  rw [List.map_map, List.length_map]
  exact List.map_const'
theorem everyN_cnt {p : List Ln} {ts : List Tst} {kind : Int} (hp : valP p = 0) (ht : valT ts = 0) (k0 : 0 ≤ kind) (k2 : kind ≤ 2) : ∀ k, k ≤ p.length → (everyN p ts (candAt p kind) k).length = cntR p ts kind k
  | 0, _ => rfl
  | k + 1, hk => by
    rw [everyN_succ, List.length_append, cntR_succ, everyN_cnt hp ht k0 k2 k (by omega), ← fixE_R hp ht k0 k2 (show k < p.length by omega), List.length_map]
theorem everyN_at (p : List Ln) (ts : List Tst) (C : Nat → List Ln) : ∀ k, ∀ x ∈ (everyN p ts C k).map Ed.at_, x < (k : Int)
  | 0, x, h => by simp [everyN] at h
  | k + 1, x, h => by
    rw [everyN_succ, List.map_append, List.mem_append] at h
    rcases h with h | h
    · have := everyN_at p ts C k x h; omega
    · rw [fixE_at] at h
      have := List.eq_of_mem_replicate h
      omega
theorem everyN_plc {p : List Ln} {ts : List Tst} {kind : Int} (hp : valP p = 0) (ht : valT ts = 0) (k0 : 0 ≤ kind) (k2 : kind ≤ 2) : ∀ k, k ≤ p.length → Lib.compact ((everyN p ts (candAt p kind) k).map Ed.at_) = plcR p ts kind k
  | 0, _ => rfl
  | k + 1, hk => by
    rw [everyN_succ, List.map_append, fixE_at, compact_rep (by intro h; have := everyN_at p ts _ k _ h; omega), everyN_plc hp ht k0 k2 k (by omega), plcR_succ, ← fixE_R hp ht k0 k2 (show k < p.length by omega), List.length_map]
    congr 1
    by_cases h : (fixE p ts (k : Int) (candAt p kind k)).length = 0
    · rw [if_pos h, if_neg (by omega)]
    · rw [if_neg h, if_pos (by omega)]
theorem cnt_plc (p : List Ln) (ts : List Tst) (kind : Int) : ∀ k, (plcR p ts kind k).length ≤ cntR p ts kind k ∧ (0 < cntR p ts kind k ↔ 0 < (plcR p ts kind k).length)
  | 0 => by simp [plcR, cntR]
  | k + 1 => by
    obtain ⟨h1, h2⟩ := cnt_plc p ts kind k
    rw [cntR_succ, plcR_succ, List.length_append]
    split <;> simp <;> omega
/-- The answers of Count and Places. -/
def cntO (p : List Ln) (ts : List Tst) (kind : Int) : Nat := if sgtE p ts kind = 0 then cntR p ts kind p.length else 0
def plcO (p : List Ln) (ts : List Tst) (kind : Int) : List Int := if sgtE p ts kind = 0 then plcR p ts kind p.length else []
theorem sgtE_ok {p : List Ln} {ts : List Tst} {kind : Int} : sgtE p ts kind = 0 ↔ (valP p = 0 ∧ valT ts = 0) ∧ (0 ≤ kind ∧ kind ≤ 2) ∧ allPass p ts = false := by
  unfold sgtE
  rw [← chkT_ok]
  by_cases h1 : chkT p ts = 0
  · cases h2 : inB kind 0 2 with
    | false => have := inB_false.1 h2; simp [h1]; omega
    | true => have := inB_true.1 h2; cases h3 : allPass p ts <;> simp [h1] <;> omega
  · simp [h1]
end Go.Proofs.YtbccbokjecdaaaaGreat

namespace Go.Proofs.YtbccbokjecdaaaaGreat
open Go.RowKit
open Go.Sort (Holds putRow)

theorem holds_putRowD {w : World} {blk off : Nat} {zs ys : List Int} (h : Holds (Value.int .i64) w blk off zs.toArray) (hl : ys.length = zs.length) : Holds (Value.int .i64) (putRow (Value.int .i64) w blk off ys.toArray) blk off ys.toArray :=
  Go.Sort.holds_putRow _ _ _ _ zs.toArray _ h (by simpa using hl)
set_option maxHeartbeats 1000000 in
theorem compactO_any (base : Nat) (zs : List Int) (v : Value) (w : World) (ho : OwnI base w v zs) (hsz : zs.length < 1000000000000) (B : Nat) (hB : B ≤ base) (R : Ending → World → Prop)
    (hR : ∀ w' v', Below B w w' → IntsAt w' v' (Lib.compact zs) → R (.returned v') w') :
    Calls Tryz.prog 85 #[v] w R := by
  obtain ⟨e, h⟩ := ho
  have hs := slc_of_owns encI_len h
  have hs0 := hs
  obtain ⟨a, c, rfl, q1, q2, _⟩ := hs
  by_cases h0 : zs.length = 0
  · have hz : zs = [] := List.length_eq_zero_iff.1 h0
    subst hz
    refine (Tryz.slices_Compact_int_empty a c w).mono ?_
    rintro e w' ⟨rfl, rfl⟩
    exact hR _ _ (Below.refl _ _) hs0
  · rcases h.2 with ⟨_, h2⟩ | ⟨g, cap, cur, hv, hg, hh, _⟩
    · omega
    · cases hv
      obtain ⟨_, _, e1, _, _, h4⟩ := hs0
      cases e1
      rcases h4 with ⟨h4, _⟩ | ⟨b, o, e2, hb, hc⟩
      · rw [h4] at h0; simp at h0
      · cases e2
        have hH : Holds (Value.int .i64) w g 0 zs.toArray := holds_int (fun j x hj => by have := hc j x hj 0 (.int .i64 x) rfl; simpa using this) (fun j _ => by simpa using ownsRow_free h j)
        refine (Tryz.slices_Compact_int g 0 c zs w hH (by omega) q1).mono ?_
        rintro e w' ⟨rfl, n, rfl⟩
        have hle : (Lib.compact zs).length ≤ zs.length := compact_le zs
        have hx := Go.Sort.holds_putRow (Value.int .i64) _ g 0 zs.toArray (Lib.compact zs ++ List.replicate (zs.length - (Lib.compact zs).length) 0).toArray (Go.Sort.holds_ahead _ _ n _ _ _ hH) (by simp; omega)
        refine hR _ _ (below_putRow _ _ _ _ _ _ (Nat.le_trans hB hg)) (ints_of_holds (holds_prefix hx) (by simpa using hb) (by omega) q2)

set_option maxHeartbeats 2000000 in
theorem kinded_any (p : List Ln) (ts : List Tst) (kind : Int) (pv tv : Value) (w : World) (hp : LinesAt w pv p) (ht : TestsAt w tv ts) (R : Ending → World → Prop)
    (hR : ∀ w', Grow w w' → R (.returned (.int .i64 (sgtE p ts kind))) w') :
    Calls Tryz.prog 83 #[pv, tv, .int .i64 kind] w R := by
  have HP := Lib.hid hp
  have HT := Lib.hid ht
  have hc : sgtE p ts kind = if chkT p ts = 0 then (if inB kind 0 2 then (if allPass p ts then 8 else 0) else 1) else chkT p ts := rfl
  rw [hc] at hR
  have HR := Lib.hid hR
  obtain ⟨e, he⟩ : ∃ e, chkT p ts = e := ⟨_, rfl⟩
  obtain ⟨b, hb⟩ : ∃ b, inB kind 0 2 = b := ⟨_, rfl⟩
  rw [he, hb] at HR
  have HE := Lib.hid he
  have HB := Lib.hid hb
  obtain ⟨pa, pc, rfl, _⟩ := hp
  obtain ⟨⟨ta, tc, rfl, _⟩, _⟩ := ht
  clear hR hc he hb
  by_cases z1 : e = 0
  rotate_left
  · rw [if_neg z1] at HR
    have t1 : (e != 0) = true := by simpa using z1
    clear z1
    go_enter Tryz.func83, Tryz.ntmps83
    go_wp2_with fail
    refine programs_any p ts _ _ _ HP.out HT.out _ ?_
    intro w1 hg1
    rw [HE.out]
    have HG1 := Lib.hid hg1
    clear hg1
    go_wp2_with fail
    exact HR.out w1 HG1.out
  subst z1
  rw [if_pos rfl] at HR
  cases b with
  | false =>
    rw [if_neg (by decide)] at HR
    go_enter Tryz.func83, Tryz.ntmps83
    go_wp2_with fail
    refine programs_any p ts _ _ _ HP.out HT.out _ ?_
    intro w1 hg1
    rw [HE.out]
    have HG1 := Lib.hid hg1
    clear hg1
    go_wp2_with fail
    refine swithin_any _ _ _ _ _ ?_
    rw [HB.out]
    go_wp2_with fail
    exact HR.out w1 HG1.out
  | true =>
    rw [if_pos rfl] at HR
    go_enter Tryz.func83, Tryz.ntmps83
    go_wp2_with fail
    refine programs_any p ts _ _ _ HP.out HT.out _ ?_
    intro w1 hg1
    rw [HE.out]
    have HG1 := Lib.hid hg1
    clear hg1
    go_wp2_with fail
    refine swithin_any _ _ _ _ _ ?_
    rw [HB.out]
    go_wp2_with fail
    refine failing_any p ts _ _ _ (HP.out.grow HG1.out) (HT.out.grow HG1.out) HE.out _ ?_
    intro w2 hg2
    generalize (if allPass p ts then (8 : Int) else 0) = q at HR ⊢
    have HF := Lib.hid (HR.out w2 (HG1.out.trans hg2))
    clear hg2
    go_wp2_with fail
    exact HF.out
theorem cand0_at (p : List Ln) (pv : Value) (n : Nat) (W : World) (hval : valP p = 0) (hn : n < p.length) (hp : LinesAt W pv p) (R' : Ending → World → Prop) (hR' : ∀ W' v, Grow W W' → LinesAt W' v (candAt p 0 n) → R' (.returned v) W') :
    Calls Tryz.prog 121 #[pv, .int .i64 n, .iface 137 (.agg #[])] W R' := by
  obtain ⟨⟨op, d, a, b⟩, hx⟩ : ∃ l, p[n]? = some l := ⟨_, List.getElem?_eq_getElem hn⟩
  have hl : lineAt p (n : Int) = ⟨op, d, a, b⟩ := by unfold lineAt; rw [show ((n : Int)).toNat = n by omega, hx]; rfl
  have hok : vL op d a b = true := (valP_ok.1 hval).2 _ (List.mem_of_getElem? hx)
  have h8 := (valP_ok.1 hval).1
  unfold candAt at hR'
  rw [hl] at hR'
  exact cand0_any p n op d a b _ _ hp hx hok R' hR'
theorem cand1_at (p : List Ln) (pv : Value) (n : Nat) (W : World) (hval : valP p = 0) (hn : n < p.length) (hp : LinesAt W pv p) (R' : Ending → World → Prop) (hR' : ∀ W' v, Grow W W' → LinesAt W' v (candAt p 1 n) → R' (.returned v) W') :
    Calls Tryz.prog 121 #[pv, .int .i64 n, .iface 138 (.agg #[])] W R' := by
  obtain ⟨⟨op, d, a, b⟩, hx⟩ : ∃ l, p[n]? = some l := ⟨_, List.getElem?_eq_getElem hn⟩
  have hl : lineAt p (n : Int) = ⟨op, d, a, b⟩ := by unfold lineAt; rw [show ((n : Int)).toNat = n by omega, hx]; rfl
  have hok : vL op d a b = true := (valP_ok.1 hval).2 _ (List.mem_of_getElem? hx)
  have h8 := (valP_ok.1 hval).1
  unfold candAt at hR'
  rw [hl] at hR'
  exact cand1_any p n op d a b _ _ hp hx (by omega) R' hR'
theorem cand2_at (p : List Ln) (pv : Value) (n : Nat) (W : World) (hval : valP p = 0) (hn : n < p.length) (hp : LinesAt W pv p) (R' : Ending → World → Prop) (hR' : ∀ W' v, Grow W W' → LinesAt W' v (candAt p 2 n) → R' (.returned v) W') :
    Calls Tryz.prog 121 #[pv, .int .i64 n, .iface 139 (.agg #[])] W R' := by
  obtain ⟨⟨op, d, a, b⟩, hx⟩ : ∃ l, p[n]? = some l := ⟨_, List.getElem?_eq_getElem hn⟩
  have hl : lineAt p (n : Int) = ⟨op, d, a, b⟩ := by unfold lineAt; rw [show ((n : Int)).toNat = n by omega, hx]; rfl
  have hok : vL op d a b = true := (valP_ok.1 hval).2 _ (List.mem_of_getElem? hx)
  have h8 := (valP_ok.1 hval).1
  unfold candAt at hR'
  rw [hl] at hR'
  exact cand2_any p n op d a b _ _ hp hx  R' hR'
theorem candAt_len {p : List Ln} {kind : Int} (hval : valP p = 0) (k0 : 0 ≤ kind) (k2 : kind ≤ 2) : ∀ n : Nat, n < p.length → (candAt p kind n).length ≤ 1000 := fun _ hn =>
  candL_len (lineAt_ok hval (by omega) (by omega)) k0 k2

set_option maxRecDepth 100000 in
set_option maxHeartbeats 8000000 in
theorem every_any (p : List Ln) (ts : List Tst) (kv : Value) (C : Nat → List Ln) (pv tv : Value) (w : World) (hp : LinesAt w pv p) (ht : TestsAt w tv ts) (hp8 : p.length ≤ 8) (hC : ∀ n, n < p.length → (C n).length ≤ 1000)
    (hcand : ∀ (n : Nat) (W : World), n < p.length → LinesAt W pv p → ∀ R' : Ending → World → Prop, (∀ W' v, Grow W W' → LinesAt W' v (C n) → R' (.returned v) W') → Calls Tryz.prog 121 #[pv, .int .i64 n, kv] W R') (R : Ending → World → Prop)
    (hR : ∀ w' v, Grow w w' → Own 5 encE w.heap.size w' v (everyN p ts C p.length) → R (.returned v) w') :
    Calls Tryz.prog 84 #[pv, tv, kv] w R := by
  have HP := Lib.hid hp
  have HT := Lib.hid ht
  have HR := Lib.hid hR
  have HC := Lib.hid hcand
  have HL := Lib.hid hC
  obtain ⟨pa, pc, rfl, p1, p2, _⟩ := hp
  obtain ⟨⟨ta, tc, rfl, _⟩, _⟩ := ht
  clear hR hcand hC
  go_enter Tryz.func84, Tryz.ntmps84
  go_wp2_with fail
  go_loopw [7, 8, 11] (fun out _ i wr => ∃ k : Nat, k ≤ p.length ∧ i = .int .i64 k ∧ Grow w wr ∧ wr.ownsRow w.heap.size 27 5 out (everyN p ts C k).length ((everyN p ts C k).flatMap encE)) (fun _ _ i _ => p.length - (intOf i).toNat)
  case atStart => exact ⟨0, Nat.zero_le _, rfl, Grow.refl _, World.ownsRow_nil _ _ _ _⟩
  case round =>
    obtain ⟨k, hk, rfl, hg, how⟩ := hrel
    have HG := Lib.hid hg
    have HOW := Lib.hid how
    have hzw := hg.sz
    clear hg how
    by_cases hlt : k < p.length
    · have hlt2 : (k : Int) < (p.length : Int) := by omega
      have HS := Lib.hid (everyN_succ p ts C k)
      have hLk := HL.out k hlt
      have HLB := Lib.hid (show (everyN p ts C k).length + (fixE p ts k (C k)).length < 100000000000 by have := everyN_len HL.out k (by omega) (ts := ts); have := fixE_len p ts k (C k); omega)
      have HCK := Lib.hid (HC.out k wr hlt (HP.out.grow HG.out))
      go_wp2_with fail
      refine fixes_any p ts k kv (C k) _ _ _ (HP.out.grow HG.out) (HT.out.grow HG.out) (by omega) HCK.out _ ?_
      intro w2 v2 hg2 hv2
      have HV2 := Lib.hid (hv2.slc encE_len)
      have HG2 := Lib.hid hg2
      have hsl := hv2.slc encE_len
      obtain ⟨a2, c2, rfl, _⟩ := hsl
      clear hg2 hv2
      go_wp2_with (at_builtin; refine wpList_appAll _ rfl (.tmp 14) (.tmp 19) 31 rfl w.heap.size 27 Tryz.underlying31 info_ed rfl (by decide) (by decide) encE encE_len encE_one _ (everyN p ts C k) rfl (HG2.out.owns HOW.out) _ (fixE p ts k (C k)) rfl HV2.out HLB.out (by have := HG.out.sz; have := HG2.out.sz; omega) ?_; intro out2 w3 hown2 hgr2)
      have HG3 := Lib.hid (show Grow w w3 from grown_below HOW.out hgr2 (Nat.le_refl _) (by have := HG.out.sz; have := HG2.out.sz; omega) (HG.out.trans HG2.out))
      have HO2 := Lib.hid hown2
      clear hown2 hgr2
      go_roundw
      case rel => exact ⟨k + 1, by omega, by go_num, HG3.out, by rw [HS.out]; exact HO2.out⟩
      case measure => simp [intOf]; omega
    · have hkn : k = p.length := by omega
      have HO2 := HOW.out
      rw [hkn] at HO2
      have HF := Lib.hid (HR.out _ _ HG.out ⟨_, HO2⟩)
      clear HO2 hkn
      go_wp2_with fail
      exact HF.out

set_option maxRecDepth 100000 in
set_option maxHeartbeats 16000000 in
theorem Count_any (p : List Ln) (ts : List Tst) (kind : Int) (pv tv : Value) (w : World) (hp : LinesAt w pv p) (ht : TestsAt w tv ts) (R : Ending → World → Prop)
    (hR : ∀ w', Grow w w' → R (.returned (.tuple #[.int .i64 (cntO p ts kind), .int .i64 (sgtE p ts kind)])) w') :
    Calls Tryz.prog 33 #[pv, tv, .int .i64 kind] w R := by
  have HP := Lib.hid hp
  have HT := Lib.hid ht
  rw [show cntO p ts kind = if sgtE p ts kind = 0 then cntR p ts kind p.length else 0 from rfl] at hR
  have HR := Lib.hid hR
  obtain ⟨e, he⟩ : ∃ e, sgtE p ts kind = e := ⟨_, rfl⟩
  have hok := fun h : e = 0 => sgtE_ok.1 (he.trans h)
  rw [he] at HR
  have HE := Lib.hid he
  obtain ⟨pa, pc, rfl, r1, r2, _⟩ := hp
  obtain ⟨⟨ta, tc, rfl, _⟩, _⟩ := ht
  clear hR he
  by_cases z1 : e = 0
  rotate_left
  · rw [if_neg z1] at HR
    have t1 : (e != 0) = true := by simpa using z1
    clear hok z1
    go_enter Tryz.func33, Tryz.ntmps33
    go_wp2_with fail
    refine kinded_any p ts kind _ _ _ HP.out HT.out _ ?_
    intro w1 hg1
    rw [HE.out]
    have HF := Lib.hid (HR.out w1 hg1)
    clear hg1
    go_wp2_with fail
    exact HF.out
  obtain ⟨⟨hv, hvt⟩, ⟨k0, k2⟩, _⟩ := hok z1
  subst z1
  rw [if_pos rfl] at HR
  have hp8 := (valP_ok.1 hv).1
  have HV := Lib.hid hv
  have hcnt := everyN_cnt hv hvt k0 k2 p.length (Nat.le_refl _)
  have hplc := everyN_plc hv hvt k0 k2 p.length (Nat.le_refl _)
  have hlen := everyN_len (ts := ts) (candAt_len hv k0 k2) p.length (Nat.le_refl _)
  have HCL := Lib.hid (candAt_len hv k0 k2)
  clear hok hv hvt
  have hk : kind = 0 ∨ kind = 1 ∨ kind = 2 := by omega
  clear k0 k2
  rcases hk with rfl | rfl | rfl
  · skip
    go_enter Tryz.func33, Tryz.ntmps33
    go_wp2_with fail
    refine kinded_any p ts 0 _ _ _ HP.out HT.out _ ?_
    intro w1 hg1
    rw [HE.out]
    have HG1 := Lib.hid hg1
    clear hg1
    go_wp2_with fail
    refine sources_any _ _ ?_
    go_wp2_with fail
    refine every_any p ts (.iface 137 (.agg #[])) (candAt p 0) _ _ _ (HP.out.grow (HG1.out.alloc _)) (HT.out.grow (HG1.out.alloc _)) hp8 HCL.out (fun n W hn hW R' hR' => cand0_at p _ n W HV.out hn hW R' hR') _ ?_
    intro w3 v3 hg3 hv3
    obtain ⟨E, hE⟩ : ∃ E, everyN p ts (candAt p 0) p.length = E := ⟨_, rfl⟩
    have hs3 := hv3.slc encE_len
    rw [hE] at hs3 hcnt hplc hlen
    have HS3 := Lib.hid hs3
    obtain ⟨a3, c3, rfl, s1, s2, _⟩ := hs3
    have HG3 := Lib.hid (Grow.trans (HG1.out.alloc _) hg3)
    clear hg3 hv3 hE
    rw [← hcnt] at HR
    have HF := Lib.hid (HR.out w3 HG3.out)
    clear hcnt hplc
    go_wp2_with fail
    exact HF.out
  · skip
    go_enter Tryz.func33, Tryz.ntmps33
    go_wp2_with fail
    refine kinded_any p ts 1 _ _ _ HP.out HT.out _ ?_
    intro w1 hg1
    rw [HE.out]
    have HG1 := Lib.hid hg1
    clear hg1
    go_wp2_with fail
    refine sources_any _ _ ?_
    go_wp2_with fail
    refine every_any p ts (.iface 138 (.agg #[])) (candAt p 1) _ _ _ (HP.out.grow (HG1.out.alloc _)) (HT.out.grow (HG1.out.alloc _)) hp8 HCL.out (fun n W hn hW R' hR' => cand1_at p _ n W HV.out hn hW R' hR') _ ?_
    intro w3 v3 hg3 hv3
    obtain ⟨E, hE⟩ : ∃ E, everyN p ts (candAt p 1) p.length = E := ⟨_, rfl⟩
    have hs3 := hv3.slc encE_len
    rw [hE] at hs3 hcnt hplc hlen
    have HS3 := Lib.hid hs3
    obtain ⟨a3, c3, rfl, s1, s2, _⟩ := hs3
    have HG3 := Lib.hid (Grow.trans (HG1.out.alloc _) hg3)
    clear hg3 hv3 hE
    rw [← hcnt] at HR
    have HF := Lib.hid (HR.out w3 HG3.out)
    clear hcnt hplc
    go_wp2_with fail
    exact HF.out
  · skip
    go_enter Tryz.func33, Tryz.ntmps33
    go_wp2_with fail
    refine kinded_any p ts 2 _ _ _ HP.out HT.out _ ?_
    intro w1 hg1
    rw [HE.out]
    have HG1 := Lib.hid hg1
    clear hg1
    go_wp2_with fail
    refine sources_any _ _ ?_
    go_wp2_with fail
    refine every_any p ts (.iface 139 (.agg #[])) (candAt p 2) _ _ _ (HP.out.grow (HG1.out.alloc _)) (HT.out.grow (HG1.out.alloc _)) hp8 HCL.out (fun n W hn hW R' hR' => cand2_at p _ n W HV.out hn hW R' hR') _ ?_
    intro w3 v3 hg3 hv3
    obtain ⟨E, hE⟩ : ∃ E, everyN p ts (candAt p 2) p.length = E := ⟨_, rfl⟩
    have hs3 := hv3.slc encE_len
    rw [hE] at hs3 hcnt hplc hlen
    have HS3 := Lib.hid hs3
    obtain ⟨a3, c3, rfl, s1, s2, _⟩ := hs3
    have HG3 := Lib.hid (Grow.trans (HG1.out.alloc _) hg3)
    clear hg3 hv3 hE
    rw [← hcnt] at HR
    have HF := Lib.hid (HR.out w3 HG3.out)
    clear hcnt hplc
    go_wp2_with fail
    exact HF.out
set_option maxRecDepth 100000 in
set_option maxHeartbeats 16000000 in
theorem Places_any (p : List Ln) (ts : List Tst) (kind : Int) (pv tv : Value) (w : World) (hp : LinesAt w pv p) (ht : TestsAt w tv ts) (R : Ending → World → Prop)
    (hR : ∀ w' v, Grow w w' → IntsAt w' v (plcO p ts kind) → R (.returned (.tuple #[v, .int .i64 (sgtE p ts kind)])) w') :
    Calls Tryz.prog 35 #[pv, tv, .int .i64 kind] w R := by
  have HP := Lib.hid hp
  have HT := Lib.hid ht
  rw [show plcO p ts kind = if sgtE p ts kind = 0 then plcR p ts kind p.length else [] from rfl] at hR
  have HR := Lib.hid hR
  obtain ⟨e, he⟩ : ∃ e, sgtE p ts kind = e := ⟨_, rfl⟩
  have hok := fun h : e = 0 => sgtE_ok.1 (he.trans h)
  rw [he] at HR
  have HE := Lib.hid he
  obtain ⟨pa, pc, rfl, r1, r2, _⟩ := hp
  obtain ⟨⟨ta, tc, rfl, _⟩, _⟩ := ht
  clear hR he
  by_cases z1 : e = 0
  rotate_left
  · rw [if_neg z1] at HR
    have t1 : (e != 0) = true := by simpa using z1
    clear hok z1
    go_enter Tryz.func35, Tryz.ntmps35
    go_wp2_with fail
    refine kinded_any p ts kind _ _ _ HP.out HT.out _ ?_
    intro w1 hg1
    rw [HE.out]
    have HF := Lib.hid (HR.out w1 (.slice none 0 0) hg1 (SlcAt.nil _ _ _))
    clear hg1
    go_wp2_with fail
    exact HF.out
  obtain ⟨⟨hv, hvt⟩, ⟨k0, k2⟩, _⟩ := hok z1
  subst z1
  rw [if_pos rfl] at HR
  have hp8 := (valP_ok.1 hv).1
  have HV := Lib.hid hv
  have hcnt := everyN_cnt hv hvt k0 k2 p.length (Nat.le_refl _)
  have hplc := everyN_plc hv hvt k0 k2 p.length (Nat.le_refl _)
  have hlen := everyN_len (ts := ts) (candAt_len hv k0 k2) p.length (Nat.le_refl _)
  have HCL := Lib.hid (candAt_len hv k0 k2)
  clear hok hv hvt
  have hk : kind = 0 ∨ kind = 1 ∨ kind = 2 := by omega
  clear k0 k2
  rcases hk with rfl | rfl | rfl
  · skip
    go_enter Tryz.func35, Tryz.ntmps35
    go_wp2_with fail
    refine kinded_any p ts 0 _ _ _ HP.out HT.out _ ?_
    intro w1 hg1
    rw [HE.out]
    have HG1 := Lib.hid hg1
    clear hg1
    go_wp2_with fail
    refine sources_any _ _ ?_
    go_wp2_with fail
    refine every_any p ts (.iface 137 (.agg #[])) (candAt p 0) _ _ _ (HP.out.grow (HG1.out.alloc _)) (HT.out.grow (HG1.out.alloc _)) hp8 HCL.out (fun n W hn hW R' hR' => cand0_at p _ n W HV.out hn hW R' hR') _ ?_
    intro w3 v3 hg3 hv3
    obtain ⟨E, hE⟩ : ∃ E, everyN p ts (candAt p 0) p.length = E := ⟨_, rfl⟩
    have hs3 := hv3.slc encE_len
    rw [hE] at hs3 hcnt hplc hlen
    have HS3 := Lib.hid hs3
    obtain ⟨a3, c3, rfl, s1, s2, _⟩ := hs3
    have HG3 := Lib.hid (Grow.trans (HG1.out.alloc _) hg3)
    clear hg3 hv3 hE
    rw [← hplc] at HR
    clear hcnt hplc
    go_wp2_with fail
    go_loopw [9, 11, 27] (fun out _ i wr => ∃ k : Nat, k ≤ E.length ∧ i = .int .i64 k ∧ Grow w3 wr ∧ wr.ownsRow w3.heap.size 3 1 out ((E.take k).map Ed.at_).length (((E.take k).map Ed.at_).flatMap encI)) (fun _ _ i _ => E.length - (intOf i).toNat)
    case atStart => exact ⟨0, Nat.zero_le _, rfl, Grow.refl _, World.ownsRow_nil _ _ _ _⟩
    case round =>
      obtain ⟨k, hk, rfl, hg, how⟩ := hrel
      have HG := Lib.hid hg
      have HOW := Lib.hid how
      have hzw := hg.sz
      clear hg how
      by_cases hlt : k < E.length
      · obtain ⟨⟨t, o1, d1, a1', b1⟩, hx⟩ : ∃ x, E[k]? = some x := ⟨_, List.getElem?_eq_getElem hlt⟩
        obtain ⟨gb, o, rfl, hgb, y0, y1, y2, y3, y4⟩ := edits_at (HS3.out.grow HG.out) hx
        have HTK := Lib.hid (show (E.take (k + 1)).map Ed.at_ = (E.take k).map Ed.at_ ++ [t] by rw [List.take_add_one, hx, List.map_append]; rfl)
        have HLB := Lib.hid (show ((E.take k).map Ed.at_).length < 100000000000 by rw [List.length_map, List.length_take]; omega)
        clear hx
        have hgb1 := (Grow.refl wr).alloc (.cells #[.int .i64 t, .int .i64 o1, .int .i64 d1, .int .i64 a1', .int .i64 b1] 27)
        go_wp2_with (at_builtin; refine wpList_app _ rfl (.tmp 31) (.tmp 34) 35 rfl w3.heap.size 3 Tryz.underlying35 info_int rfl (by decide) (by decide) encI encI_len encI_one _ ((E.take k).map Ed.at_) rfl ((hgb1.alloc _).owns HOW.out) _ t 1 rfl (newsG _ _ (by simp) (encI t) _) HLB.out (by simp; omega) ?_; intro out2 w4 hown2 hgr2)
        have HG4 := Lib.hid (show Grow w3 w4 from grown_below HOW.out hgr2 (Nat.le_refl _) (by simp; omega) (HG.out.trans (hgb1.alloc _)))
        have HO2 := Lib.hid hown2
        clear hown2 hgr2
        go_roundw
        case rel => exact ⟨k + 1, by omega, by go_num, HG4.out, by rw [HTK.out]; exact HO2.out⟩
        case measure => simp [intOf]; omega
      · have hkn : k = E.length := by omega
        have HO2 := HOW.out
        rw [hkn, List.take_length] at HO2
        have HO3 := Lib.hid HO2
        have HLL := Lib.hid (show (E.map Ed.at_).length < 1000000000000 by rw [List.length_map]; omega)
        clear HO2 hkn
        go_wp2_with fail
        refine compactO_any w3.heap.size (E.map Ed.at_) _ _ ⟨_, HO3.out⟩ HLL.out w.heap.size (by have := HG3.out.sz; omega) _ ?_
        intro w5 v5 hb5 hv5
        have HF := Lib.hid (HR.out w5 v5 (Below.trans (HG3.out.trans HG.out) hb5) hv5)
        clear hb5 hv5
        go_wp2_with fail
        exact HF.out
  · skip
    go_enter Tryz.func35, Tryz.ntmps35
    go_wp2_with fail
    refine kinded_any p ts 1 _ _ _ HP.out HT.out _ ?_
    intro w1 hg1
    rw [HE.out]
    have HG1 := Lib.hid hg1
    clear hg1
    go_wp2_with fail
    refine sources_any _ _ ?_
    go_wp2_with fail
    refine every_any p ts (.iface 138 (.agg #[])) (candAt p 1) _ _ _ (HP.out.grow (HG1.out.alloc _)) (HT.out.grow (HG1.out.alloc _)) hp8 HCL.out (fun n W hn hW R' hR' => cand1_at p _ n W HV.out hn hW R' hR') _ ?_
    intro w3 v3 hg3 hv3
    obtain ⟨E, hE⟩ : ∃ E, everyN p ts (candAt p 1) p.length = E := ⟨_, rfl⟩
    have hs3 := hv3.slc encE_len
    rw [hE] at hs3 hcnt hplc hlen
    have HS3 := Lib.hid hs3
    obtain ⟨a3, c3, rfl, s1, s2, _⟩ := hs3
    have HG3 := Lib.hid (Grow.trans (HG1.out.alloc _) hg3)
    clear hg3 hv3 hE
    rw [← hplc] at HR
    clear hcnt hplc
    go_wp2_with fail
    go_loopw [9, 11, 27] (fun out _ i wr => ∃ k : Nat, k ≤ E.length ∧ i = .int .i64 k ∧ Grow w3 wr ∧ wr.ownsRow w3.heap.size 3 1 out ((E.take k).map Ed.at_).length (((E.take k).map Ed.at_).flatMap encI)) (fun _ _ i _ => E.length - (intOf i).toNat)
    case atStart => exact ⟨0, Nat.zero_le _, rfl, Grow.refl _, World.ownsRow_nil _ _ _ _⟩
    case round =>
      obtain ⟨k, hk, rfl, hg, how⟩ := hrel
      have HG := Lib.hid hg
      have HOW := Lib.hid how
      have hzw := hg.sz
      clear hg how
      by_cases hlt : k < E.length
      · obtain ⟨⟨t, o1, d1, a1', b1⟩, hx⟩ : ∃ x, E[k]? = some x := ⟨_, List.getElem?_eq_getElem hlt⟩
        obtain ⟨gb, o, rfl, hgb, y0, y1, y2, y3, y4⟩ := edits_at (HS3.out.grow HG.out) hx
        have HTK := Lib.hid (show (E.take (k + 1)).map Ed.at_ = (E.take k).map Ed.at_ ++ [t] by rw [List.take_add_one, hx, List.map_append]; rfl)
        have HLB := Lib.hid (show ((E.take k).map Ed.at_).length < 100000000000 by rw [List.length_map, List.length_take]; omega)
        clear hx
        have hgb1 := (Grow.refl wr).alloc (.cells #[.int .i64 t, .int .i64 o1, .int .i64 d1, .int .i64 a1', .int .i64 b1] 27)
        go_wp2_with (at_builtin; refine wpList_app _ rfl (.tmp 31) (.tmp 34) 35 rfl w3.heap.size 3 Tryz.underlying35 info_int rfl (by decide) (by decide) encI encI_len encI_one _ ((E.take k).map Ed.at_) rfl ((hgb1.alloc _).owns HOW.out) _ t 1 rfl (newsG _ _ (by simp) (encI t) _) HLB.out (by simp; omega) ?_; intro out2 w4 hown2 hgr2)
        have HG4 := Lib.hid (show Grow w3 w4 from grown_below HOW.out hgr2 (Nat.le_refl _) (by simp; omega) (HG.out.trans (hgb1.alloc _)))
        have HO2 := Lib.hid hown2
        clear hown2 hgr2
        go_roundw
        case rel => exact ⟨k + 1, by omega, by go_num, HG4.out, by rw [HTK.out]; exact HO2.out⟩
        case measure => simp [intOf]; omega
      · have hkn : k = E.length := by omega
        have HO2 := HOW.out
        rw [hkn, List.take_length] at HO2
        have HO3 := Lib.hid HO2
        have HLL := Lib.hid (show (E.map Ed.at_).length < 1000000000000 by rw [List.length_map]; omega)
        clear HO2 hkn
        go_wp2_with fail
        refine compactO_any w3.heap.size (E.map Ed.at_) _ _ ⟨_, HO3.out⟩ HLL.out w.heap.size (by have := HG3.out.sz; omega) _ ?_
        intro w5 v5 hb5 hv5
        have HF := Lib.hid (HR.out w5 v5 (Below.trans (HG3.out.trans HG.out) hb5) hv5)
        clear hb5 hv5
        go_wp2_with fail
        exact HF.out
  · skip
    go_enter Tryz.func35, Tryz.ntmps35
    go_wp2_with fail
    refine kinded_any p ts 2 _ _ _ HP.out HT.out _ ?_
    intro w1 hg1
    rw [HE.out]
    have HG1 := Lib.hid hg1
    clear hg1
    go_wp2_with fail
    refine sources_any _ _ ?_
    go_wp2_with fail
    refine every_any p ts (.iface 139 (.agg #[])) (candAt p 2) _ _ _ (HP.out.grow (HG1.out.alloc _)) (HT.out.grow (HG1.out.alloc _)) hp8 HCL.out (fun n W hn hW R' hR' => cand2_at p _ n W HV.out hn hW R' hR') _ ?_
    intro w3 v3 hg3 hv3
    obtain ⟨E, hE⟩ : ∃ E, everyN p ts (candAt p 2) p.length = E := ⟨_, rfl⟩
    have hs3 := hv3.slc encE_len
    rw [hE] at hs3 hcnt hplc hlen
    have HS3 := Lib.hid hs3
    obtain ⟨a3, c3, rfl, s1, s2, _⟩ := hs3
    have HG3 := Lib.hid (Grow.trans (HG1.out.alloc _) hg3)
    clear hg3 hv3 hE
    rw [← hplc] at HR
    clear hcnt hplc
    go_wp2_with fail
    go_loopw [9, 11, 27] (fun out _ i wr => ∃ k : Nat, k ≤ E.length ∧ i = .int .i64 k ∧ Grow w3 wr ∧ wr.ownsRow w3.heap.size 3 1 out ((E.take k).map Ed.at_).length (((E.take k).map Ed.at_).flatMap encI)) (fun _ _ i _ => E.length - (intOf i).toNat)
    case atStart => exact ⟨0, Nat.zero_le _, rfl, Grow.refl _, World.ownsRow_nil _ _ _ _⟩
    case round =>
      obtain ⟨k, hk, rfl, hg, how⟩ := hrel
      have HG := Lib.hid hg
      have HOW := Lib.hid how
      have hzw := hg.sz
      clear hg how
      by_cases hlt : k < E.length
      · obtain ⟨⟨t, o1, d1, a1', b1⟩, hx⟩ : ∃ x, E[k]? = some x := ⟨_, List.getElem?_eq_getElem hlt⟩
        obtain ⟨gb, o, rfl, hgb, y0, y1, y2, y3, y4⟩ := edits_at (HS3.out.grow HG.out) hx
        have HTK := Lib.hid (show (E.take (k + 1)).map Ed.at_ = (E.take k).map Ed.at_ ++ [t] by rw [List.take_add_one, hx, List.map_append]; rfl)
        have HLB := Lib.hid (show ((E.take k).map Ed.at_).length < 100000000000 by rw [List.length_map, List.length_take]; omega)
        clear hx
        have hgb1 := (Grow.refl wr).alloc (.cells #[.int .i64 t, .int .i64 o1, .int .i64 d1, .int .i64 a1', .int .i64 b1] 27)
        go_wp2_with (at_builtin; refine wpList_app _ rfl (.tmp 31) (.tmp 34) 35 rfl w3.heap.size 3 Tryz.underlying35 info_int rfl (by decide) (by decide) encI encI_len encI_one _ ((E.take k).map Ed.at_) rfl ((hgb1.alloc _).owns HOW.out) _ t 1 rfl (newsG _ _ (by simp) (encI t) _) HLB.out (by simp; omega) ?_; intro out2 w4 hown2 hgr2)
        have HG4 := Lib.hid (show Grow w3 w4 from grown_below HOW.out hgr2 (Nat.le_refl _) (by simp; omega) (HG.out.trans (hgb1.alloc _)))
        have HO2 := Lib.hid hown2
        clear hown2 hgr2
        go_roundw
        case rel => exact ⟨k + 1, by omega, by go_num, HG4.out, by rw [HTK.out]; exact HO2.out⟩
        case measure => simp [intOf]; omega
      · have hkn : k = E.length := by omega
        have HO2 := HOW.out
        rw [hkn, List.take_length] at HO2
        have HO3 := Lib.hid HO2
        have HLL := Lib.hid (show (E.map Ed.at_).length < 1000000000000 by rw [List.length_map]; omega)
        clear HO2 hkn
        go_wp2_with fail
        refine compactO_any w3.heap.size (E.map Ed.at_) _ _ ⟨_, HO3.out⟩ HLL.out w.heap.size (by have := HG3.out.sz; omega) _ ?_
        intro w5 v5 hb5 hv5
        have HF := Lib.hid (HR.out w5 v5 (Below.trans (HG3.out.trans HG.out) hb5) hv5)
        clear hb5 hv5
        go_wp2_with fail
        exact HF.out
end Go.Proofs.YtbccbokjecdaaaaGreat

namespace Go.Proofs.YtbccbokjecdaaaaGreat
open Go.RowKit

/-- A list of edits as it lies in a cell. -/
structure Lst where
  a : Option Addr
  n : Nat
  c : Nat
  x : List Ed
abbrev Lst.v (t : Lst) : Value := .slice t.a t.n t.c
def encW (t : Lst) : List Value := [t.v]
theorem encW_len (t : Lst) : (encW t).length = 1 := rfl
structure ListsAt (w : World) (v : Value) (L : List Lst) : Prop where
  at_ : SlcAt 1 encW w v L
  ins : ∀ t ∈ L, EditsAt w t.v t.x
theorem ListsAt.grow {w w' : World} {v : Value} {L : List Lst} (h : ListsAt w v L) (g : Grow w w') : ListsAt w' v L := ⟨h.at_.grow g, fun t ht => (h.ins t ht).grow g⟩
theorem lists_at {w : World} {a : Option Addr} {n c : Nat} {L : List Lst} (h : SlcAt 1 encW w (.slice a n c) L) {k : Nat} {t : Lst} (hx : L[k]? = some t) : ∃ b o, a = some ⟨b, o, none⟩ ∧ b < w.heap.size ∧ w.cell? ⟨b, o + k, none⟩ = some t.v := by
  obtain ⟨_, _, e, _, _, h⟩ := h
  cases e
  obtain ⟨b, o, rfl, hb, hc⟩ := h.resolve_left (by intro h0; rw [h0.1] at hx; simp at hx)
  exact ⟨b, o, rfl, hb, by simpa using hc k t hx 0 _ rfl⟩
/-- The first one of the smallest numbers of a list stands at the place j. -/
def FirstMin (S : List Int) (j : Nat) (m : Int) : Prop := S[j]? = some m ∧ ∀ (i : Nat) (s : Int), S[i]? = some s → m ≤ s ∧ (i < j → m < s)
theorem FirstMin.uniq {S : List Int} {j j' : Nat} {m m' : Int} (h : FirstMin S j m) (h' : FirstMin S j' m') : j = j' ∧ m = m' := by
  have a := h.2 j' m' h'.1
  have b := h'.2 j m h.1
  refine ⟨?_, by omega⟩
  by_cases h1 : j = j'
  · exact h1
  · have : j < j' ∨ j' < j := by omega
    rcases this with q | q
    · have := b.2 q; omega
    · have := a.2 q; omega
theorem FirstMin.step {S : List Int} {k j : Nat} {m s : Int} (h : FirstMin (S.take k) j m) (hs : S[k]? = some s) : (s < m → FirstMin (S.take (k + 1)) k s) ∧ (¬ s < m → FirstMin (S.take (k + 1)) j m) := by
  have hk : k < S.length := (List.getElem?_eq_some_iff.1 hs).1
  have hj : j < k := by
    have := (List.getElem?_eq_some_iff.1 h.1).1
    rw [List.length_take] at this; omega
  have key : ∀ (i : Nat) (t : Int), (S.take (k + 1))[i]? = some t → (i < k ∧ (S.take k)[i]? = some t) ∨ (i = k ∧ t = s) := by
    intro i t ht
    rw [List.getElem?_take] at ht
    split at ht
    · next hi =>
      by_cases e : i = k
      · subst e; rw [hs] at ht; exact .inr ⟨rfl, (Option.some.inj ht).symm⟩
      · exact .inl ⟨by omega, by rw [List.getElem?_take, if_pos (by omega)]; exact ht⟩
    · cases ht
  constructor
  · intro hlt
    refine ⟨by rw [List.getElem?_take, if_pos (by omega)]; exact hs, fun i t ht => ?_⟩
    rcases key i t ht with ⟨hi, h2⟩ | ⟨rfl, rfl⟩
    · have := h.2 i t h2
      exact ⟨by omega, fun _ => by omega⟩
    · exact ⟨by omega, fun e => by omega⟩
  · intro hlt
    have h1 := h.1
    rw [List.getElem?_take, if_pos hj] at h1
    refine ⟨by rw [List.getElem?_take, if_pos (by omega)]; exact h1, fun i t ht => ?_⟩
    rcases key i t ht with ⟨hi, h2⟩ | ⟨rfl, rfl⟩
    · exact h.2 i t h2
    · exact ⟨by omega, fun e => by omega⟩
theorem FirstMin.one {S : List Int} {m : Int} (h : S[0]? = some m) : FirstMin (S.take 1) 0 m := by
  refine ⟨by rw [List.getElem?_take, if_pos (by omega)]; exact h, fun i s hs => ?_⟩
  rw [List.getElem?_take] at hs
  split at hs
  · next hi =>
    have : i = 0 := by omega
    subst this
    rw [h] at hs
    cases hs
    exact ⟨by omega, fun e => by omega⟩
  · cases hs

/-- A comparison of two lists of edits that a function with captured values answers. -/
def CmpE (g : Nat) (cb : Array Value) (w : World) (sz : List Ed → Int) : Prop :=
  ∀ (t u : Lst) (W : World), Grow w W → EditsAt W t.v t.x → EditsAt W u.v u.x → ∀ R : Ending → World → Prop, (∀ W', Grow W W' → R (.returned (.int .i64 (cmpI (sz t.x) (sz u.x)))) W') → Calls Tryz.prog g (#[t.v, u.v] ++ cb) W R
theorem cmpI_lt {x y : Int} : cmpI x y < 0 ↔ x < y := by unfold cmpI; split <;> (try split) <;> omega

set_option maxHeartbeats 4000000 in
theorem smallF_any (p : List Ln) (t u : Lst) (pv : Value) (b : Nat) (w : World) (hp : LinesAt w pv p) (ht : EditsAt w t.v t.x) (hu : EditsAt w u.v u.x) (hb : w.heap[b]? = some (.cells #[pv] 22 (0, 0))) (R : Ending → World → Prop)
    (hR : ∀ w', Grow w w' → R (.returned (.int .i64 (cmpI (sizeE p t.x) (sizeE p u.x)))) w') :
    Calls Tryz.prog 157 #[t.v, u.v, .pointer (some ⟨b, 0, none⟩)] w R := by
  have HP := Lib.hid hp
  have HT := Lib.hid ht
  have HU := Lib.hid hu
  have HR := Lib.hid hR
  obtain ⟨s, hs⟩ : ∃ s, sizeE p t.x = s := ⟨_, rfl⟩
  obtain ⟨s', hs'⟩ : ∃ s, sizeE p u.x = s := ⟨_, rfl⟩
  rw [hs, hs'] at HR
  have HS := Lib.hid hs
  have HS2 := Lib.hid hs'
  obtain ⟨pa, pc, rfl, _⟩ := hp
  obtain ⟨ta, tn, tc, tx⟩ := t
  obtain ⟨ua, un, uc, ux⟩ := u
  obtain ⟨_, _, hv, _⟩ := ht
  obtain ⟨_, _, hv2, _⟩ := hu
  dsimp only [Lst.v] at hv hv2
  cases hv
  cases hv2
  dsimp only at HT HU HS HS2 ⊢
  have e0 := box1 hb
  have hz := lt_of_block hb
  clear hR hs hs' hb
  go_enter Tryz.func157, Tryz.ntmps157
  go_wp2_with fail
  refine wp_region_held_drew (S := fun X => X.cell? ⟨b, 0, none⟩ = some (.slice pa p.length pc) ∧ Grow w X) (by kernel_rfl) ⟨e0, (Grow.refl w).drew⟩ (fun hH => ?_)
  refine wpAnyH_take (i := 0) (v := .slice pa p.length pc) rfl (by kernel_rfl) (by kernel_rfl) (by kernel_rfl) (fun _ _ _ h => h) (Or.inl ⟨by rfl, ?_⟩) hH ?_
  · intro w9 hw9
    obtain ⟨d0, dg⟩ := hw9
    go_simp
  simp only [List.getElem_toArray, List.getElem_cons_zero, Act.put, List.setIfInBounds_toArray, List.set_cons_zero, List.set_cons_succ]
  refine wpAnyH_take (i := 1) (v := .slice ta tx.length tc) rfl (by kernel_rfl) (by kernel_rfl) (by kernel_rfl) (fun _ _ _ h => h) (Or.inl ⟨by rfl, ?_⟩) hH ?_
  · intro w9 hw9
    obtain ⟨d0, dg⟩ := hw9
    go_simp
  simp only [List.getElem_toArray, List.getElem_cons_succ, List.getElem_cons_zero, Act.put, List.setIfInBounds_toArray, List.set_cons_zero, List.set_cons_succ]
  refine wpAnyH_take (i := 3) (v := .slice pa p.length pc) rfl (by kernel_rfl) (by kernel_rfl) (by kernel_rfl) (fun _ _ _ h => h) (Or.inl ⟨by rfl, ?_⟩) hH ?_
  · intro w9 hw9
    obtain ⟨d0, dg⟩ := hw9
    go_simp
  simp only [List.getElem_toArray, List.getElem_cons_succ, List.getElem_cons_zero, Act.put, List.setIfInBounds_toArray, List.set_cons_zero, List.set_cons_succ]
  refine wpAnyH_take (i := 4) (v := .slice ua ux.length uc) rfl (by kernel_rfl) (by kernel_rfl) (by kernel_rfl) (fun _ _ _ h => h) (Or.inl ⟨by rfl, ?_⟩) hH ?_
  · intro w9 hw9
    obtain ⟨d0, dg⟩ := hw9
    go_simp
  simp only [List.getElem_toArray, List.getElem_cons_succ, List.getElem_cons_zero, Act.put, List.setIfInBounds_toArray, List.set_cons_zero, List.set_cons_succ]
  refine wpAnyH_ready (rs := [2]) (by kernel_rfl) (by simp) ?_
  refine AllReadyH.cons rfl (fun K hK => ?_) AllReadyH.nil
  go_simp
  refine size_any p tx _ _ _ (HP.out.grow hH.2) (HT.out.grow hH.2) _ ?_
  intro w8 hg8
  rw [HS.out]
  go_wp2_with fail
  refine hK.out _ _ ⟨hg8.cell hH.1, hH.2.trans hg8⟩ (fun hH2 => ?_)
  clear hK K hH
  have hH := hH2
  clear hH2
  refine wpAnyH_ready (rs := [5]) (by kernel_rfl) (by simp) ?_
  refine AllReadyH.cons rfl (fun K hK => ?_) AllReadyH.nil
  go_simp
  refine size_any p ux _ _ _ (HP.out.grow hH.2) (HU.out.grow hH.2) _ ?_
  intro w8 hg8
  rw [HS2.out]
  go_wp2_with fail
  refine hK.out _ _ ⟨hg8.cell hH.1, hH.2.trans hg8⟩ (fun hH2 => ?_)
  clear hK K hH
  have hH := hH2
  clear hH2
  refine wpAnyH_ready (rs := [6]) (by kernel_rfl) (by simp) ?_
  refine AllReadyH.cons rfl (fun K hK => ?_) AllReadyH.nil
  go_simp
  refine cmpI_any s s' _ _ ?_
  go_wp2_with fail
  refine hK.out _ _ hH (fun hH2 => ?_)
  clear hK K hH
  have hH := hH2
  clear hH2
  refine wpAnyH_take (i := 7) (v := .int .i64 (cmpI s s')) rfl (by kernel_rfl) (by kernel_rfl) (by kernel_rfl) (fun _ _ _ h => h) (Or.inl ⟨by rfl, ?_⟩) hH ?_
  · intro w9 hw9
    go_simp
  simp only [List.getElem_toArray, List.getElem_cons_succ, List.getElem_cons_zero, Act.put, List.setIfInBounds_toArray, List.set_cons_zero, List.set_cons_succ]
  refine wpAnyH_done (by kernel_rfl) ?_ _
  have HF := Lib.hid (HR.out _ hH.2)
  go_wp2_with fail
  exact HF.out

set_option maxHeartbeats 4000000 in
theorem minFunc_any (g : Nat) (cb : Array Value) (eg : Enters Tryz.prog g) (sz : List Ed → Int) (L : List Lst) (v : Value) (w : World) (hL : ListsAt w v L) (h0 : 0 < L.length) (hc : CmpE g cb w sz) (R : Ending → World → Prop)
    (hR : ∀ w' (j : Nat) t, Grow w w' → L[j]? = some t → FirstMin (L.map fun t => sz t.x) j (sz t.x) → R (.returned t.v) w') :
    Calls Tryz.prog 133 #[v, .func (.func g) #[] cb] w R := by
  have HL := Lib.hid hL
  have HR := Lib.hid hR
  have HC := Lib.hid hc
  obtain ⟨⟨a, c, rfl, h1, h2, _⟩, _⟩ := hL
  have hm : L.length ≤ 9223372036854775807 := by omega
  obtain ⟨⟨ta, tn, tc, tx⟩, ht⟩ : ∃ t, L[0]? = some t := ⟨_, List.getElem?_eq_getElem h0⟩
  obtain ⟨b, o, rfl, hb, e0⟩ := lists_at HL.out.at_ ht
  dsimp only [Lst.v] at e0
  simp only [Nat.add_zero] at e0
  have HT := Lib.hid ht
  have hl1 : ¬ (L.length : Int) < 1 := by omega
  have hl2 : (0 : Int) < (L.length : Int) := by omega
  unfold Enters at eg
  clear hR hc ht
  go_enter Tryz.func133, Tryz.ntmps133
  go_wp2_with fail
  go_loopw [5, 6] (fun m i wr => ∃ (k j : Nat) (t : Lst), 1 ≤ k ∧ k ≤ L.length ∧ i = .int .i64 k ∧ m = .slice t.a t.n t.c ∧ L[j]? = some t ∧ FirstMin ((L.map fun t => sz t.x).take k) j (sz t.x) ∧ Grow w wr) (fun _ i _ => L.length - (intOf i).toNat)
  case atStart => exact ⟨1, 0, ⟨ta, tn, tc, tx⟩, by omega, by omega, rfl, rfl, HT.out, FirstMin.one (by rw [List.getElem?_map, HT.out]; rfl), Grow.refl _⟩
  case round =>
    obtain ⟨k, j, ⟨ma, mn, mc, mx⟩, hk1, hk, rfl, rfl, hj, hfm, hg⟩ := hrel
    have HJ := Lib.hid hj
    have HFM := Lib.hid hfm
    have HG := Lib.hid hg
    clear hj hfm hg e0
    by_cases hlt : k < L.length
    · obtain ⟨⟨ua, un, uc, ux⟩, hu⟩ : ∃ t, L[k]? = some t := ⟨_, List.getElem?_eq_getElem hlt⟩
      obtain ⟨_, _, e, hb2, e1⟩ := lists_at (HL.out.grow HG.out).at_ hu
      cases e
      dsimp only [Lst.v] at e1
      have hk2 : (k : Int) < (L.length : Int) := by omega
      have HU := Lib.hid hu
      obtain ⟨h3, h4⟩ := HFM.out.step (s := sz ux) (by rw [List.getElem?_map, hu]; rfl)
      have HIU := Lib.hid ((HL.out.grow HG.out).ins _ (List.mem_of_getElem? hu))
      have HIM := Lib.hid ((HL.out.grow HG.out).ins _ (List.mem_of_getElem? HJ.out))
      have H3 := Lib.hid h3
      have H4 := Lib.hid h4
      have hci := cmpI_lt (x := sz ux) (y := sz mx)
      have HCC := Lib.hid (HC.out ⟨ua, un, uc, ux⟩ ⟨ma, mn, mc, mx⟩ wr HG.out HIU.out HIM.out)
      dsimp only at HCC
      generalize cmpI (sz ux) (sz mx) = q at hci HCC
      clear hu h3 h4
      by_cases hq : q < 0
      · have h5 := H3.out (hci.1 hq)
        have H5 := Lib.hid h5
        clear h5 hci
        go_wp2_with fail
        refine HCC.out _ ?_
        intro w1 hg1
        have e2 := hg1.cell e1
        have hb3 : b < w1.heap.size := Nat.lt_of_lt_of_le hb2 hg1.sz
        have HG2 := Lib.hid (HG.out.trans hg1)
        clear hg1 e1
        go_wp2_with fail
        go_roundw
        case rel => exact ⟨k + 1, k, ⟨ua, un, uc, ux⟩, by omega, by omega, by go_num, rfl, HU.out, H5.out, HG2.out⟩
        case measure => simp [intOf]; omega
      · have h5 := H4.out (fun h => hq (hci.2 h))
        have H5 := Lib.hid h5
        clear h5 hci
        go_wp2_with fail
        refine HCC.out _ ?_
        intro w1 hg1
        have HG2 := Lib.hid (HG.out.trans hg1)
        clear hg1 e1
        go_wp2_with fail
        go_roundw
        case rel => exact ⟨k + 1, j, ⟨ma, mn, mc, mx⟩, by omega, by omega, by go_num, rfl, HJ.out, H5.out, HG2.out⟩
        case measure => simp [intOf]; omega
    · have hkn : k = L.length := by omega
      have hfm := HFM.out
      rw [List.take_of_length_le (by rw [List.length_map]; omega)] at hfm
      have HF := Lib.hid (HR.out wr j ⟨ma, mn, mc, mx⟩ HG.out HJ.out hfm)
      clear hfm hkn
      go_wp2_with fail
      exact HF.out

set_option maxHeartbeats 4000000 in
theorem smallest_any (p : List Ln) (L : List Lst) (pv v : Value) (w : World) (hp : LinesAt w pv p) (hL : ListsAt w v L) (R : Ending → World → Prop)
    (hR0 : L = [] → ∀ w', Grow w w' → R (.returned (.tuple #[.slice none 0 0, .bool false])) w')
    (hR1 : ∀ w' (j : Nat) t, Grow w w' → L[j]? = some t → FirstMin (L.map fun t => sizeE p t.x) j (sizeE p t.x) → R (.returned (.tuple #[t.v, .bool true])) w') :
    Calls Tryz.prog 126 #[pv, v] w R := by
  have HP := Lib.hid hp
  have HL := Lib.hid hL
  have HR0 := Lib.hid hR0
  have HR1 := Lib.hid hR1
  obtain ⟨pa, pc, rfl, _⟩ := hp
  obtain ⟨⟨a, c, rfl, h1, h2, _⟩, _⟩ := hL
  have eg : Enters Tryz.prog 157 := enters_of Tryz.func157 (by kernel_rfl) rfl
  have EG := Lib.hid eg
  clear hR0 hR1 eg
  by_cases h0 : L.length = 0
  · have hn : L = [] := List.length_eq_zero_iff.1 h0
    subst hn
    have HF := Lib.hid (HR0.out rfl)
    go_enter Tryz.func126, Tryz.ntmps126
    go_wp2_with fail
    exact HF.out _ ((Grow.refl w).alloc _)
  · have t1 : ((L.length : Int) == 0) = false := by simpa using (by omega : ¬ (L.length : Int) = 0)
    go_enter Tryz.func126, Tryz.ntmps126
    go_wp2_with fail
    have hb := heap_alloc_new w (.cells #[.slice pa p.length pc] 22)
    have hg := (Grow.refl w).alloc (.cells #[.slice pa p.length pc] 22)
    generalize w.alloc (.cells #[.slice pa p.length pc] 22) = W at hb hg ⊢
    have HB := Lib.hid hb
    have HG := Lib.hid hg
    have hcmp : CmpE 157 #[.pointer (some ⟨w.heap.size, 0, none⟩)] W (sizeE p) := fun t u X hgX ht hu R hR =>
      smallF_any p t u _ _ X (HP.out.grow (HG.out.trans hgX)) ht hu (hgX.blk HB.out) R hR
    clear hb hg
    refine minFunc_any 157 _ EG.out (sizeE p) L _ _ (HL.out.grow HG.out) (by omega) hcmp _ ?_
    intro w1 j t hg1 ht hfm
    have HF := Lib.hid (HR1.out w1 j t (HG.out.trans hg1) ht hfm)
    clear hcmp hg1 ht hfm
    go_wp2_with fail
    exact HF.out
end Go.Proofs.YtbccbokjecdaaaaGreat

namespace Go.Proofs.YtbccbokjecdaaaaGreat
open Go.RowKit

theorem info_sle : (Tryz.prog.info? 31).map (fun i => (i.zero, i.size, i.bytes)) = some (some (.slice none 0 0), 1, 24) := by kernel_rfl
theorem encW_one (t : Lst) : ∀ u ∈ encW t, u.oneCell' = true := by
  intro u hu
  unfold encW at hu
  simp only [List.mem_cons, List.not_mem_nil, or_false] at hu
  subst hu
  rfl
/-- A list of one edit in a block of its own. -/
def EdBox (w : World) (t : Lst) : Prop := ∃ b e, t = ⟨some ⟨b, 0, none⟩, 1, 1, [e]⟩ ∧ w.heap[b]? = some (.cells (encE e).toArray 27 (0, 0))
theorem EdBox.grow {w w' : World} {t : Lst} (h : EdBox w t) (g : Grow w w') : EdBox w' t := by
  obtain ⟨b, e, ht, hb⟩ := h
  exact ⟨b, e, ht, g.blk hb⟩
theorem EdBox.kept {w w' : World} {t : Lst} {v : Value} {base n : Nat} {ys : List Value} (h : EdBox w t) (ho : w.ownsRow base 31 1 v n ys) (hg : w.grownBy w' v.ownBlock) : EdBox w' t := by
  obtain ⟨b, e, ht, hb⟩ := h
  refine ⟨b, e, ht, ?_⟩
  have hne : some b ≠ v.ownBlock := by
    intro he
    rcases ho.2 with ⟨hv, _⟩ | ⟨g, cap, cur, hv, _, hh, _⟩
    · subst hv
      simp [Value.ownBlock] at he
    · subst hv
      have hbg : b = g := by simpa [Value.ownBlock] using he
      subst hbg
      rw [hb] at hh
      simp at hh
  rw [hg.block b (lt_of_block hb) hne]
  exact hb
theorem EdBox.edits {w : World} {t : Lst} (h : EdBox w t) : EditsAt w t.v t.x := by
  obtain ⟨b, e, rfl, hb⟩ := h
  refine ⟨_, 1, rfl, Nat.le_refl _, by omega, .inr ⟨b, 0, rfl, lt_of_block hb, ?_⟩⟩
  intro j x hj i u hu
  cases j with
  | succ j => simp at hj
  | zero =>
    simp at hj
    subst hj
    rw [show 0 + 0 * 5 + i = i by omega, World.cell?]
    simp only [hb]
    simpa using hu
/-- One edit, as a list, by size. -/
def size1 (p : List Ln) (e : Ed) : Int := sizeE p [e]

set_option maxRecDepth 100000 in
set_option maxHeartbeats 8000000 in
theorem single_any (p : List Ln) (ts : List Tst) (kv : Value) (C : Nat → List Ln) (pv tv : Value) (w : World) (hp : LinesAt w pv p) (ht : TestsAt w tv ts) (hp8 : p.length ≤ 8) (hC : ∀ n, n < p.length → (C n).length ≤ 1000)
    (hcand : ∀ (n : Nat) (W : World), n < p.length → LinesAt W pv p → ∀ R' : Ending → World → Prop, (∀ W' v, Grow W W' → LinesAt W' v (C n) → R' (.returned v) W') → Calls Tryz.prog 121 #[pv, .int .i64 n, kv] W R') (R : Ending → World → Prop)
    (hR0 : everyN p ts C p.length = [] → ∀ w', Grow w w' → R (.returned (.tuple #[.slice none 0 0, .bool false])) w')
    (hR1 : ∀ w' v (j : Nat) e, Grow w w' → (everyN p ts C p.length)[j]? = some e → FirstMin ((everyN p ts C p.length).map (size1 p)) j (size1 p e) → EditsAt w' v [e] → R (.returned (.tuple #[v, .bool true])) w') :
    Calls Tryz.prog 88 #[pv, tv, kv] w R := by
  have HP := Lib.hid hp
  have HT := Lib.hid ht
  have hlen := everyN_len (ts := ts) hC p.length (Nat.le_refl _)
  have HC := Lib.hid hcand
  have HL := Lib.hid hC
  obtain ⟨E, hE⟩ : ∃ E, everyN p ts C p.length = E := ⟨_, rfl⟩
  rw [hE] at hR0 hR1 hlen
  have HE := Lib.hid hE
  have HR0 := Lib.hid hR0
  have HR1 := Lib.hid hR1
  obtain ⟨pa, pc, rfl, p1, p2, _⟩ := hp
  obtain ⟨⟨ta, tc, rfl, _⟩, _⟩ := ht
  clear hR0 hR1 hcand hC hE
  go_enter Tryz.func88, Tryz.ntmps88
  go_wp2_with fail
  refine every_any p ts kv C _ _ _ HP.out HT.out hp8 HL.out HC.out _ ?_
  intro w3 v3 hg3 hv3
  have hs3 := hv3.slc encE_len
  rw [HE.out] at hs3
  have HS3 := Lib.hid hs3
  obtain ⟨a3, c3, rfl, s1, s2, _⟩ := hs3
  have HG3 := Lib.hid hg3
  clear hg3 hv3
  go_wp2_with fail
  go_loopw [8, 10, 16] (fun out _ i wr => ∃ (k : Nat) (L : List Lst), k ≤ E.length ∧ i = .int .i64 k ∧ Grow w3 wr ∧ L.map Lst.x = (E.take k).map (fun e => [e]) ∧ (∀ t ∈ L, EdBox wr t) ∧ wr.ownsRow w3.heap.size 31 1 out L.length (L.flatMap encW)) (fun _ _ i _ => E.length - (intOf i).toNat)
  case atStart => exact ⟨0, [], Nat.zero_le _, rfl, Grow.refl _, rfl, by simp, World.ownsRow_nil _ _ _ _⟩
  case round =>
    obtain ⟨k, L, hk, rfl, hg, hm, hin, how⟩ := hrel
    have HG := Lib.hid hg
    have HOW := Lib.hid how
    have HM := Lib.hid hm
    have HIN := Lib.hid hin
    have hzw := hg.sz
    have hLk : L.length = (E.take k).length := by have := congrArg List.length hm; simpa using this
    rw [List.length_take] at hLk
    clear hg how hm hin
    by_cases hlt : k < E.length
    · obtain ⟨⟨t, o1, d1, a1', b1⟩, hx⟩ : ∃ x, E[k]? = some x := ⟨_, List.getElem?_eq_getElem hlt⟩
      obtain ⟨gb, o, rfl, hgb, y0, y1, y2, y3, y4⟩ := edits_at (HS3.out.grow HG.out) hx
      have HTK := Lib.hid (show (E.take (k + 1)).map (fun e => [e]) = (E.take k).map (fun e => [e]) ++ [[⟨t, ⟨o1, d1, a1', b1⟩⟩]] by rw [List.take_add_one, hx, List.map_append]; rfl)
      have HLB := Lib.hid (show L.length < 100000000000 by omega)
      have hgb1 := (Grow.refl wr).alloc (.cells #[.int .i64 t, .int .i64 o1, .int .i64 d1, .int .i64 a1', .int .i64 b1] 27)
      clear hx hLk
      go_wp2_with (at_builtin; refine wpList_app _ rfl (.tmp 20) (.tmp 23) 141 rfl w3.heap.size 31 Tryz.underlying141 info_sle rfl (by decide) (by decide) encW encW_len encW_one _ L rfl (((hgb1.alloc _).alloc _).owns HOW.out) _ (⟨some ⟨wr.heap.size + 1, 0, none⟩, 1, 1, [⟨t, ⟨o1, d1, a1', b1⟩⟩]⟩ : Lst) 1 rfl (newsG _ _ (by simp) (encW ⟨some ⟨wr.heap.size + 1, 0, none⟩, 1, 1, [⟨t, ⟨o1, d1, a1', b1⟩⟩]⟩) _) HLB.out (by simp; omega) ?_; intro out2 w4 hown2 hgr2)
      have hgr4 := grown_below HOW.out hgr2 (Nat.le_refl _) (by simp; omega) (HG.out.trans ((hgb1.alloc _).alloc _))
      have hown3 := ((hgb1.alloc (.cells #[.int .i64 t, .int .i64 o1, .int .i64 d1, .int .i64 a1', .int .i64 b1] 27)).alloc (.cells #[.slice (some ⟨wr.heap.size + 1, 0, none⟩) 1 1] 31)).owns HOW.out
      have hnew : EdBox w4 ⟨some ⟨wr.heap.size + 1, 0, none⟩, 1, 1, [⟨t, ⟨o1, d1, a1', b1⟩⟩]⟩ := by
        refine EdBox.kept ⟨_, ⟨t, ⟨o1, d1, a1', b1⟩⟩, rfl, ?_⟩ hown3 hgr2
        exact ((Grow.refl _).alloc _).blk (heap_two1 wr _ _)
      have hold : ∀ t ∈ L, EdBox w4 t := fun t ht => EdBox.kept ((HIN.out t ht).grow ((hgb1.alloc _).alloc _)) hown3 hgr2
      have HG4 := Lib.hid (show Grow w3 w4 from hgr4)
      have HO2 := Lib.hid hown2
      have HNEW := Lib.hid hnew
      have HOLD := Lib.hid hold
      clear hown2 hgr2 hgr4 hnew hold hown3
      go_roundw
      case rel => exact ⟨k + 1, L ++ [⟨some ⟨wr.heap.size + 1, 0, none⟩, 1, 1, [⟨t, ⟨o1, d1, a1', b1⟩⟩]⟩], by omega, by go_num, HG4.out, by rw [HTK.out, List.map_append, HM.out]; rfl, by
        intro u hu
        rcases List.mem_append.1 hu with hu | hu
        · exact HOLD.out u hu
        · simp at hu; subst hu; exact HNEW.out, HO2.out⟩
      case measure => simp [intOf]; omega
    · have hkn : k = E.length := by omega
      have hm := HM.out
      rw [hkn, List.take_length] at hm
      have HM2 := Lib.hid hm
      have hs := slc_of_owns encW_len HOW.out
      have HLS := Lib.hid (ListsAt.mk hs fun t ht => (HIN.out t ht).edits)
      obtain ⟨oa, oc, rfl, _⟩ := hs
      clear hm hkn hLk
      go_wp2_with fail
      refine smallest_any p L _ _ _ (HP.out.grow (HG3.out.trans HG.out)) HLS.out _ ?_ ?_
      · intro h0 w5 hg5
        have hE0 : E = [] := by
          have := HM2.out
          rw [h0] at this
          have := congrArg List.length this
          simp at this
          exact List.length_eq_zero_iff.1 this.symm
        have HF := Lib.hid (HR0.out hE0 w5 (HG3.out.trans (HG.out.trans hg5)))
        clear hg5 h0 hE0
        go_wp2_with fail
        exact HF.out
      · intro w5 j u hg5 hu hfm
        have hEu : ∃ e, E[j]? = some e ∧ u.x = [e] := by
          have h1 : (L.map Lst.x)[j]? = some u.x := by rw [List.getElem?_map, hu]; rfl
          rw [HM2.out, List.getElem?_map] at h1
          cases hj : E[j]? with
          | none => rw [hj] at h1; cases h1
          | some e => rw [hj] at h1; exact ⟨e, rfl, (Option.some.inj h1).symm⟩
        obtain ⟨e, he, hue⟩ := hEu
        have hmap : (L.map fun t => sizeE p t.x) = E.map (size1 p) := by
          have := congrArg (List.map (sizeE p)) HM2.out
          rw [List.map_map, List.map_map] at this
          exact this
        rw [hmap, hue] at hfm
        have hI := (HIN.out u (List.mem_of_getElem? hu)).edits
        rw [hue] at hI
        have HF := Lib.hid (HR1.out w5 u.v j e (HG3.out.trans (HG.out.trans hg5)) he hfm (hI.grow hg5))
        obtain ⟨ua, un, uc, ux⟩ := u
        dsimp only [Lst.v] at HF ⊢
        clear hg5 hu hfm he hue hmap hI
        go_wp2_with fail
        exact HF.out

/-- What Single answers. -/
def SnglP (p : List Ln) (ts : List Tst) (kind : Int) (e : Ed) (ok : Bool) : Prop :=
  (ok = false ∧ e = ⟨0, ⟨0, 0, 0, 0⟩⟩ ∧ (sgtE p ts kind ≠ 0 ∨ everyN p ts (candAt p kind) p.length = [])) ∨
  (ok = true ∧ sgtE p ts kind = 0 ∧ ∃ j, (everyN p ts (candAt p kind) p.length)[j]? = some e ∧ FirstMin ((everyN p ts (candAt p kind) p.length).map (size1 p)) j (size1 p e))
theorem SnglP.uniq {p : List Ln} {ts : List Tst} {kind : Int} {e e' : Ed} {ok ok' : Bool} (h : SnglP p ts kind e ok) (h' : SnglP p ts kind e' ok') : e = e' ∧ ok = ok' := by
  rcases h with ⟨rfl, rfl, h1⟩ | ⟨rfl, h1, j, h2, h3⟩ <;> rcases h' with ⟨rfl, rfl, g1⟩ | ⟨rfl, g1, j', g2, g3⟩
  · exact ⟨rfl, rfl⟩
  · rcases h1 with h1 | h1
    · exact absurd g1 h1
    · rw [h1] at g2; simp at g2
  · rcases g1 with g1 | g1
    · exact absurd h1 g1
    · rw [g1] at h2; simp at h2
  · obtain ⟨rfl, _⟩ := h3.uniq g3
    rw [h2] at g2
    exact ⟨Option.some.inj g2, rfl⟩
theorem below_set5 {B : Nat} {a w : World} {g : Nat} (h : Below B a w) (hg : B ≤ g) (o0 o1 o2 o3 o4 : Nat) (v0 v1 v2 v3 v4 : Value) : Below B a (((((w.setCell ⟨g, o0, none⟩ v0).setCell ⟨g, o1, none⟩ v1).setCell ⟨g, o2, none⟩ v2).setCell ⟨g, o3, none⟩ v3).setCell ⟨g, o4, none⟩ v4) :=
  Below.setCell (Below.setCell (Below.setCell (Below.setCell (Below.setCell h hg _) hg _) hg _) hg _) hg _

set_option maxRecDepth 100000 in
set_option maxHeartbeats 16000000 in
theorem Single_any (p : List Ln) (ts : List Tst) (kind : Int) (pv tv : Value) (w : World) (hp : LinesAt w pv p) (ht : TestsAt w tv ts) (R : Ending → World → Prop)
    (hR : ∀ w' e ok, Grow w w' → SnglP p ts kind e ok → R (.returned (.tuple #[.agg #[.int .i64 e.at_, .int .i64 e.l.op, .int .i64 e.l.d, .int .i64 e.l.a, .int .i64 e.l.b], .bool ok, .int .i64 (sgtE p ts kind)])) w') :
    Calls Tryz.prog 40 #[pv, tv, .int .i64 kind] w R := by
  have HP := Lib.hid hp
  have HT := Lib.hid ht
  have HR := Lib.hid hR
  obtain ⟨e, he⟩ : ∃ e, sgtE p ts kind = e := ⟨_, rfl⟩
  have hok := fun h : e = 0 => sgtE_ok.1 (he.trans h)
  rw [he] at HR
  have HE := Lib.hid he
  obtain ⟨pa, pc, rfl, r1, r2, _⟩ := hp
  obtain ⟨⟨ta, tc, rfl, _⟩, _⟩ := ht
  have HB := Lib.hid (heap_alloc_new w (.cells #[.int .i64 0, .int .i64 0, .int .i64 0, .int .i64 0, .int .i64 0] 27))
  have HG := Lib.hid ((Grow.refl w).alloc (.cells #[.int .i64 0, .int .i64 0, .int .i64 0, .int .i64 0, .int .i64 0] 27))
  clear hR he
  by_cases z1 : e = 0
  rotate_left
  · have HS := Lib.hid (show SnglP p ts kind ⟨0, ⟨0, 0, 0, 0⟩⟩ false from .inl ⟨rfl, rfl, .inl (by rw [HE.out]; exact z1)⟩)
    have t1 : (e != 0) = true := by simpa using z1
    clear hok z1
    go_enter Tryz.func40, Tryz.ntmps40
    go_wp2_with fail
    refine kinded_any p ts kind _ _ _ (HP.out.grow HG.out) (HT.out.grow HG.out) _ ?_
    intro w1 hg1
    rw [HE.out]
    have hb := hg1.blk HB.out
    obtain ⟨c0, c1, c2, c3, c4⟩ := box5 hb
    have z0 := frz hb 0
    have z1 := frz hb 1
    have z2 := frz hb 2
    have z3 := frz hb 3
    have z4 := frz hb 4
    have hz := lt_of_block hb
    have HG1 := Lib.hid (HG.out.trans hg1)
    clear hg1 hb
    go_wp2_with fail
    refine bodyPost_ret (v := .tuple #[.agg #[.int .i64 0, .int .i64 0, .int .i64 0, .int .i64 0, .int .i64 0], .bool false, .int .i64 e]) (by simp [results, Tryz.results40, go_sem, c0, c1, c2, c3, c4]) rfl (HR.out _ ⟨0, ⟨0, 0, 0, 0⟩⟩ false (below_set5 HG1.out (Nat.le_refl _) 0 1 2 3 4 _ _ _ _ _) HS.out)
  obtain ⟨⟨hv, hvt⟩, ⟨k0, k2⟩, _⟩ := hok z1
  subst z1
  have hp8 := (valP_ok.1 hv).1
  have HV := Lib.hid hv
  have HCL := Lib.hid (candAt_len hv k0 k2)
  clear hok hv hvt
  have hk : kind = 0 ∨ kind = 1 ∨ kind = 2 := by omega
  clear k0 k2
  rcases hk with rfl | rfl | rfl
  · skip
    go_enter Tryz.func40, Tryz.ntmps40
    go_wp2_with fail
    refine kinded_any p ts 0 _ _ _ (HP.out.grow HG.out) (HT.out.grow HG.out) _ ?_
    intro w1 hg1
    rw [HE.out]
    have HB1 := Lib.hid (hg1.blk HB.out)
    have HG1 := Lib.hid (HG.out.trans hg1)
    clear hg1
    go_wp2_with fail
    refine sources_any _ _ ?_
    go_wp2_with fail
    refine single_any p ts (.iface 137 (.agg #[])) (candAt p 0) _ _ _ (HP.out.grow (HG1.out.alloc _)) (HT.out.grow (HG1.out.alloc _)) hp8 HCL.out (fun n W hn hW R' hR' => cand0_at p _ n W HV.out hn hW R' hR') _ ?_ ?_
    · intro hE w3 hg3
      have HS := Lib.hid (show SnglP p ts 0 ⟨0, ⟨0, 0, 0, 0⟩⟩ false from .inl ⟨rfl, rfl, .inr hE⟩)
      have hb := (((Grow.refl w1).alloc _).trans hg3).blk HB1.out
      obtain ⟨c0, c1, c2, c3, c4⟩ := box5 hb
      have z0 := frz hb 0
      have z1 := frz hb 1
      have z2 := frz hb 2
      have z3 := frz hb 3
      have z4 := frz hb 4
      have hz := lt_of_block hb
      have HG3 := Lib.hid ((HG1.out.alloc _).trans hg3)
      clear hg3 hb hE
      go_wp2_with fail
      refine bodyPost_ret (v := .tuple #[.agg #[.int .i64 0, .int .i64 0, .int .i64 0, .int .i64 0, .int .i64 0], .bool false, .int .i64 0]) (by simp [results, Tryz.results40, go_sem, c0, c1, c2, c3, c4]) rfl (HR.out _ ⟨0, ⟨0, 0, 0, 0⟩⟩ false (below_set5 HG3.out (Nat.le_refl _) 0 1 2 3 4 _ _ _ _ _) HS.out)
    · intro w3 v3 j ed hg3 hj hfm hv3
      have HS := Lib.hid (show SnglP p ts 0 ed true from .inr ⟨rfl, HE.out, j, hj, hfm⟩)
      obtain ⟨t, o1, d1, a1, b1⟩ := ed
      have hv4 := hv3
      obtain ⟨a3, cq, rfl, s1, s2, _⟩ := hv4
      obtain ⟨gb, o, rfl, hgb, y0, y1, y2, y3, y4⟩ := edits_at (k := 0) hv3 rfl
      simp only [Nat.zero_mul, Nat.add_zero] at y0 y1 y2 y3 y4
      dsimp only [List.length] at s1 ⊢
      have hb := (((Grow.refl w1).alloc _).trans hg3).blk HB1.out
      obtain ⟨c0, c1, c2, c3, c4⟩ := box5 hb
      have z0 := frz hb 0
      have z1 := frz hb 1
      have z2 := frz hb 2
      have z3 := frz hb 3
      have z4 := frz hb 4
      have hz := lt_of_block hb
      have HG3 := Lib.hid ((HG1.out.alloc _).trans hg3)
      clear hg3 hb hj hfm hv3
      go_wp2_with fail
      refine bodyPost_ret (v := .tuple #[.agg #[.int .i64 t, .int .i64 o1, .int .i64 d1, .int .i64 a1, .int .i64 b1], .bool true, .int .i64 0]) (by simp [results, Tryz.results40, go_sem, c0, c1, c2, c3, c4]) rfl (HR.out _ ⟨t, ⟨o1, d1, a1, b1⟩⟩ true (below_set5 HG3.out (Nat.le_refl _) 0 1 2 3 4 _ _ _ _ _) HS.out)
  · skip
    go_enter Tryz.func40, Tryz.ntmps40
    go_wp2_with fail
    refine kinded_any p ts 1 _ _ _ (HP.out.grow HG.out) (HT.out.grow HG.out) _ ?_
    intro w1 hg1
    rw [HE.out]
    have HB1 := Lib.hid (hg1.blk HB.out)
    have HG1 := Lib.hid (HG.out.trans hg1)
    clear hg1
    go_wp2_with fail
    refine sources_any _ _ ?_
    go_wp2_with fail
    refine single_any p ts (.iface 138 (.agg #[])) (candAt p 1) _ _ _ (HP.out.grow (HG1.out.alloc _)) (HT.out.grow (HG1.out.alloc _)) hp8 HCL.out (fun n W hn hW R' hR' => cand1_at p _ n W HV.out hn hW R' hR') _ ?_ ?_
    · intro hE w3 hg3
      have HS := Lib.hid (show SnglP p ts 1 ⟨0, ⟨0, 0, 0, 0⟩⟩ false from .inl ⟨rfl, rfl, .inr hE⟩)
      have hb := (((Grow.refl w1).alloc _).trans hg3).blk HB1.out
      obtain ⟨c0, c1, c2, c3, c4⟩ := box5 hb
      have z0 := frz hb 0
      have z1 := frz hb 1
      have z2 := frz hb 2
      have z3 := frz hb 3
      have z4 := frz hb 4
      have hz := lt_of_block hb
      have HG3 := Lib.hid ((HG1.out.alloc _).trans hg3)
      clear hg3 hb hE
      go_wp2_with fail
      refine bodyPost_ret (v := .tuple #[.agg #[.int .i64 0, .int .i64 0, .int .i64 0, .int .i64 0, .int .i64 0], .bool false, .int .i64 0]) (by simp [results, Tryz.results40, go_sem, c0, c1, c2, c3, c4]) rfl (HR.out _ ⟨0, ⟨0, 0, 0, 0⟩⟩ false (below_set5 HG3.out (Nat.le_refl _) 0 1 2 3 4 _ _ _ _ _) HS.out)
    · intro w3 v3 j ed hg3 hj hfm hv3
      have HS := Lib.hid (show SnglP p ts 1 ed true from .inr ⟨rfl, HE.out, j, hj, hfm⟩)
      obtain ⟨t, o1, d1, a1, b1⟩ := ed
      have hv4 := hv3
      obtain ⟨a3, cq, rfl, s1, s2, _⟩ := hv4
      obtain ⟨gb, o, rfl, hgb, y0, y1, y2, y3, y4⟩ := edits_at (k := 0) hv3 rfl
      simp only [Nat.zero_mul, Nat.add_zero] at y0 y1 y2 y3 y4
      dsimp only [List.length] at s1 ⊢
      have hb := (((Grow.refl w1).alloc _).trans hg3).blk HB1.out
      obtain ⟨c0, c1, c2, c3, c4⟩ := box5 hb
      have z0 := frz hb 0
      have z1 := frz hb 1
      have z2 := frz hb 2
      have z3 := frz hb 3
      have z4 := frz hb 4
      have hz := lt_of_block hb
      have HG3 := Lib.hid ((HG1.out.alloc _).trans hg3)
      clear hg3 hb hj hfm hv3
      go_wp2_with fail
      refine bodyPost_ret (v := .tuple #[.agg #[.int .i64 t, .int .i64 o1, .int .i64 d1, .int .i64 a1, .int .i64 b1], .bool true, .int .i64 0]) (by simp [results, Tryz.results40, go_sem, c0, c1, c2, c3, c4]) rfl (HR.out _ ⟨t, ⟨o1, d1, a1, b1⟩⟩ true (below_set5 HG3.out (Nat.le_refl _) 0 1 2 3 4 _ _ _ _ _) HS.out)
  · skip
    go_enter Tryz.func40, Tryz.ntmps40
    go_wp2_with fail
    refine kinded_any p ts 2 _ _ _ (HP.out.grow HG.out) (HT.out.grow HG.out) _ ?_
    intro w1 hg1
    rw [HE.out]
    have HB1 := Lib.hid (hg1.blk HB.out)
    have HG1 := Lib.hid (HG.out.trans hg1)
    clear hg1
    go_wp2_with fail
    refine sources_any _ _ ?_
    go_wp2_with fail
    refine single_any p ts (.iface 139 (.agg #[])) (candAt p 2) _ _ _ (HP.out.grow (HG1.out.alloc _)) (HT.out.grow (HG1.out.alloc _)) hp8 HCL.out (fun n W hn hW R' hR' => cand2_at p _ n W HV.out hn hW R' hR') _ ?_ ?_
    · intro hE w3 hg3
      have HS := Lib.hid (show SnglP p ts 2 ⟨0, ⟨0, 0, 0, 0⟩⟩ false from .inl ⟨rfl, rfl, .inr hE⟩)
      have hb := (((Grow.refl w1).alloc _).trans hg3).blk HB1.out
      obtain ⟨c0, c1, c2, c3, c4⟩ := box5 hb
      have z0 := frz hb 0
      have z1 := frz hb 1
      have z2 := frz hb 2
      have z3 := frz hb 3
      have z4 := frz hb 4
      have hz := lt_of_block hb
      have HG3 := Lib.hid ((HG1.out.alloc _).trans hg3)
      clear hg3 hb hE
      go_wp2_with fail
      refine bodyPost_ret (v := .tuple #[.agg #[.int .i64 0, .int .i64 0, .int .i64 0, .int .i64 0, .int .i64 0], .bool false, .int .i64 0]) (by simp [results, Tryz.results40, go_sem, c0, c1, c2, c3, c4]) rfl (HR.out _ ⟨0, ⟨0, 0, 0, 0⟩⟩ false (below_set5 HG3.out (Nat.le_refl _) 0 1 2 3 4 _ _ _ _ _) HS.out)
    · intro w3 v3 j ed hg3 hj hfm hv3
      have HS := Lib.hid (show SnglP p ts 2 ed true from .inr ⟨rfl, HE.out, j, hj, hfm⟩)
      obtain ⟨t, o1, d1, a1, b1⟩ := ed
      have hv4 := hv3
      obtain ⟨a3, cq, rfl, s1, s2, _⟩ := hv4
      obtain ⟨gb, o, rfl, hgb, y0, y1, y2, y3, y4⟩ := edits_at (k := 0) hv3 rfl
      simp only [Nat.zero_mul, Nat.add_zero] at y0 y1 y2 y3 y4
      dsimp only [List.length] at s1 ⊢
      have hb := (((Grow.refl w1).alloc _).trans hg3).blk HB1.out
      obtain ⟨c0, c1, c2, c3, c4⟩ := box5 hb
      have z0 := frz hb 0
      have z1 := frz hb 1
      have z2 := frz hb 2
      have z3 := frz hb 3
      have z4 := frz hb 4
      have hz := lt_of_block hb
      have HG3 := Lib.hid ((HG1.out.alloc _).trans hg3)
      clear hg3 hb hj hfm hv3
      go_wp2_with fail
      refine bodyPost_ret (v := .tuple #[.agg #[.int .i64 t, .int .i64 o1, .int .i64 d1, .int .i64 a1, .int .i64 b1], .bool true, .int .i64 0]) (by simp [results, Tryz.results40, go_sem, c0, c1, c2, c3, c4]) rfl (HR.out _ ⟨t, ⟨o1, d1, a1, b1⟩⟩ true (below_set5 HG3.out (Nat.le_refl _) 0 1 2 3 4 _ _ _ _ _) HS.out)
end Go.Proofs.YtbccbokjecdaaaaGreat

namespace Go.Proofs.YtbccbokjecdaaaaGreat
open Go.RowKit

/-- The world has only grown, and drawn. -/
def Gw (w X : World) : Prop := ∃ (q : Nat) (os : Array Obj), X = Go.Sort.grow (w.drewN q) os
theorem drewN_grow (w : World) (os : Array Obj) : ∀ q, (Go.Sort.grow w os).drewN q = Go.Sort.grow (w.drewN q) os := fun _ => rfl
theorem Gw.refl (w : World) : Gw w w := ⟨0, #[], by simp [Go.Sort.grow]; rfl⟩
theorem drewN_add (w : World) (a b : Nat) : (w.drewN a).drewN b = w.drewN (a + b) := by
  show ({ w with drawn := w.drawn + a + b } : World) = { w with drawn := w.drawn + (a + b) }
  rw [Nat.add_assoc]
theorem Gw.trans {w X Y : World} (h : Gw w X) (k : Gw X Y) : Gw w Y := by
  obtain ⟨a, os, rfl⟩ := h
  obtain ⟨b, os', rfl⟩ := k
  exact ⟨a + b, os ++ os', by rw [drewN_grow, Go.Sort.grow_grow, drewN_add]⟩
theorem Gw.drew (w : World) : Gw w w.drew := ⟨1, #[], by simp [Go.Sort.grow]; rfl⟩
theorem Gw.alloc (w : World) (o : Obj) : Gw w (w.alloc o) := by
  refine ⟨0, #[o], ?_⟩
  rw [Go.Sort.alloc_eq_grow]; rfl
theorem Gw.g {w X : World} (h : Gw w X) : Grow w X := by
  obtain ⟨q, os, rfl⟩ := h
  exact below_growS os ((Grow.refl w).drewN q) (by show w.heap.size ≤ w.heap.size; omega)

theorem keep10 {X Y : World} {a0 a1 a2 a3 a4 a5 a6 a7 a8 a9 : Addr} {v0 v1 v2 v3 v4 v5 v6 v7 v8 v9 : Value} (g : Grow X Y) (h : X.cell? a0 = some v0 ∧ X.cell? a1 = some v1 ∧ X.cell? a2 = some v2 ∧ X.cell? a3 = some v3 ∧ X.cell? a4 = some v4 ∧ X.cell? a5 = some v5 ∧ X.cell? a6 = some v6 ∧ X.cell? a7 = some v7 ∧ X.cell? a8 = some v8 ∧ X.cell? a9 = some v9) : Y.cell? a0 = some v0 ∧ Y.cell? a1 = some v1 ∧ Y.cell? a2 = some v2 ∧ Y.cell? a3 = some v3 ∧ Y.cell? a4 = some v4 ∧ Y.cell? a5 = some v5 ∧ Y.cell? a6 = some v6 ∧ Y.cell? a7 = some v7 ∧ Y.cell? a8 = some v8 ∧ Y.cell? a9 = some v9 :=
  ⟨g.cell h.1, g.cell h.2.1, g.cell h.2.2.1, g.cell h.2.2.2.1, g.cell h.2.2.2.2.1, g.cell h.2.2.2.2.2.1, g.cell h.2.2.2.2.2.2.1, g.cell h.2.2.2.2.2.2.2.1, g.cell h.2.2.2.2.2.2.2.2.1, g.cell h.2.2.2.2.2.2.2.2.2⟩
set_option maxRecDepth 100000 in
set_option maxHeartbeats 8000000 in
theorem compareEdits_any (t op d a b t' op' d' a' b' : Int) (w : World) (R : Ending → World → Prop) (hR : ∀ w' : World, Gw w w' → R (.returned (.int .i64 (cmpE ⟨t, ⟨op, d, a, b⟩⟩ ⟨t', ⟨op', d', a', b'⟩⟩))) w') :
    Calls Tryz.prog 99 #[.agg #[.int .i64 t, .int .i64 op, .int .i64 d, .int .i64 a, .int .i64 b], .agg #[.int .i64 t', .int .i64 op', .int .i64 d', .int .i64 a', .int .i64 b']] w R := by
  have HR := Lib.hid hR
  have hc : cmpE ⟨t, ⟨op, d, a, b⟩⟩ ⟨t', ⟨op', d', a', b'⟩⟩ = orI [cmpI t t', cmpL ⟨op, d, a, b⟩ ⟨op', d', a', b'⟩] := rfl
  rw [hc] at HR
  obtain ⟨c0, h0⟩ : ∃ c, cmpI t t' = c := ⟨_, rfl⟩
  obtain ⟨c1, h1⟩ : ∃ c, cmpL ⟨op, d, a, b⟩ ⟨op', d', a', b'⟩ = c := ⟨_, rfl⟩
  rw [h0, h1] at HR
  have H0 := Lib.hid h0
  have H1 := Lib.hid h1
  clear hR hc h0 h1
  go_enter Tryz.func99, Tryz.ntmps99
  go_wp2_with fail
  have hb0 := heap_two0 w (.cells #[.int .i64 t, .int .i64 op, .int .i64 d, .int .i64 a, .int .i64 b] 27) (.cells #[.int .i64 t', .int .i64 op', .int .i64 d', .int .i64 a', .int .i64 b'] 27)
  have hb1 := heap_two1 w (.cells #[.int .i64 t, .int .i64 op, .int .i64 d, .int .i64 a, .int .i64 b] 27) (.cells #[.int .i64 t', .int .i64 op', .int .i64 d', .int .i64 a', .int .i64 b'] 27)
  have hg : Gw w ((w.alloc (.cells #[.int .i64 t, .int .i64 op, .int .i64 d, .int .i64 a, .int .i64 b] 27)).alloc (.cells #[.int .i64 t', .int .i64 op', .int .i64 d', .int .i64 a', .int .i64 b'] 27)) := (Gw.alloc _ _).trans (Gw.alloc _ _)
  have hsz : ((w.alloc (.cells #[.int .i64 t, .int .i64 op, .int .i64 d, .int .i64 a, .int .i64 b] 27)).alloc (.cells #[.int .i64 t', .int .i64 op', .int .i64 d', .int .i64 a', .int .i64 b'] 27)).heap.size = w.heap.size + 2 := by simp
  generalize (w.alloc (.cells #[.int .i64 t, .int .i64 op, .int .i64 d, .int .i64 a, .int .i64 b] 27)).alloc (.cells #[.int .i64 t', .int .i64 op', .int .i64 d', .int .i64 a', .int .i64 b'] 27) = W at hb0 hb1 hg hsz ⊢
  obtain ⟨e0, e1, e2, e3, e4⟩ := box5 hb0
  obtain ⟨f0, f1, f2, f3, f4⟩ := box5 hb1
  have hz : w.heap.size + 1 < W.heap.size := by omega
  have HG := Lib.hid hg
  clear hb0 hb1 hg
  refine wp_region_held_drew (S := fun X => (X.cell? ⟨w.heap.size, 0, none⟩ = some (.int .i64 t) ∧ X.cell? ⟨w.heap.size, 1, none⟩ = some (.int .i64 op) ∧ X.cell? ⟨w.heap.size, 2, none⟩ = some (.int .i64 d) ∧ X.cell? ⟨w.heap.size, 3, none⟩ = some (.int .i64 a) ∧ X.cell? ⟨w.heap.size, 4, none⟩ = some (.int .i64 b) ∧ X.cell? ⟨w.heap.size + 1, 0, none⟩ = some (.int .i64 t') ∧ X.cell? ⟨w.heap.size + 1, 1, none⟩ = some (.int .i64 op') ∧ X.cell? ⟨w.heap.size + 1, 2, none⟩ = some (.int .i64 d') ∧ X.cell? ⟨w.heap.size + 1, 3, none⟩ = some (.int .i64 a') ∧ X.cell? ⟨w.heap.size + 1, 4, none⟩ = some (.int .i64 b')) ∧ Gw W X) (by kernel_rfl) ⟨⟨e0, e1, e2, e3, e4, f0, f1, f2, f3, f4⟩, Gw.drew W⟩ (fun hH => ?_)
  refine wpAnyH_take (i := 0) (v := .pointer (some ⟨w.heap.size, 0, none⟩)) rfl (by kernel_rfl) (by kernel_rfl) (by kernel_rfl) (fun _ _ _ h => h) (Or.inl ⟨by rfl, ?_⟩) hH ?_
  · intro w9 hw9
    obtain ⟨⟨d0, d1, d2, d3, d4, d5, d6, d7, d8, d9⟩, dg⟩ := hw9
    go_simp
  simp only [List.getElem_toArray, List.getElem_cons_zero, Act.put, List.setIfInBounds_toArray, List.set_cons_zero, List.set_cons_succ]
  refine wpAnyH_take (i := 1) (v := .int .i64 t) rfl (by kernel_rfl) (by kernel_rfl) (by kernel_rfl) (fun _ _ _ h => h) (Or.inl ⟨by rfl, ?_⟩) hH ?_
  · intro w9 hw9
    obtain ⟨⟨d0, d1, d2, d3, d4, d5, d6, d7, d8, d9⟩, dg⟩ := hw9
    go_simp
  simp only [List.getElem_toArray, List.getElem_cons_succ, List.getElem_cons_zero, Act.put, List.setIfInBounds_toArray, List.set_cons_zero, List.set_cons_succ]
  refine wpAnyH_take (i := 2) (v := .pointer (some ⟨w.heap.size + 1, 0, none⟩)) rfl (by kernel_rfl) (by kernel_rfl) (by kernel_rfl) (fun _ _ _ h => h) (Or.inl ⟨by rfl, ?_⟩) hH ?_
  · intro w9 hw9
    obtain ⟨⟨d0, d1, d2, d3, d4, d5, d6, d7, d8, d9⟩, dg⟩ := hw9
    go_simp
  simp only [List.getElem_toArray, List.getElem_cons_succ, List.getElem_cons_zero, Act.put, List.setIfInBounds_toArray, List.set_cons_zero, List.set_cons_succ]
  refine wpAnyH_take (i := 3) (v := .int .i64 t') rfl (by kernel_rfl) (by kernel_rfl) (by kernel_rfl) (fun _ _ _ h => h) (Or.inl ⟨by rfl, ?_⟩) hH ?_
  · intro w9 hw9
    obtain ⟨⟨d0, d1, d2, d3, d4, d5, d6, d7, d8, d9⟩, dg⟩ := hw9
    go_simp
  simp only [List.getElem_toArray, List.getElem_cons_succ, List.getElem_cons_zero, Act.put, List.setIfInBounds_toArray, List.set_cons_zero, List.set_cons_succ]
  refine wpAnyH_take (i := 5) (v := .pointer (some ⟨w.heap.size, 1, none⟩)) rfl (by kernel_rfl) (by kernel_rfl) (by kernel_rfl) (fun _ _ _ h => h) (Or.inl ⟨by rfl, ?_⟩) hH ?_
  · intro w9 hw9
    obtain ⟨⟨d0, d1, d2, d3, d4, d5, d6, d7, d8, d9⟩, dg⟩ := hw9
    go_simp
  simp only [List.getElem_toArray, List.getElem_cons_succ, List.getElem_cons_zero, Act.put, List.setIfInBounds_toArray, List.set_cons_zero, List.set_cons_succ]
  refine wpAnyH_take (i := 6) (v := .agg #[.int .i64 op, .int .i64 d, .int .i64 a, .int .i64 b]) rfl (by kernel_rfl) (by kernel_rfl) (by kernel_rfl) (fun _ _ _ h => h) (Or.inl ⟨by rfl, ?_⟩) hH ?_
  · intro w9 hw9
    obtain ⟨⟨d0, d1, d2, d3, d4, d5, d6, d7, d8, d9⟩, dg⟩ := hw9
    go_simp
  simp only [List.getElem_toArray, List.getElem_cons_succ, List.getElem_cons_zero, Act.put, List.setIfInBounds_toArray, List.set_cons_zero, List.set_cons_succ]
  refine wpAnyH_take (i := 7) (v := .pointer (some ⟨w.heap.size + 1, 1, none⟩)) rfl (by kernel_rfl) (by kernel_rfl) (by kernel_rfl) (fun _ _ _ h => h) (Or.inl ⟨by rfl, ?_⟩) hH ?_
  · intro w9 hw9
    obtain ⟨⟨d0, d1, d2, d3, d4, d5, d6, d7, d8, d9⟩, dg⟩ := hw9
    go_simp
  simp only [List.getElem_toArray, List.getElem_cons_succ, List.getElem_cons_zero, Act.put, List.setIfInBounds_toArray, List.set_cons_zero, List.set_cons_succ]
  refine wpAnyH_take (i := 8) (v := .agg #[.int .i64 op', .int .i64 d', .int .i64 a', .int .i64 b']) rfl (by kernel_rfl) (by kernel_rfl) (by kernel_rfl) (fun _ _ _ h => h) (Or.inl ⟨by rfl, ?_⟩) hH ?_
  · intro w9 hw9
    obtain ⟨⟨d0, d1, d2, d3, d4, d5, d6, d7, d8, d9⟩, dg⟩ := hw9
    go_simp
  simp only [List.getElem_toArray, List.getElem_cons_succ, List.getElem_cons_zero, Act.put, List.setIfInBounds_toArray, List.set_cons_zero, List.set_cons_succ]
  refine wpAnyH_ready (rs := [4]) (by kernel_rfl) (by simp) ?_
  refine AllReadyH.cons rfl (fun K hK => ?_) AllReadyH.nil
  go_simp
  refine cmpI_any _ _ _ _ ?_
  rw [H0.out]
  go_wp2_with fail
  refine hK.out _ _ hH (fun hH2 => ?_)
  clear hK K hH
  have hH := hH2
  clear hH2
  refine wpAnyH_ready (rs := [9]) (by kernel_rfl) (by simp) ?_
  refine AllReadyH.cons rfl (fun K hK => ?_) AllReadyH.nil
  go_simp
  refine compare_any _ _ _ _ _ _ _ _ _ _ ?_
  intro w8 hg8
  rw [H1.out]
  have hg9 : Gw _ w8 := hg8
  go_wp2_with fail
  refine hK.out _ _ ⟨(keep10 (Gw.g hg9) hH.1), hH.2.trans hg9⟩ (fun hH2 => ?_)
  clear hK K hH
  have hH := hH2
  clear hH2
  refine wpAnyH_ready (rs := [10]) (by kernel_rfl) (by simp) ?_
  refine AllReadyH.cons rfl (fun K hK => ?_) AllReadyH.nil
  go_simp
  refine hK.out _ _ ⟨(keep10 (Gw.g (Gw.alloc _ _)) hH.1), hH.2.trans (Gw.alloc _ _)⟩ (fun hH2 => ?_)
  clear hK K hH
  have hH := hH2
  clear hH2
  refine wpAnyH_ready (rs := [11]) (by kernel_rfl) (by simp) ?_
  refine AllReadyH.cons rfl (fun K hK => ?_) AllReadyH.nil
  go_simp
  refine orI_any [c0, c1] _ _ ?_ _ ?_
  · exact slc_of_owns encI_len (xs := [c0, c1]) (World.ownsRow_lit w8 #[.int .i64 c0, .int .i64 c1] 2 (Nat.le_refl _) (by simp [maxLen]) rfl)
  go_wp2_with fail
  refine hK.out _ _ hH (fun hH2 => ?_)
  clear hK K hH
  have hH := hH2
  clear hH2
  refine wpAnyH_take (i := 12) (v := .int .i64 (orI [c0, c1])) rfl (by kernel_rfl) (by kernel_rfl) (by kernel_rfl) (fun _ _ _ h => h) (Or.inl ⟨by rfl, ?_⟩) hH ?_
  · intro w9 hw9
    obtain ⟨⟨d0, d1, d2, d3, d4, d5, d6, d7, d8, d9⟩, dg⟩ := hw9
    go_simp
  simp only [List.getElem_toArray, List.getElem_cons_succ, List.getElem_cons_zero, Act.put, List.setIfInBounds_toArray, List.set_cons_zero, List.set_cons_succ]
  refine wpAnyH_done (by kernel_rfl) ?_ _
  have HF := Lib.hid (HR.out _ (HG.out.trans hH.2))
  go_wp2_with fail
  exact HF.out
end Go.Proofs.YtbccbokjecdaaaaGreat

namespace Go.Proofs.YtbccbokjecdaaaaGreat
open Go.RowKit

/-- The mutants at the first places. -/
def mutM (p : List Ln) (k : Nat) : List Ed := (List.range k).flatMap fun n : Nat => (tmpl (lineAt p n)).map (Ed.mk n)
theorem mutM_succ (p : List Ln) (k : Nat) : mutM p (k + 1) = mutM p k ++ (tmpl (lineAt p k)).map (Ed.mk k) := by
  unfold mutM
  rw [List.range_succ, List.flatMap_append]
  simp
theorem tmpl_asc (l : Ln) : (tmpl l).Pairwise ltP := by
  unfold tmpl
  split
  · exact List.Pairwise.nil
  · exact (ordL_is _).1
theorem mem_mutM {p : List Ln} {k : Nat} {e : Ed} : e ∈ mutM p k ↔ ∃ n x, n < k ∧ e = ⟨((n : Nat) : Int), x⟩ ∧ x ∈ tmpl (lineAt p n) := by
  unfold mutM
  rw [List.mem_flatMap]
  constructor
  · rintro ⟨n, hn, he⟩
    obtain ⟨x, hx, rfl⟩ := List.mem_map.1 he
    exact ⟨n, x, List.mem_range.1 hn, rfl, hx⟩
  · rintro ⟨n, x, hn, rfl, hx⟩
    exact ⟨n, List.mem_range.2 hn, List.mem_map.2 ⟨x, hx, rfl⟩⟩
theorem mutM_asc (p : List Ln) : ∀ k, (mutM p k).Pairwise ltE
  | 0 => List.Pairwise.nil
  | k + 1 => by
    rw [mutM_succ, List.pairwise_append]
    refine ⟨mutM_asc p k, ?_, ?_⟩
    · rw [List.pairwise_map]
      exact (tmpl_asc _).imp fun {a b} h => .inr ⟨rfl, h⟩
    · intro a ha b hb
      obtain ⟨n, x, hn, rfl, _⟩ := mem_mutM.1 ha
      obtain ⟨y, _, rfl⟩ := List.mem_map.1 hb
      exact .inl (by dsimp only; omega)
theorem tmpl_len {l : Ln} (hl : l.ok = true) : (tmpl l).length ≤ 1000 := candL_len (p := []) (kind := 0) hl (by decide) (by decide)
theorem mutM_len {p : List Ln} (hp : valP p = 0) : ∀ k, k ≤ p.length → (mutM p k).length ≤ k * 1000
  | 0, _ => by simp [mutM]
  | k + 1, hk => by
    rw [mutM_succ, List.length_append, List.length_map]
    have := mutM_len hp k (by omega)
    have := tmpl_len (lineAt_ok (at_ := (k : Int)) hp (by omega) (by omega))
    omega
def mutO (p : List Ln) : List Ed := ifOK (valP p) (mutM p p.length)
end Go.Proofs.YtbccbokjecdaaaaGreat

namespace Go.Proofs.YtbccbokjecdaaaaGreat
open Go.RowKit

theorem tmpl_ok {l x : Ln} (h : x ∈ tmpl l) : x.ok = true := by
  unfold tmpl at h
  split at h
  · cases h
  · unfold validL at h
    rw [mem_ordL] at h
    have := (List.mem_filter.1 h).2
    simp at this
    exact this.2
theorem rawT_len (l : Ln) : (rawT l).length ≤ 20 := by
  have h1 : (fldL l.op).length ≤ 3 := by unfold fldL; split <;> (try split) <;> (try split) <;> (try split) <;> simp
  have h2 : ((fldL l.op).flatMap (fun k => [setF l k 0, setF l k 1, setF l k 2, setF l k 3])).length ≤ 12 := by
    rw [List.length_flatMap]
    have : ∀ xs : List Nat, ((xs.map fun k => [setF l k 0, setF l k 1, setF l k 2, setF l k 3].length).sum) = xs.length * 4 := by
      intro xs; induction xs with
      | nil => rfl
      | cons x r ih => rw [List.map_cons, List.sum_cons, ih, List.length_cons]; simp; omega
    rw [this]; omega
  unfold rawT
  rw [List.length_append, List.length_append, List.length_append]
  have h3 : (if 3 ≤ l.op then [(⟨l.op, l.d, l.b, l.a⟩ : Ln)] else []).length ≤ 1 := by split <;> simp
  have h4 : (if 3 ≤ l.op ∧ l.op ≤ 6 then [(⟨3, l.d, l.a, l.b⟩ : Ln), ⟨4, l.d, l.a, l.b⟩, ⟨5, l.d, l.a, l.b⟩, ⟨6, l.d, l.a, l.b⟩] else []).length ≤ 4 := by split <;> simp
  simp only [List.length_cons, List.length_nil]
  omega
theorem tmpl_short (l : Ln) : (tmpl l).length ≤ 20 := by
  unfold tmpl
  split
  · simp
  · unfold validL
    exact Nat.le_trans (ordL_len _) (Nat.le_trans (List.length_filter_le _ _) (rawT_len l))
theorem mutM_short (p : List Ln) : ∀ k, (mutM p k).length ≤ k * 20
  | 0 => by simp [mutM]
  | k + 1 => by
    rw [mutM_succ, List.length_append, List.length_map]
    have := mutM_short p k
    have := tmpl_short (lineAt p (k : Int))
    omega
end Go.Proofs.YtbccbokjecdaaaaGreat

namespace Go.Proofs.YtbccbokjecdaaaaGreat
open Go.RowKit

set_option maxHeartbeats 4000000 in
theorem r5sought_any (p : List Ln) (ts : List Tst) (kind : Int) (pv tv : Value) (w : World) (hp : LinesAt w pv p) (ht : TestsAt w tv ts) (R : Ending → World → Prop)
    (hR : ∀ w', Grow w w' → R (.returned (.int .i64 (sgtE p ts kind))) w') :
    Calls Tryz.prog 80 #[pv, tv, .int .i64 kind] w R := by
  have HP := Lib.hid hp
  have HT := Lib.hid ht
  have hc : sgtE p ts kind = if chkT p ts = 0 then (if inB kind 0 2 then (if ts.all (passM p) then 8 else 0) else 1) else chkT p ts := rfl
  rw [hc] at hR
  have HR := Lib.hid hR
  obtain ⟨e, he⟩ : ∃ e, chkT p ts = e := ⟨_, rfl⟩
  rw [he] at HR
  have hok := fun h : e = 0 => chkT_ok.1 (he.trans h)
  have HE := Lib.hid he
  obtain ⟨pa, pc, rfl, _⟩ := hp
  obtain ⟨⟨ta, tc, rfl, _⟩, _⟩ := ht
  clear hR hc he
  by_cases z1 : e = 0
  rotate_left
  · rw [if_neg z1] at HR
    have t1 : (e != 0) = true := by simpa using z1
    clear hok z1
    go_enter Tryz.func80, Tryz.ntmps80
    go_wp2_with fail
    refine r5tested_any p ts _ _ _ HP.out HT.out _ ?_
    intro w1 hg1
    rw [HE.out]
    have HG1 := Lib.hid hg1
    clear hg1
    go_wp2_with fail
    exact HR.out w1 HG1.out
  obtain ⟨hv, hvt⟩ := hok z1
  subst z1
  rw [if_pos rfl] at HR
  have HV := Lib.hid hv
  have HVT := Lib.hid hvt
  clear hok hv hvt
  by_cases k0 : kind < 0
  · rw [inB_false.2 (by omega), if_neg (by decide)] at HR
    go_enter Tryz.func80, Tryz.ntmps80
    go_wp2_with fail
    refine r5tested_any p ts _ _ _ HP.out HT.out _ ?_
    intro w1 hg1
    rw [HE.out]
    have HG1 := Lib.hid hg1
    clear hg1
    go_wp2_with fail
    exact HR.out w1 HG1.out
  by_cases k2 : 2 < kind
  · rw [inB_false.2 (by omega), if_neg (by decide)] at HR
    go_enter Tryz.func80, Tryz.ntmps80
    go_wp2_with fail
    refine r5tested_any p ts _ _ _ HP.out HT.out _ ?_
    intro w1 hg1
    rw [HE.out]
    have HG1 := Lib.hid hg1
    clear hg1
    go_wp2_with fail
    exact HR.out w1 HG1.out
  rw [inB_true.2 (by omega), if_pos rfl] at HR
  cases g : ts.all (passM p) with
  | true =>
    rw [g] at HR
    have H3 := Lib.hid g
    clear g
    go_enter Tryz.func80, Tryz.ntmps80
    go_wp2_with fail
    refine r5tested_any p ts _ _ _ HP.out HT.out _ ?_
    intro w1 hg1
    rw [HE.out]
    have HG1 := Lib.hid hg1
    clear hg1
    go_wp2_with fail
    refine r4PassesAll_any p ts _ _ _ (HP.out.grow HG1.out) (HT.out.grow HG1.out) HV.out HVT.out _ ?_
    intro w2 hg2
    rw [H3.out]
    have HF := Lib.hid (HR.out w2 (HG1.out.trans hg2))
    clear hg2
    go_wp2_with fail
    exact HF.out
  | false =>
    rw [g] at HR
    have H3 := Lib.hid g
    clear g
    go_enter Tryz.func80, Tryz.ntmps80
    go_wp2_with fail
    refine r5tested_any p ts _ _ _ HP.out HT.out _ ?_
    intro w1 hg1
    rw [HE.out]
    have HG1 := Lib.hid hg1
    clear hg1
    go_wp2_with fail
    refine r4PassesAll_any p ts _ _ _ (HP.out.grow HG1.out) (HT.out.grow HG1.out) HV.out HVT.out _ ?_
    intro w2 hg2
    rw [H3.out]
    have HF := Lib.hid (HR.out w2 (HG1.out.trans hg2))
    clear hg2
    go_wp2_with fail
    exact HF.out

set_option maxRecDepth 100000 in
set_option maxHeartbeats 8000000 in
theorem r5fixes_any (p : List Ln) (ts : List Tst) (n : Nat) (kind : Int) (C : List Ln) (pv tv : Value) (w : World) (hp : LinesAt w pv p) (ht : TestsAt w tv ts) (hC : C.length ≤ 1000) (hCok : ∀ x ∈ C, x.ok = true) (hn : n < p.length) (hval : valP p = 0) (htv : valT ts = 0)
    (hcand : ∀ R' : Ending → World → Prop, (∀ W' v, Grow w W' → LinesAt W' v C → R' (.returned v) W') → Calls Tryz.prog 124 #[pv, .int .i64 n, .int .i64 kind] w R') (R : Ending → World → Prop)
    (hR : ∀ w' v, Grow w w' → LinesAt w' v (C.filter fun x => goodR p n x ts) → R (.returned v) w') :
    Calls Tryz.prog 81 #[pv, tv, .int .i64 n, .int .i64 kind] w R := by
  have HP := Lib.hid hp
  have HT := Lib.hid ht
  have HR := Lib.hid hR
  have HC := Lib.hid hcand
  have HCOK := Lib.hid hCok
  have HV := Lib.hid hval
  have HVT := Lib.hid htv
  have hp8 := (valP_ok.1 hval).1
  obtain ⟨F, hF⟩ : ∃ F, (fun x => goodR p n x ts) = F := ⟨_, rfl⟩
  rw [hF] at HR
  have HFF := Lib.hid hF
  have HN := Lib.hid (show ∀ x : Ln, ∀ e ∈ [(⟨(n : Int), x⟩ : Ed)], 0 ≤ e.at_ ∧ e.at_ < p.length from fun x e he => by simp at he; subst he; dsimp only; omega)
  obtain ⟨pa, pc, rfl, _⟩ := hp
  obtain ⟨⟨ta, tc, rfl, _⟩, _⟩ := ht
  clear hR hcand hCok hval htv hF
  go_enter Tryz.func81, Tryz.ntmps81
  go_wp2_with fail
  refine HC.out _ ?_
  intro w1 v1 hg1 hv1
  have HV1 := Lib.hid hv1
  obtain ⟨a1, c1, rfl, q1, q2, _⟩ := hv1
  have HG1 := Lib.hid hg1
  have hz1 := hg1.sz
  clear hg1
  go_wp2_with fail
  go_loopw [10, 11] (fun out i wr => ∃ k : Nat, k ≤ C.length ∧ i = .int .i64 k ∧ Grow w1 wr ∧ wr.ownsRow w1.heap.size 25 4 out ((C.take k).filter F).length (((C.take k).filter F).flatMap encL)) (fun _ i _ => C.length - (intOf i).toNat)
  case atStart => exact ⟨0, Nat.zero_le _, rfl, Grow.refl _, World.ownsRow_nil _ _ _ _⟩
  case round =>
    obtain ⟨k, hk, rfl, hg, how⟩ := hrel
    have HG := Lib.hid hg
    have HOW := Lib.hid how
    have hzw := hg.sz
    clear hg how
    by_cases hlt : k < C.length
    · obtain ⟨⟨op, d, a, b⟩, hx⟩ : ∃ x, C[k]? = some x := ⟨_, List.getElem?_eq_getElem hlt⟩
      obtain ⟨gb, o, rfl, hgb, y0, y1, y2, y3⟩ := lines_at (HV1.out.grow HG.out) hx
      have hlt2 : (k : Int) < (C.length : Int) := by omega
      have HS := Lib.hid (filter_take_succ (F := F) hx)
      have HLB := Lib.hid (show ((C.take k).filter F).length < 100000000000 by have := filter_take_len F C k; omega)
      have HSV := Lib.hid (goodR_ok (at_ := (n : Int)) HV.out (by omega) (by omega) (HCOK.out _ (List.mem_of_getElem? hx)))
      obtain ⟨f, hf⟩ : ∃ f, F ⟨op, d, a, b⟩ = f := ⟨_, rfl⟩
      have HF := Lib.hid hf
      have HGD := Lib.hid (show ts.all (passM (setAll p [⟨(n : Int), ⟨op, d, a, b⟩⟩])) = f by rw [← hf, ← HFF.out]; rfl)
      have hlit := edits_lit wr (n : Int) op d a b 27
      have HLIT := Lib.hid hlit
      clear hx hf hlit
      go_wp2_with fail
      refine r4Good_any p [⟨(n : Int), ⟨op, d, a, b⟩⟩] ts _ _ _ _ (HP.out.grow (HG1.out.trans (HG.out.trans ((Grow.refl wr).alloc _)))) HLIT.out (HT.out.grow (HG1.out.trans (HG.out.trans ((Grow.refl wr).alloc _)))) (HN.out _) hp8 HVT.out HSV.out _ ?_
      intro w2 hg2
      rw [HGD.out]
      have HG2 := Lib.hid (((Grow.refl wr).alloc _).trans hg2)
      have x0 := HG2.out.cell y0
      have x1 := HG2.out.cell y1
      have x2 := HG2.out.cell y2
      have x3 := HG2.out.cell y3
      have hgb2 : gb < w2.heap.size := Nat.lt_of_lt_of_le hgb HG2.out.sz
      clear hg2 y0 y1 y2 y3 HLIT
      cases f with
      | false =>
        go_wp2_with fail
        go_roundw
        case rel => exact ⟨k + 1, by omega, by go_num, HG.out.trans HG2.out, by rw [HS.out, HF.out, if_neg (by decide), List.append_nil]; exact HG2.out.owns HOW.out⟩
        case measure => simp [intOf]; omega
      | true =>
        go_wp2_with (at_builtin; refine wpList_app _ rfl (.tmp 32) (.tmp 37) 22 rfl w1.heap.size 25 Tryz.underlying22 info_line rfl (by decide) (by decide) encL encL_len encL_one _ ((C.take k).filter F) rfl ((HG2.out.alloc _).owns HOW.out) _ (⟨op, d, a, b⟩ : Ln) 1 rfl (newsG _ _ (by simp) (encL ⟨op, d, a, b⟩) _) HLB.out (by have := HG.out.sz; have := HG2.out.sz; simp; omega) ?_; intro out2 w3 hown2 hgr2)
        have HG3 := Lib.hid (show Grow w1 w3 from grown_below HOW.out hgr2 (Nat.le_refl _) (by have := HG.out.sz; have := HG2.out.sz; simp; omega) (HG.out.trans (HG2.out.alloc _)))
        have HO2 := Lib.hid hown2
        clear hown2 hgr2
        go_roundw
        case rel => exact ⟨k + 1, by omega, by go_num, HG3.out, by rw [HS.out, HF.out, if_pos rfl]; exact HO2.out⟩
        case measure => simp [intOf]; omega
    · have hkn : k = C.length := by omega
      have HO2 := HOW.out
      rw [hkn, List.take_length] at HO2
      have HF := Lib.hid (HR.out _ _ (HG1.out.trans HG.out) (slc_of_owns encL_len HO2))
      clear HO2 hkn
      go_wp2_with fail
      exact HF.out
end Go.Proofs.YtbccbokjecdaaaaGreat

namespace Go.Proofs.YtbccbokjecdaaaaGreat
open Go.RowKit

set_option maxRecDepth 100000 in
set_option maxHeartbeats 8000000 in
theorem r5Fixes_any (p : List Ln) (ts : List Tst) (at_ kind : Int) (pv tv : Value) (w : World) (hp : LinesAt w pv p) (ht : TestsAt w tv ts) (R : Ending → World → Prop)
    (hR : ∀ w' v, Grow w w' → LinesAt w' v (fixO p ts at_ kind) → R (.returned (.tuple #[v, .int .i64 (fixErr p ts at_ kind)])) w') :
    Calls Tryz.prog 30 #[pv, tv, .int .i64 at_, .int .i64 kind] w R := by
  have HP := Lib.hid hp
  have HT := Lib.hid ht
  have ho : fixO p ts at_ kind = if fixErr p ts at_ kind = 0 then fixR p ts at_ kind else [] := fixO_eq p ts at_ kind
  have he : fixErr p ts at_ kind = if chkT p ts = 0 then (if askE p.length at_ kind = 0 then (if allPass p ts then 8 else 0) else askE p.length at_ kind) else chkT p ts := rfl
  have hs : sgtE p ts kind = if chkT p ts = 0 then (if inB kind 0 2 then (if allPass p ts then 8 else 0) else 1) else chkT p ts := rfl
  rw [he] at ho
  rw [ho, he] at hR
  have HR := Lib.hid hR
  obtain ⟨e, h1⟩ : ∃ e, chkT p ts = e := ⟨_, rfl⟩
  obtain ⟨g, h3⟩ : ∃ e, allPass p ts = e := ⟨_, rfl⟩
  have hok := fun h : e = 0 => chkT_ok.1 (h1.trans h)
  rw [h1, h3] at HR hs
  have H1 := Lib.hid h1
  obtain ⟨pa, pc, rfl, r1, r2, _⟩ := hp
  obtain ⟨⟨ta, tc, rfl, _⟩, _⟩ := ht
  clear hR ho he h1 h3
  by_cases z1 : e = 0
  rotate_left
  · rw [if_neg z1, if_neg z1] at HR
    have t1 : (e != 0) = true := by simpa using z1
    clear hok hs z1
    go_enter Tryz.func30, Tryz.ntmps30
    go_wp2_with fail
    refine r5tested_any p ts _ _ _ HP.out HT.out _ ?_
    intro w1 hg1
    rw [H1.out]
    have HG1 := Lib.hid hg1
    clear hg1
    have HF := Lib.hid (HR.out w1 (.slice none 0 0) HG1.out (SlcAt.nil _ _ _))
    go_wp2_with fail
    exact HF.out
  obtain ⟨hv, hvt⟩ := hok z1
  subst z1
  rw [if_pos rfl] at HR hs
  clear hok
  obtain ⟨q, h2⟩ : ∃ z, askE p.length at_ kind = z := ⟨_, rfl⟩
  rw [h2] at HR
  by_cases a0 : at_ < 0
  · skip
    have hq : q = 4 := h2.symm.trans (by unfold askE; rw [inB_false.2 (by omega)]; rfl)
    subst hq
    rw [if_neg (show ¬ (4 : Int) = 0 by decide), if_neg (show ¬ (4 : Int) = 0 by decide)] at HR
    clear hs hv hvt h2
    go_enter Tryz.func30, Tryz.ntmps30
    go_wp2_with fail
    refine r5tested_any p ts _ _ _ HP.out HT.out _ ?_
    intro w1 hg1
    rw [H1.out]
    have HG1 := Lib.hid hg1
    clear hg1
    have HF := Lib.hid (HR.out w1 (.slice none 0 0) HG1.out (SlcAt.nil _ _ _))
    go_wp2_with fail
    exact HF.out
  by_cases a1 : (p.length : Int) ≤ at_
  · skip
    have hq : q = 4 := h2.symm.trans (by unfold askE; rw [inB_false.2 (by omega)]; rfl)
    subst hq
    rw [if_neg (show ¬ (4 : Int) = 0 by decide), if_neg (show ¬ (4 : Int) = 0 by decide)] at HR
    clear hs hv hvt h2
    go_enter Tryz.func30, Tryz.ntmps30
    go_wp2_with fail
    refine r5tested_any p ts _ _ _ HP.out HT.out _ ?_
    intro w1 hg1
    rw [H1.out]
    have HG1 := Lib.hid hg1
    clear hg1
    have HF := Lib.hid (HR.out w1 (.slice none 0 0) HG1.out (SlcAt.nil _ _ _))
    go_wp2_with fail
    exact HF.out
  by_cases k0 : kind < 0
  · skip
    have hq : q = 1 := h2.symm.trans (by unfold askE; rw [inB_true.2 (by omega), inB_false.2 (by omega)]; rfl)
    subst hq
    rw [if_neg (show ¬ (1 : Int) = 0 by decide), if_neg (show ¬ (1 : Int) = 0 by decide)] at HR
    rw [inB_false.2 (by omega), if_neg (by decide)] at hs
    have HS := Lib.hid hs
    clear hs hv hvt h2
    go_enter Tryz.func30, Tryz.ntmps30
    go_wp2_with fail
    refine r5tested_any p ts _ _ _ HP.out HT.out _ ?_
    intro w1 hg1
    rw [H1.out]
    have HG1 := Lib.hid hg1
    clear hg1
    go_wp2_with fail
    refine r5sought_any p ts kind _ _ _ (HP.out.grow HG1.out) (HT.out.grow HG1.out) _ ?_
    intro w2 hg2
    rw [HS.out]
    have HG2 := Lib.hid (HG1.out.trans hg2)
    clear hg2
    have HF := Lib.hid (HR.out w2 (.slice none 0 0) HG2.out (SlcAt.nil _ _ _))
    go_wp2_with fail
    exact HF.out
  by_cases k2 : 2 < kind
  · skip
    have hq : q = 1 := h2.symm.trans (by unfold askE; rw [inB_true.2 (by omega), inB_false.2 (by omega)]; rfl)
    subst hq
    rw [if_neg (show ¬ (1 : Int) = 0 by decide), if_neg (show ¬ (1 : Int) = 0 by decide)] at HR
    rw [inB_false.2 (by omega), if_neg (by decide)] at hs
    have HS := Lib.hid hs
    clear hs hv hvt h2
    go_enter Tryz.func30, Tryz.ntmps30
    go_wp2_with fail
    refine r5tested_any p ts _ _ _ HP.out HT.out _ ?_
    intro w1 hg1
    rw [H1.out]
    have HG1 := Lib.hid hg1
    clear hg1
    go_wp2_with fail
    refine r5sought_any p ts kind _ _ _ (HP.out.grow HG1.out) (HT.out.grow HG1.out) _ ?_
    intro w2 hg2
    rw [HS.out]
    have HG2 := Lib.hid (HG1.out.trans hg2)
    clear hg2
    have HF := Lib.hid (HR.out w2 (.slice none 0 0) HG2.out (SlcAt.nil _ _ _))
    go_wp2_with fail
    exact HF.out
  have hq : q = 0 := h2.symm.trans (askE_ok.2 ⟨by omega, by omega, by omega, by omega⟩)
  subst hq
  rw [if_pos rfl] at HR
  rw [inB_true.2 (by omega), if_pos rfl] at hs
  cases g with
  | true =>
    rw [if_pos rfl, if_neg (show ¬ (8 : Int) = 0 by decide)] at HR
    clear h2
    rw [if_pos rfl] at hs
    have HS := Lib.hid hs
    clear hs hv hvt
    go_enter Tryz.func30, Tryz.ntmps30
    go_wp2_with fail
    refine r5tested_any p ts _ _ _ HP.out HT.out _ ?_
    intro w1 hg1
    rw [H1.out]
    have HG1 := Lib.hid hg1
    clear hg1
    go_wp2_with fail
    refine r5sought_any p ts kind _ _ _ (HP.out.grow HG1.out) (HT.out.grow HG1.out) _ ?_
    intro w2 hg2
    rw [HS.out]
    have HG2 := Lib.hid (HG1.out.trans hg2)
    clear hg2
    have HF := Lib.hid (HR.out w2 (.slice none 0 0) HG2.out (SlcAt.nil _ _ _))
    go_wp2_with fail
    exact HF.out
  | false =>
    rw [show (if (false : Bool) = true then (8 : Int) else 0) = 0 from rfl, if_pos rfl] at HR
    rw [if_neg (by decide)] at hs
    have HS := Lib.hid hs
    obtain ⟨n, rfl⟩ : ∃ n : Nat, at_ = n := ⟨at_.toNat, by omega⟩
    obtain ⟨⟨op, d, a, b⟩, hx⟩ : ∃ l, p[n]? = some l := ⟨_, List.getElem?_eq_getElem (by omega)⟩
    have hl : lineAt p (n : Int) = ⟨op, d, a, b⟩ := by unfold lineAt; rw [show ((n : Int)).toNat = n by omega, hx]; rfl
    rw [show fixR p ts n kind = (candR p (lineAt p n) kind).filter fun x => goodR p n x ts from rfl, hl] at HR
    have hnp : n < p.length := by omega
    have HX := Lib.hid hx
    have HV := Lib.hid hv
    have HVT := Lib.hid hvt
    have HALL := Lib.hid (valP_ok.1 hv).2
    have HP8 := Lib.hid (valP_ok.1 hv).1
    clear hv hvt hx hl hs
    have hk : kind = 0 ∨ kind = 1 ∨ kind = 2 := by omega
    clear k0 k2
    rcases hk with rfl | rfl | rfl
    · skip
      go_enter Tryz.func30, Tryz.ntmps30
      go_wp2_with fail
      refine r5tested_any p ts _ _ _ HP.out HT.out _ ?_
      intro w1 hg1
      rw [H1.out]
      have HG1 := Lib.hid hg1
      clear hg1
      go_wp2_with fail
      refine r5sought_any p ts 0 _ _ _ (HP.out.grow HG1.out) (HT.out.grow HG1.out) _ ?_
      intro w2 hg2
      rw [HS.out]
      have HG2 := Lib.hid (HG1.out.trans hg2)
      clear hg2
      go_wp2_with fail
      refine r5fixes_any p ts n 0 (candR p ⟨op, d, a, b⟩ 0) _ _ _ (HP.out.grow HG2.out) (HT.out.grow HG2.out) (candR_len _ _ _) (fun x hx => candR_ok hx) hnp HV.out HVT.out (fun R' hR' => rcand0_any p n op d a b _ _ (HP.out.grow HG2.out) HX.out HALL.out HP8.out R' hR') _ ?_
      intro w3 v3 hg3 hv3
      have HF := Lib.hid (HR.out w3 v3 (HG2.out.trans hg3) hv3)
      clear hg3 hv3
      go_wp2_with fail
      exact HF.out
    · skip
      go_enter Tryz.func30, Tryz.ntmps30
      go_wp2_with fail
      refine r5tested_any p ts _ _ _ HP.out HT.out _ ?_
      intro w1 hg1
      rw [H1.out]
      have HG1 := Lib.hid hg1
      clear hg1
      go_wp2_with fail
      refine r5sought_any p ts 1 _ _ _ (HP.out.grow HG1.out) (HT.out.grow HG1.out) _ ?_
      intro w2 hg2
      rw [HS.out]
      have HG2 := Lib.hid (HG1.out.trans hg2)
      clear hg2
      go_wp2_with fail
      refine r5fixes_any p ts n 1 (candR p ⟨op, d, a, b⟩ 1) _ _ _ (HP.out.grow HG2.out) (HT.out.grow HG2.out) (candR_len _ _ _) (fun x hx => candR_ok hx) hnp HV.out HVT.out (fun R' hR' => rcand1_any p n op d a b _ _ (HP.out.grow HG2.out) HX.out HALL.out HP8.out R' hR') _ ?_
      intro w3 v3 hg3 hv3
      have HF := Lib.hid (HR.out w3 v3 (HG2.out.trans hg3) hv3)
      clear hg3 hv3
      go_wp2_with fail
      exact HF.out
    · skip
      go_enter Tryz.func30, Tryz.ntmps30
      go_wp2_with fail
      refine r5tested_any p ts _ _ _ HP.out HT.out _ ?_
      intro w1 hg1
      rw [H1.out]
      have HG1 := Lib.hid hg1
      clear hg1
      go_wp2_with fail
      refine r5sought_any p ts 2 _ _ _ (HP.out.grow HG1.out) (HT.out.grow HG1.out) _ ?_
      intro w2 hg2
      rw [HS.out]
      have HG2 := Lib.hid (HG1.out.trans hg2)
      clear hg2
      go_wp2_with fail
      refine r5fixes_any p ts n 2 (candR p ⟨op, d, a, b⟩ 2) _ _ _ (HP.out.grow HG2.out) (HT.out.grow HG2.out) (candR_len _ _ _) (fun x hx => candR_ok hx) hnp HV.out HVT.out (fun R' hR' => rcand2_any p n op d a b _ _ (HP.out.grow HG2.out) HX.out HALL.out HP8.out R' hR') _ ?_
      intro w3 v3 hg3 hv3
      have HF := Lib.hid (HR.out w3 v3 (HG2.out.trans hg3) hv3)
      clear hg3 hv3
      go_wp2_with fail
      exact HF.out
end Go.Proofs.YtbccbokjecdaaaaGreat

namespace Go.Proofs.YtbccbokjecdaaaaGreat
open Go.RowKit

theorem rcand0_at (p : List Ln) (pv : Value) (n : Nat) (W : World) (hval : valP p = 0) (hn : n < p.length) (hp : LinesAt W pv p) (R' : Ending → World → Prop) (hR' : ∀ W' v, Grow W W' → LinesAt W' v (candR p (lineAt p n) 0) → R' (.returned v) W') :
    Calls Tryz.prog 124 #[pv, .int .i64 n, .int .i64 0] W R' := by
  obtain ⟨⟨op, d, a, b⟩, hx⟩ : ∃ l, p[n]? = some l := ⟨_, List.getElem?_eq_getElem hn⟩
  have hl : lineAt p (n : Int) = ⟨op, d, a, b⟩ := by unfold lineAt; rw [show ((n : Int)).toNat = n by omega, hx]; rfl
  rw [hl] at hR'
  exact rcand0_any p n op d a b _ _ hp hx (valP_ok.1 hval).2 (valP_ok.1 hval).1 R' hR'
theorem rcand1_at (p : List Ln) (pv : Value) (n : Nat) (W : World) (hval : valP p = 0) (hn : n < p.length) (hp : LinesAt W pv p) (R' : Ending → World → Prop) (hR' : ∀ W' v, Grow W W' → LinesAt W' v (candR p (lineAt p n) 1) → R' (.returned v) W') :
    Calls Tryz.prog 124 #[pv, .int .i64 n, .int .i64 1] W R' := by
  obtain ⟨⟨op, d, a, b⟩, hx⟩ : ∃ l, p[n]? = some l := ⟨_, List.getElem?_eq_getElem hn⟩
  have hl : lineAt p (n : Int) = ⟨op, d, a, b⟩ := by unfold lineAt; rw [show ((n : Int)).toNat = n by omega, hx]; rfl
  rw [hl] at hR'
  exact rcand1_any p n op d a b _ _ hp hx (valP_ok.1 hval).2 (valP_ok.1 hval).1 R' hR'
theorem rcand2_at (p : List Ln) (pv : Value) (n : Nat) (W : World) (hval : valP p = 0) (hn : n < p.length) (hp : LinesAt W pv p) (R' : Ending → World → Prop) (hR' : ∀ W' v, Grow W W' → LinesAt W' v (candR p (lineAt p n) 2) → R' (.returned v) W') :
    Calls Tryz.prog 124 #[pv, .int .i64 n, .int .i64 2] W R' := by
  obtain ⟨⟨op, d, a, b⟩, hx⟩ : ∃ l, p[n]? = some l := ⟨_, List.getElem?_eq_getElem hn⟩
  have hl : lineAt p (n : Int) = ⟨op, d, a, b⟩ := by unfold lineAt; rw [show ((n : Int)).toNat = n by omega, hx]; rfl
  rw [hl] at hR'
  exact rcand2_any p n op d a b _ _ hp hx (valP_ok.1 hval).2 (valP_ok.1 hval).1 R' hR'
theorem rcand_at (p : List Ln) (pv : Value) (n : Nat) (kind : Int) (W : World) (k0 : 0 ≤ kind) (k2 : kind ≤ 2) (hval : valP p = 0) (hn : n < p.length) (hp : LinesAt W pv p) (R' : Ending → World → Prop) (hR' : ∀ W' v, Grow W W' → LinesAt W' v (candR p (lineAt p n) kind) → R' (.returned v) W') :
    Calls Tryz.prog 124 #[pv, .int .i64 n, .int .i64 kind] W R' := by
  have hk : kind = 0 ∨ kind = 1 ∨ kind = 2 := by omega
  rcases hk with rfl | rfl | rfl
  · exact rcand0_at p pv n W hval hn hp R' hR'
  · exact rcand1_at p pv n W hval hn hp R' hR'
  · exact rcand2_at p pv n W hval hn hp R' hR'
theorem fixR_len (p : List Ln) (ts : List Tst) (a kind : Int) : (fixR p ts a kind).length ≤ 1000 := Nat.le_trans (List.length_filter_le _ _) (candR_len _ _ _)
theorem cntR_len (p : List Ln) (ts : List Tst) (kind : Int) : ∀ k, cntR p ts kind k ≤ k * 1000
  | 0 => by simp [cntR]
  | k + 1 => by
    rw [cntR_succ]
    have := cntR_len p ts kind k
    have := fixR_len p ts k kind
    omega
set_option maxRecDepth 100000 in
set_option maxHeartbeats 8000000 in
theorem r5Count_any (p : List Ln) (ts : List Tst) (kind : Int) (pv tv : Value) (w : World) (hp : LinesAt w pv p) (ht : TestsAt w tv ts) (R : Ending → World → Prop)
    (hR : ∀ w', Grow w w' → R (.returned (.tuple #[.int .i64 (cntO p ts kind), .int .i64 (sgtE p ts kind)])) w') :
    Calls Tryz.prog 34 #[pv, tv, .int .i64 kind] w R := by
  have HP := Lib.hid hp
  have HT := Lib.hid ht
  rw [show cntO p ts kind = if sgtE p ts kind = 0 then cntR p ts kind p.length else 0 from rfl] at hR
  have HR := Lib.hid hR
  obtain ⟨e, he⟩ : ∃ e, sgtE p ts kind = e := ⟨_, rfl⟩
  have hok := fun h : e = 0 => sgtE_ok.1 (he.trans h)
  rw [he] at HR
  have HE := Lib.hid he
  obtain ⟨pa, pc, rfl, r1, r2, _⟩ := hp
  obtain ⟨⟨ta, tc, rfl, _⟩, _⟩ := ht
  clear hR he
  by_cases z1 : e = 0
  rotate_left
  · rw [if_neg z1] at HR
    have t1 : (e != 0) = true := by simpa using z1
    clear hok z1
    go_enter Tryz.func34, Tryz.ntmps34
    go_wp2_with fail
    refine r5sought_any p ts kind _ _ _ HP.out HT.out _ ?_
    intro w1 hg1
    rw [HE.out]
    have HF := Lib.hid (HR.out w1 hg1)
    clear hg1
    go_wp2_with fail
    exact HF.out
  obtain ⟨⟨hv, hvt⟩, ⟨k0, k2⟩, _⟩ := hok z1
  subst z1
  rw [if_pos rfl] at HR
  have hp8 := (valP_ok.1 hv).1
  have HV := Lib.hid hv
  have HVT := Lib.hid hvt
  have HK := Lib.hid (And.intro k0 k2)
  clear hok hv hvt k0 k2
  go_enter Tryz.func34, Tryz.ntmps34
  go_wp2_with fail
  refine r5sought_any p ts kind _ _ _ HP.out HT.out _ ?_
  intro w1 hg1
  rw [HE.out]
  have HG1 := Lib.hid hg1
  clear hg1
  go_wp2_with fail
  go_loopw [9, 10] (fun out i wr => ∃ k : Nat, k ≤ p.length ∧ i = .int .i64 k ∧ Grow w wr ∧ out = .int .i64 (cntR p ts kind k)) (fun _ i _ => p.length - (intOf i).toNat)
  case atStart => exact ⟨0, Nat.zero_le _, rfl, HG1.out, rfl⟩
  case round =>
    obtain ⟨k, hk, rfl, hg, how⟩ := hrel
    have HG := Lib.hid hg
    have hzw := hg.sz
    clear hg
    by_cases hlt : k < p.length
    · have hlt2 : (k : Int) < (p.length : Int) := by omega
      obtain ⟨m, hm⟩ : ∃ m, (fixR p ts k kind).length = m := ⟨_, rfl⟩
      have hml := fixR_len p ts k kind
      rw [hm] at hml
      have HM := Lib.hid hm
      clear hm
      obtain ⟨c, hc⟩ : ∃ c, cntR p ts kind k = c := ⟨_, rfl⟩
      have hcl := cntR_len p ts kind k
      rw [hc] at how hcl
      have HCC := Lib.hid hc
      clear hc
      subst how
      have hwr : IntKind.i64.wrap ((c : Int) + (m : Int)) = (c : Int) + (m : Int) := IntWalk.i64_in _ (by omega)
      go_wp2_with fail
      refine r5fixes_any p ts k kind (candR p (lineAt p k) kind) _ _ _ (HP.out.grow HG.out) (HT.out.grow HG.out) (candR_len _ _ _) (fun x hx => candR_ok hx) hlt HV.out HVT.out (fun R' hR' => rcand_at p _ k kind wr HK.out.1 HK.out.2 HV.out hlt (HP.out.grow HG.out) R' hR') _ ?_
      intro w2 v2 hg2 hv2
      have hv3 : LinesAt w2 v2 (fixR p ts k kind) := hv2
      obtain ⟨a2, c2, rfl, _⟩ := hv3
      rw [HM.out]
      have HG2 := Lib.hid hg2
      clear hg2 hv2
      go_wp2_with fail
      go_roundw
      case rel => exact ⟨k + 1, by omega, by go_num, HG.out.trans HG2.out, by rw [cntR_succ, HCC.out, HM.out]; go_num⟩
      case measure => simp [intOf]; omega
    · have hkn : k = p.length := by omega
      subst hkn
      subst how
      have HF := Lib.hid (HR.out _ HG.out)
      go_wp2_with fail
      exact HF.out

set_option maxRecDepth 100000 in
set_option maxHeartbeats 8000000 in
theorem r5Places_any (p : List Ln) (ts : List Tst) (kind : Int) (pv tv : Value) (w : World) (hp : LinesAt w pv p) (ht : TestsAt w tv ts) (R : Ending → World → Prop)
    (hR : ∀ w' v, Grow w w' → IntsAt w' v (plcO p ts kind) → R (.returned (.tuple #[v, .int .i64 (sgtE p ts kind)])) w') :
    Calls Tryz.prog 36 #[pv, tv, .int .i64 kind] w R := by
  have HP := Lib.hid hp
  have HT := Lib.hid ht
  rw [show plcO p ts kind = if sgtE p ts kind = 0 then plcR p ts kind p.length else [] from rfl] at hR
  have HR := Lib.hid hR
  obtain ⟨e, he⟩ : ∃ e, sgtE p ts kind = e := ⟨_, rfl⟩
  have hok := fun h : e = 0 => sgtE_ok.1 (he.trans h)
  rw [he] at HR
  have HE := Lib.hid he
  obtain ⟨pa, pc, rfl, r1, r2, _⟩ := hp
  obtain ⟨⟨ta, tc, rfl, _⟩, _⟩ := ht
  clear hR he
  by_cases z1 : e = 0
  rotate_left
  · rw [if_neg z1] at HR
    have t1 : (e != 0) = true := by simpa using z1
    clear hok z1
    go_enter Tryz.func36, Tryz.ntmps36
    go_wp2_with fail
    refine r5sought_any p ts kind _ _ _ HP.out HT.out _ ?_
    intro w1 hg1
    rw [HE.out]
    have HF := Lib.hid (HR.out w1 (.slice none 0 0) hg1 (SlcAt.nil _ _ _))
    clear hg1
    go_wp2_with fail
    exact HF.out
  obtain ⟨⟨hv, hvt⟩, ⟨k0, k2⟩, _⟩ := hok z1
  subst z1
  rw [if_pos rfl] at HR
  have hp8 := (valP_ok.1 hv).1
  have HV := Lib.hid hv
  have HVT := Lib.hid hvt
  have HK := Lib.hid (And.intro k0 k2)
  clear hok hv hvt k0 k2
  go_enter Tryz.func36, Tryz.ntmps36
  go_wp2_with fail
  refine r5sought_any p ts kind _ _ _ HP.out HT.out _ ?_
  intro w1 hg1
  rw [HE.out]
  have HG1 := Lib.hid hg1
  clear hg1
  go_wp2_with fail
  go_loopw [9, 10] (fun out i wr => ∃ k : Nat, k ≤ p.length ∧ i = .int .i64 k ∧ Grow w wr ∧ wr.ownsRow w.heap.size 3 1 out (plcR p ts kind k).length ((plcR p ts kind k).flatMap encI)) (fun _ i _ => p.length - (intOf i).toNat)
  case atStart => exact ⟨0, Nat.zero_le _, rfl, HG1.out, World.ownsRow_nil _ _ _ _⟩
  case round =>
    obtain ⟨k, hk, rfl, hg, how⟩ := hrel
    have HG := Lib.hid hg
    have hzw := hg.sz
    clear hg
    by_cases hlt : k < p.length
    · have hlt2 : (k : Int) < (p.length : Int) := by omega
      obtain ⟨m, hm⟩ : ∃ m, (fixR p ts k kind).length = m := ⟨_, rfl⟩
      have hml := fixR_len p ts k kind
      rw [hm] at hml
      have HM := Lib.hid hm
      clear hm
      have HOW := Lib.hid how
      clear how
      have HS := Lib.hid (plcR_succ p ts kind k)
      have HLB := Lib.hid (show (plcR p ts kind k).length < 100000000000 by have := plcR_len p ts kind k; omega)
      by_cases hm0 : 0 < m
      · have t1 : (m : Int) > 0 := by omega
        have HS2 := HS.out
        rw [HM.out, if_pos hm0] at HS2
        have HS3 := Lib.hid HS2
        clear HS2 HS
        go_wp2_with fail
        refine r5fixes_any p ts k kind (candR p (lineAt p k) kind) _ _ _ (HP.out.grow HG.out) (HT.out.grow HG.out) (candR_len _ _ _) (fun x hx => candR_ok hx) hlt HV.out HVT.out (fun R' hR' => rcand_at p _ k kind wr HK.out.1 HK.out.2 HV.out hlt (HP.out.grow HG.out) R' hR') _ ?_
        intro w2 v2 hg2 hv2
        have hv3 : LinesAt w2 v2 (fixR p ts k kind) := hv2
        obtain ⟨a2, c2, rfl, _⟩ := hv3
        rw [HM.out]
        have HG2 := Lib.hid hg2
        clear hg2 hv2
        go_wp2_with (at_builtin; refine wpList_app _ rfl (.tmp 31) (.tmp 33) 35 rfl w.heap.size 3 Tryz.underlying35 info_int rfl (by decide) (by decide) encI encI_len encI_one _ (plcR p ts kind k) rfl ((HG2.out.alloc _).owns HOW.out) _ (k : Int) 1 rfl (newsG _ _ (by simp) (encI (k : Int)) _) HLB.out (by have := HG.out.sz; have := HG2.out.sz; simp; omega) ?_; intro out2 w4 hown2 hgr2)
        have HG4 := Lib.hid (show Grow w w4 from grown_below HOW.out hgr2 (Nat.le_refl _) (by have := HG.out.sz; have := HG2.out.sz; simp; omega) (HG.out.trans (HG2.out.alloc _)))
        have HO2 := Lib.hid hown2
        clear hown2 hgr2
        go_roundw
        case rel => exact ⟨k + 1, by omega, by go_num, HG4.out, by rw [HS3.out]; exact HO2.out⟩
        case measure => simp [intOf]; omega
      · have t1 : ¬ (m : Int) > 0 := by omega
        have HS2 := HS.out
        rw [HM.out, if_neg hm0, List.append_nil] at HS2
        have HS3 := Lib.hid HS2
        clear HS2 HS
        go_wp2_with fail
        refine r5fixes_any p ts k kind (candR p (lineAt p k) kind) _ _ _ (HP.out.grow HG.out) (HT.out.grow HG.out) (candR_len _ _ _) (fun x hx => candR_ok hx) hlt HV.out HVT.out (fun R' hR' => rcand_at p _ k kind wr HK.out.1 HK.out.2 HV.out hlt (HP.out.grow HG.out) R' hR') _ ?_
        intro w2 v2 hg2 hv2
        have hv3 : LinesAt w2 v2 (fixR p ts k kind) := hv2
        obtain ⟨a2, c2, rfl, _⟩ := hv3
        rw [HM.out]
        have HG2 := Lib.hid hg2
        clear hg2 hv2
        go_wp2_with fail
        go_roundw
        case rel => exact ⟨k + 1, by omega, by go_num, HG.out.trans HG2.out, by rw [HS3.out]; exact HG2.out.owns HOW.out⟩
        case measure => simp [intOf]; omega
    · have hkn : k = p.length := by omega
      subst hkn
      have HF := Lib.hid (HR.out _ _ HG.out (slc_of_owns encI_len how))
      clear how
      go_wp2_with fail
      exact HF.out

end Go.Proofs.YtbccbokjecdaaaaGreat
