/-
The walk of Fixes.
The single repairs at a place, as the document says them: the same ones. No program is named.
All single repairs, how many there are and at which places: the plain laws. No program is named.
The walks of every, Count and Places.
The walks of smallest, single and Single: the smallest single repair.
The walks of single and Single: the smallest single repair.
The walks of compareEdits, and of the library's sort and Compact on a list of edits that rises.
The mutants of a program: the plain laws. No program is named.
Few templates, and few mutants: plain laws.
The walks of the library's Index, Contains, IndexFunc and DeleteFunc on numbers.
The walks of patch.turned, Breaks and seek.kills: the tests that a patch makes fail.
The walks of Breaks, kills and Kills.
-/
import Derived.Test.YtbccbokjecdaaaaGreatG14
import Derived.Test.YtbccbokjecdaaaaGreatG07
import Derived.Test.YtbccbokjecdaaaaGreatG01
import Derived.Test.YtbccbokjecdaaaaGreatG05
import Derived.Test.YtbccbokjecdaaaaGreatG15
import Derived.Test.YtbccbokjecdaaaaGreatG06
import Derived.Test.YtbccbokjecdaaaaGreatG02
namespace Go.Proofs.YtbccbokjecdaaaaGreat
open Go.RowKit

def fixErr (p : List Ln) (ts : List Tst) (at_ kind : Int) : Int := if chkT p ts = 0 then (if askE p.length at_ kind = 0 then (if allPass p ts then 8 else 0) else askE p.length at_ kind) else chkT p ts
def fixO (p : List Ln) (ts : List Tst) (at_ kind : Int) : List Ln := if fixErr p ts at_ kind = 0 then (candL p (lineAt p at_) kind).filter (fixB p ts at_) else []
theorem candL_len {p : List Ln} {l : Ln} {kind : Int} (hl : l.ok = true) (hk : 0 ≤ kind) (hk2 : kind ≤ 2) : (candL p l kind).length ≤ 1000 := by
  have h1 : allR.length ≤ 1000 := by decide +kernel
  rw [cand_eq hl hk hk2]
  have := List.length_filter_le (fun x => inC p l kind x && !decide (x = l)) allR
  unfold candR; omega
theorem fixE_lines (p : List Ln) (ts : List Tst) (at_ : Int) (C : List Ln) : (fixE p ts at_ C).map Ed.l = C.filter (fixB p ts at_) := by
  unfold fixE; rw [List.map_map]; exact List.map_id _

set_option maxRecDepth 100000 in
set_option maxHeartbeats 16000000 in
theorem Fixes_any (p : List Ln) (ts : List Tst) (at_ kind : Int) (pv tv : Value) (w : World) (hp : LinesAt w pv p) (ht : TestsAt w tv ts) (R : Ending → World → Prop)
    (hR : ∀ w' v, Grow w w' → LinesAt w' v (fixO p ts at_ kind) → R (.returned (.tuple #[v, .int .i64 (fixErr p ts at_ kind)])) w') :
    Calls Tryz.prog 29 #[pv, tv, .int .i64 at_, .int .i64 kind] w R := by
  have HP := Lib.hid hp
  have HT := Lib.hid ht
  have ho : fixO p ts at_ kind = if fixErr p ts at_ kind = 0 then (candL p (lineAt p at_) kind).filter (fixB p ts at_) else [] := rfl
  have he : fixErr p ts at_ kind = if chkT p ts = 0 then (if askE p.length at_ kind = 0 then (if allPass p ts then 8 else 0) else askE p.length at_ kind) else chkT p ts := rfl
  rw [he] at ho
  rw [ho, he] at hR
  have HR := Lib.hid hR
  obtain ⟨e, h1⟩ : ∃ e, chkT p ts = e := ⟨_, rfl⟩
  obtain ⟨q, h2⟩ : ∃ e, askE p.length at_ kind = e := ⟨_, rfl⟩
  obtain ⟨g, h3⟩ : ∃ e, allPass p ts = e := ⟨_, rfl⟩
  have hok := fun h : e = 0 => chkT_ok.1 (h1.trans h)
  have hask := fun h : q = 0 => askE_ok.1 (h2.trans h)
  rw [h1, h2, h3] at HR
  have H1 := Lib.hid h1
  have H2 := Lib.hid h2
  have H3 := Lib.hid h3
  obtain ⟨pa, pc, rfl, r1, r2, _⟩ := hp
  obtain ⟨⟨ta, tc, rfl, _⟩, _⟩ := ht
  clear hR ho he h1 h2 h3
  by_cases z1 : e = 0
  rotate_left
  · rw [if_neg z1, if_neg z1] at HR
    have t1 : (e != 0) = true := by simpa using z1
    clear hok hask z1
    go_enter Tryz.func29, Tryz.ntmps29
    go_wp2_with fail
    refine programs_any p ts _ _ _ HP.out HT.out _ ?_
    intro w1 hg1
    rw [H1.out]
    have HG1 := Lib.hid hg1
    clear hg1
    have HF := Lib.hid (HR.out w1 (.slice none 0 0) HG1.out (SlcAt.nil _ _ _))
    go_wp2_with fail
    exact HF.out
  obtain ⟨hv, hvt⟩ := hok z1
  subst z1
  rw [if_pos rfl] at HR
  clear hok
  by_cases z2 : q = 0
  rotate_left
  · rw [if_neg z2, if_neg z2] at HR
    have t1 : (q != 0) = true := by simpa using z2
    clear hask z2 hv hvt
    go_enter Tryz.func29, Tryz.ntmps29
    go_wp2_with fail
    refine programs_any p ts _ _ _ HP.out HT.out _ ?_
    intro w1 hg1
    rw [H1.out]
    have HG1 := Lib.hid hg1
    clear hg1
    go_wp2_with fail
    refine asked_any _ _ _ _ _ _ (by omega) _ ?_
    rw [H2.out]
    have HF := Lib.hid (HR.out w1 (.slice none 0 0) HG1.out (SlcAt.nil _ _ _))
    go_wp2_with fail
    exact HF.out
  obtain ⟨a0, a1, k0, k2⟩ := hask z2
  subst z2
  rw [if_pos rfl] at HR
  clear hask
  cases g with
  | true =>
    rw [if_pos rfl, if_neg (by decide)] at HR
    clear hv hvt
    go_enter Tryz.func29, Tryz.ntmps29
    go_wp2_with fail
    refine programs_any p ts _ _ _ HP.out HT.out _ ?_
    intro w1 hg1
    rw [H1.out]
    have HG1 := Lib.hid hg1
    clear hg1
    go_wp2_with fail
    refine asked_any _ _ _ _ _ _ (by omega) _ ?_
    rw [H2.out]
    go_wp2_with fail
    refine failing_any p ts _ _ _ (HP.out.grow HG1.out) (HT.out.grow HG1.out) H1.out _ ?_
    intro w2 hg2
    rw [H3.out]
    have HG2 := Lib.hid (HG1.out.trans hg2)
    clear hg2
    have HF := Lib.hid (HR.out w2 (.slice none 0 0) HG2.out (SlcAt.nil _ _ _))
    go_wp2_with fail
    exact HF.out
  | false =>
    rw [show (if (false : Bool) = true then (8 : Int) else 0) = 0 from rfl, if_pos rfl] at HR
    obtain ⟨n, rfl⟩ : ∃ n : Nat, at_ = n := ⟨at_.toNat, by omega⟩
    obtain ⟨⟨op, d, a, b⟩, hx⟩ : ∃ l, p[n]? = some l := ⟨_, List.getElem?_eq_getElem (by omega)⟩
    have hl : lineAt p (n : Int) = ⟨op, d, a, b⟩ := by unfold lineAt; rw [show ((n : Int)).toNat = n by omega, hx]; rfl
    rw [hl] at HR
    have hlok : vL op d a b = true := (valP_ok.1 hv).2 _ (List.mem_of_getElem? hx)
    have hp8 := (valP_ok.1 hv).1
    have hcl := candL_len (p := p) (l := ⟨op, d, a, b⟩) (kind := kind) hlok k0 k2
    have HX := Lib.hid hx
    have HOK := Lib.hid hlok
    clear hv hvt hx hl hlok
    have hk : kind = 0 ∨ kind = 1 ∨ kind = 2 := by omega
    clear k0 k2
    rcases hk with rfl | rfl | rfl
    · skip
      rw [show candL p ⟨op, d, a, b⟩ 0 = tmpl ⟨op, d, a, b⟩ from rfl] at HR hcl
      go_enter Tryz.func29, Tryz.ntmps29
      go_wp2_with fail
      refine programs_any p ts _ _ _ HP.out HT.out _ ?_
      intro w1 hg1
      rw [H1.out]
      have HG1 := Lib.hid hg1
      clear hg1
      go_wp2_with fail
      refine asked_any _ _ _ _ _ _ (by omega) _ ?_
      rw [H2.out]
      go_wp2_with fail
      refine failing_any p ts _ _ _ (HP.out.grow HG1.out) (HT.out.grow HG1.out) H1.out _ ?_
      intro w2 hg2
      rw [H3.out]
      have HG2 := Lib.hid (HG1.out.trans hg2)
      clear hg2
      go_wp2_with fail
      refine sources_any _ _ ?_
      go_wp2_with fail
      refine fixes_any p ts n (.iface 137 (.agg #[])) (tmpl ⟨op, d, a, b⟩) _ _ _ (HP.out.grow (HG2.out.alloc _)) (HT.out.grow (HG2.out.alloc _)) (by omega) (fun R' hR' => cand0_any p n op d a b _ _ (HP.out.grow (HG2.out.alloc _)) HX.out HOK.out R' hR') _ ?_
      intro w3 v3 hg3 hv3
      have hs3 := hv3.slc encE_len
      obtain ⟨E, hE⟩ : ∃ E, fixE p ts n (tmpl ⟨op, d, a, b⟩) = E := ⟨_, rfl⟩
      have hEl := fixE_lines p ts n (tmpl ⟨op, d, a, b⟩)
      have hElen := fixE_len p ts n (tmpl ⟨op, d, a, b⟩)
      rw [hE] at hs3 hEl hElen
      have HS3 := Lib.hid hs3
      obtain ⟨a3, c3, rfl, s1, s2, _⟩ := hs3
      have HG3 := Lib.hid (Grow.trans (HG2.out.alloc _) hg3)
      rw [← hEl] at HR
      clear hg3 hv3 hE hEl
      go_wp2_with fail
      go_loopw [13, 15, 44] (fun out _ i wr => ∃ k : Nat, k ≤ E.length ∧ i = .int .i64 k ∧ Grow w3 wr ∧ wr.ownsRow w3.heap.size 25 4 out ((E.take k).map Ed.l).length (((E.take k).map Ed.l).flatMap encL)) (fun _ _ i _ => E.length - (intOf i).toNat)
      case atStart => exact ⟨0, Nat.zero_le _, rfl, Grow.refl _, World.ownsRow_nil _ _ _ _⟩
      case round =>
        obtain ⟨k, hk, rfl, hg, how⟩ := hrel
        have HG := Lib.hid hg
        have HOW := Lib.hid how
        have hzw := hg.sz
        clear hg how
        by_cases hlt : k < E.length
        · obtain ⟨⟨t, o1, d1, a1', b1⟩, hx⟩ : ∃ x, E[k]? = some x := ⟨_, List.getElem?_eq_getElem hlt⟩
          obtain ⟨gb, o, rfl, hgb, y0, y1, y2, y3, y4⟩ := edits_at (HS3.out.grow HG.out) hx
          have HTK := Lib.hid (show (E.take (k + 1)).map Ed.l = (E.take k).map Ed.l ++ [⟨o1, d1, a1', b1⟩] by rw [List.take_add_one, hx, List.map_append]; rfl)
          have HLB := Lib.hid (show ((E.take k).map Ed.l).length < 100000000000 by rw [List.length_map, List.length_take]; omega)
          clear hx
          have hgb1 := (Grow.refl wr).alloc (.cells #[.int .i64 t, .int .i64 o1, .int .i64 d1, .int .i64 a1', .int .i64 b1] 27)
          go_wp2_with (at_builtin; refine wpList_app _ rfl (.tmp 48) (.tmp 51) 22 rfl w3.heap.size 25 Tryz.underlying22 info_line rfl (by decide) (by decide) encL encL_len encL_one _ ((E.take k).map Ed.l) rfl ((hgb1.alloc _).owns HOW.out) _ (⟨o1, d1, a1', b1⟩ : Ln) 1 rfl (newsG _ _ (by simp) (encL ⟨o1, d1, a1', b1⟩) _) HLB.out (by simp; omega) ?_; intro out2 w4 hown2 hgr2)
          have HG4 := Lib.hid (show Grow w3 w4 from grown_below HOW.out hgr2 (Nat.le_refl _) (by simp; omega) (HG.out.trans (hgb1.alloc _)))
          have HO2 := Lib.hid hown2
          clear hown2 hgr2
          go_roundw
          case rel => exact ⟨k + 1, by omega, by go_num, HG4.out, by rw [HTK.out]; exact HO2.out⟩
          case measure => simp [intOf]; omega
        · have hkn : k = E.length := by omega
          have HO2 := HOW.out
          rw [hkn, List.take_length] at HO2
          have HF := Lib.hid (HR.out _ _ (HG3.out.trans HG.out) (slc_of_owns encL_len HO2))
          clear HO2 hkn
          go_wp2_with fail
          exact HF.out
    · skip
      rw [show candL p ⟨op, d, a, b⟩ 1 = validL p ⟨op, d, a, b⟩ from rfl] at HR hcl
      go_enter Tryz.func29, Tryz.ntmps29
      go_wp2_with fail
      refine programs_any p ts _ _ _ HP.out HT.out _ ?_
      intro w1 hg1
      rw [H1.out]
      have HG1 := Lib.hid hg1
      clear hg1
      go_wp2_with fail
      refine asked_any _ _ _ _ _ _ (by omega) _ ?_
      rw [H2.out]
      go_wp2_with fail
      refine failing_any p ts _ _ _ (HP.out.grow HG1.out) (HT.out.grow HG1.out) H1.out _ ?_
      intro w2 hg2
      rw [H3.out]
      have HG2 := Lib.hid (HG1.out.trans hg2)
      clear hg2
      go_wp2_with fail
      refine sources_any _ _ ?_
      go_wp2_with fail
      refine fixes_any p ts n (.iface 138 (.agg #[])) (validL p ⟨op, d, a, b⟩) _ _ _ (HP.out.grow (HG2.out.alloc _)) (HT.out.grow (HG2.out.alloc _)) (by omega) (fun R' hR' => cand1_any p n op d a b _ _ (HP.out.grow (HG2.out.alloc _)) HX.out (by omega) R' hR') _ ?_
      intro w3 v3 hg3 hv3
      have hs3 := hv3.slc encE_len
      obtain ⟨E, hE⟩ : ∃ E, fixE p ts n (validL p ⟨op, d, a, b⟩) = E := ⟨_, rfl⟩
      have hEl := fixE_lines p ts n (validL p ⟨op, d, a, b⟩)
      have hElen := fixE_len p ts n (validL p ⟨op, d, a, b⟩)
      rw [hE] at hs3 hEl hElen
      have HS3 := Lib.hid hs3
      obtain ⟨a3, c3, rfl, s1, s2, _⟩ := hs3
      have HG3 := Lib.hid (Grow.trans (HG2.out.alloc _) hg3)
      rw [← hEl] at HR
      clear hg3 hv3 hE hEl
      go_wp2_with fail
      go_loopw [13, 15, 44] (fun out _ i wr => ∃ k : Nat, k ≤ E.length ∧ i = .int .i64 k ∧ Grow w3 wr ∧ wr.ownsRow w3.heap.size 25 4 out ((E.take k).map Ed.l).length (((E.take k).map Ed.l).flatMap encL)) (fun _ _ i _ => E.length - (intOf i).toNat)
      case atStart => exact ⟨0, Nat.zero_le _, rfl, Grow.refl _, World.ownsRow_nil _ _ _ _⟩
      case round =>
        obtain ⟨k, hk, rfl, hg, how⟩ := hrel
        have HG := Lib.hid hg
        have HOW := Lib.hid how
        have hzw := hg.sz
        clear hg how
        by_cases hlt : k < E.length
        · obtain ⟨⟨t, o1, d1, a1', b1⟩, hx⟩ : ∃ x, E[k]? = some x := ⟨_, List.getElem?_eq_getElem hlt⟩
          obtain ⟨gb, o, rfl, hgb, y0, y1, y2, y3, y4⟩ := edits_at (HS3.out.grow HG.out) hx
          have HTK := Lib.hid (show (E.take (k + 1)).map Ed.l = (E.take k).map Ed.l ++ [⟨o1, d1, a1', b1⟩] by rw [List.take_add_one, hx, List.map_append]; rfl)
          have HLB := Lib.hid (show ((E.take k).map Ed.l).length < 100000000000 by rw [List.length_map, List.length_take]; omega)
          clear hx
          have hgb1 := (Grow.refl wr).alloc (.cells #[.int .i64 t, .int .i64 o1, .int .i64 d1, .int .i64 a1', .int .i64 b1] 27)
          go_wp2_with (at_builtin; refine wpList_app _ rfl (.tmp 48) (.tmp 51) 22 rfl w3.heap.size 25 Tryz.underlying22 info_line rfl (by decide) (by decide) encL encL_len encL_one _ ((E.take k).map Ed.l) rfl ((hgb1.alloc _).owns HOW.out) _ (⟨o1, d1, a1', b1⟩ : Ln) 1 rfl (newsG _ _ (by simp) (encL ⟨o1, d1, a1', b1⟩) _) HLB.out (by simp; omega) ?_; intro out2 w4 hown2 hgr2)
          have HG4 := Lib.hid (show Grow w3 w4 from grown_below HOW.out hgr2 (Nat.le_refl _) (by simp; omega) (HG.out.trans (hgb1.alloc _)))
          have HO2 := Lib.hid hown2
          clear hown2 hgr2
          go_roundw
          case rel => exact ⟨k + 1, by omega, by go_num, HG4.out, by rw [HTK.out]; exact HO2.out⟩
          case measure => simp [intOf]; omega
        · have hkn : k = E.length := by omega
          have HO2 := HOW.out
          rw [hkn, List.take_length] at HO2
          have HF := Lib.hid (HR.out _ _ (HG3.out.trans HG.out) (slc_of_owns encL_len HO2))
          clear HO2 hkn
          go_wp2_with fail
          exact HF.out
    · skip
      rw [show candL p ⟨op, d, a, b⟩ 2 = validL allR ⟨op, d, a, b⟩ from rfl] at HR hcl
      go_enter Tryz.func29, Tryz.ntmps29
      go_wp2_with fail
      refine programs_any p ts _ _ _ HP.out HT.out _ ?_
      intro w1 hg1
      rw [H1.out]
      have HG1 := Lib.hid hg1
      clear hg1
      go_wp2_with fail
      refine asked_any _ _ _ _ _ _ (by omega) _ ?_
      rw [H2.out]
      go_wp2_with fail
      refine failing_any p ts _ _ _ (HP.out.grow HG1.out) (HT.out.grow HG1.out) H1.out _ ?_
      intro w2 hg2
      rw [H3.out]
      have HG2 := Lib.hid (HG1.out.trans hg2)
      clear hg2
      go_wp2_with fail
      refine sources_any _ _ ?_
      go_wp2_with fail
      refine fixes_any p ts n (.iface 139 (.agg #[])) (validL allR ⟨op, d, a, b⟩) _ _ _ (HP.out.grow (HG2.out.alloc _)) (HT.out.grow (HG2.out.alloc _)) (by omega) (fun R' hR' => cand2_any p n op d a b _ _ (HP.out.grow (HG2.out.alloc _)) HX.out  R' hR') _ ?_
      intro w3 v3 hg3 hv3
      have hs3 := hv3.slc encE_len
      obtain ⟨E, hE⟩ : ∃ E, fixE p ts n (validL allR ⟨op, d, a, b⟩) = E := ⟨_, rfl⟩
      have hEl := fixE_lines p ts n (validL allR ⟨op, d, a, b⟩)
      have hElen := fixE_len p ts n (validL allR ⟨op, d, a, b⟩)
      rw [hE] at hs3 hEl hElen
      have HS3 := Lib.hid hs3
      obtain ⟨a3, c3, rfl, s1, s2, _⟩ := hs3
      have HG3 := Lib.hid (Grow.trans (HG2.out.alloc _) hg3)
      rw [← hEl] at HR
      clear hg3 hv3 hE hEl
      go_wp2_with fail
      go_loopw [13, 15, 44] (fun out _ i wr => ∃ k : Nat, k ≤ E.length ∧ i = .int .i64 k ∧ Grow w3 wr ∧ wr.ownsRow w3.heap.size 25 4 out ((E.take k).map Ed.l).length (((E.take k).map Ed.l).flatMap encL)) (fun _ _ i _ => E.length - (intOf i).toNat)
      case atStart => exact ⟨0, Nat.zero_le _, rfl, Grow.refl _, World.ownsRow_nil _ _ _ _⟩
      case round =>
        obtain ⟨k, hk, rfl, hg, how⟩ := hrel
        have HG := Lib.hid hg
        have HOW := Lib.hid how
        have hzw := hg.sz
        clear hg how
        by_cases hlt : k < E.length
        · obtain ⟨⟨t, o1, d1, a1', b1⟩, hx⟩ : ∃ x, E[k]? = some x := ⟨_, List.getElem?_eq_getElem hlt⟩
          obtain ⟨gb, o, rfl, hgb, y0, y1, y2, y3, y4⟩ := edits_at (HS3.out.grow HG.out) hx
          have HTK := Lib.hid (show (E.take (k + 1)).map Ed.l = (E.take k).map Ed.l ++ [⟨o1, d1, a1', b1⟩] by rw [List.take_add_one, hx, List.map_append]; rfl)
          have HLB := Lib.hid (show ((E.take k).map Ed.l).length < 100000000000 by rw [List.length_map, List.length_take]; omega)
          clear hx
          have hgb1 := (Grow.refl wr).alloc (.cells #[.int .i64 t, .int .i64 o1, .int .i64 d1, .int .i64 a1', .int .i64 b1] 27)
          go_wp2_with (at_builtin; refine wpList_app _ rfl (.tmp 48) (.tmp 51) 22 rfl w3.heap.size 25 Tryz.underlying22 info_line rfl (by decide) (by decide) encL encL_len encL_one _ ((E.take k).map Ed.l) rfl ((hgb1.alloc _).owns HOW.out) _ (⟨o1, d1, a1', b1⟩ : Ln) 1 rfl (newsG _ _ (by simp) (encL ⟨o1, d1, a1', b1⟩) _) HLB.out (by simp; omega) ?_; intro out2 w4 hown2 hgr2)
          have HG4 := Lib.hid (show Grow w3 w4 from grown_below HOW.out hgr2 (Nat.le_refl _) (by simp; omega) (HG.out.trans (hgb1.alloc _)))
          have HO2 := Lib.hid hown2
          clear hown2 hgr2
          go_roundw
          case rel => exact ⟨k + 1, by omega, by go_num, HG4.out, by rw [HTK.out]; exact HO2.out⟩
          case measure => simp [intOf]; omega
        · have hkn : k = E.length := by omega
          have HO2 := HOW.out
          rw [hkn, List.take_length] at HO2
          have HF := Lib.hid (HR.out _ _ (HG3.out.trans HG.out) (slc_of_owns encL_len HO2))
          clear HO2 hkn
          go_wp2_with fail
          exact HF.out
end Go.Proofs.YtbccbokjecdaaaaGreat

namespace Go.Proofs.YtbccbokjecdaaaaGreat
open Go.RowKit

/-- The single repairs, as the document says them. -/
def goodR (p : List Ln) (at_ : Int) (x : Ln) (ts : List Tst) : Bool := allPass (setAll p [⟨at_, x⟩]) ts
def fixR (p : List Ln) (ts : List Tst) (at_ kind : Int) : List Ln := (candR p (lineAt p at_) kind).filter fun x => goodR p at_ x ts
def fixRO (p : List Ln) (ts : List Tst) (at_ kind : Int) : List Ln := if fixErr p ts at_ kind = 0 then fixR p ts at_ kind else []
/-- The errors of a program, tests and a kind. -/
def sgtE (p : List Ln) (ts : List Tst) (kind : Int) : Int := if chkT p ts = 0 then (if inB kind 0 2 then (if allPass p ts then 8 else 0) else 1) else chkT p ts
theorem edsOK_one {at_ : Int} {x : Ln} (h0 : 0 ≤ at_) (h1 : at_ < 8) (hx : x.ok = true) : edsOK [⟨at_, x⟩] = true := by
  refine edsOK_upto (k := 1) (fun i hi => ?_) (by simp)
  have : i = 0 := by omega
  subst this
  refine (edOK_iff (e := ⟨at_, x⟩) rfl).2 ⟨⟨h0, h1⟩, ?_, hx⟩
  show (-1 : Int) < at_
  omega
theorem chkX_one {p : List Ln} {ts : List Tst} {at_ : Int} {x : Ln} (hp : valP p = 0) (ht : valT ts = 0) (h0 : 0 ≤ at_) (h1 : at_ < p.length) (hx : x.ok = true) : chkX p [⟨at_, x⟩] ts = 0 := by
  have h8 := (valP_ok.1 hp).1
  refine chkX_ok.2 ⟨hp, valX_ok.2 ⟨by simp, edsOK_one h0 (by omega) hx⟩, ht, ?_⟩
  unfold offB
  simp; omega
theorem fixB_eq {p : List Ln} {ts : List Tst} {at_ : Int} {x : Ln} (hp : valP p = 0) (ht : valT ts = 0) (h0 : 0 ≤ at_) (h1 : at_ < p.length) (hx : x.ok = true) : fixB p ts at_ x = goodR p at_ x ts := by
  have h8 := (valP_ok.1 hp).1
  unfold fixB goodR
  rw [decide_eq_true (chkX_one hp ht h0 h1 hx), Bool.true_and, setAll_eq (edsOK_one h0 (by omega) hx)]
  rfl
theorem goodR_ok {p : List Ln} {at_ : Int} {x : Ln} (hp : valP p = 0) (h0 : 0 ≤ at_) (h1 : at_ < p.length) (hx : x.ok = true) : valP (setAll p [⟨at_, x⟩]) = 0 := by
  have h8 := (valP_ok.1 hp).1
  rw [setAll_eq (edsOK_one h0 (by omega) hx)]
  refine doM_ok hp fun e he => ?_
  simp at he
  subst he
  exact hx
theorem fixErr_ok {p : List Ln} {ts : List Tst} {at_ kind : Int} : fixErr p ts at_ kind = 0 ↔ (valP p = 0 ∧ valT ts = 0) ∧ (0 ≤ at_ ∧ at_ < p.length ∧ 0 ≤ kind ∧ kind ≤ 2) ∧ allPass p ts = false := by
  unfold fixErr
  rw [← chkT_ok, ← askE_ok]
  by_cases h1 : chkT p ts = 0
  · by_cases h2 : askE p.length at_ kind = 0
    · cases h3 : allPass p ts <;> simp [h1, h2]
    · simp [h1, h2]
  · simp [h1]
theorem lineAt_ok {p : List Ln} {at_ : Int} (hp : valP p = 0) (h0 : 0 ≤ at_) (h1 : at_ < p.length) : (lineAt p at_).ok = true := by
  unfold lineAt
  rw [List.getElem?_eq_getElem (show at_.toNat < p.length by omega)]
  exact (valP_ok.1 hp).2 _ (List.getElem_mem _)
theorem candR_ok {p : List Ln} {l x : Ln} {kind : Int} (h : x ∈ candR p l kind) : x.ok = true := mem_allR.1 (List.mem_filter.1 h).1
theorem candR_len (p : List Ln) (l : Ln) (kind : Int) : (candR p l kind).length ≤ 1000 := by
  have h1 : allR.length ≤ 1000 := by decide +kernel
  have := List.length_filter_le (fun x => inC p l kind x && !decide (x = l)) allR
  unfold candR; omega
theorem fixO_eq (p : List Ln) (ts : List Tst) (at_ kind : Int) : fixO p ts at_ kind = fixRO p ts at_ kind := by
  unfold fixO fixRO
  by_cases h : fixErr p ts at_ kind = 0
  · rw [if_pos h, if_pos h]
    obtain ⟨⟨hp, ht⟩, ⟨h0, h1, k0, k2⟩, _⟩ := fixErr_ok.1 h
    unfold fixR
    rw [cand_eq (lineAt_ok hp h0 h1) k0 k2]
    exact List.filter_congr fun x hx => fixB_eq hp ht h0 h1 (candR_ok hx)
  · rw [if_neg h, if_neg h]
theorem fixO_good {p : List Ln} {ts : List Tst} {at_ kind : Int} {x : Ln} (h : x ∈ fixO p ts at_ kind) : chkX p [⟨at_, x⟩] ts = 0 ∧ goodM p [⟨at_, x⟩] ts = true := by
  unfold fixO at h
  split at h
  · have := (List.mem_filter.1 h).2
    unfold fixB at this
    rw [Bool.and_eq_true, decide_eq_true_eq] at this
    exact this
  · cases h
theorem fixO_len (p : List Ln) (ts : List Tst) (at_ kind : Int) : (fixO p ts at_ kind).length ≤ 1000 := by
  rw [fixO_eq]
  unfold fixRO fixR
  split
  · exact Nat.le_trans (List.length_filter_le _ _) (candR_len _ _ _)
  · simp
end Go.Proofs.YtbccbokjecdaaaaGreat

namespace Go.Proofs.YtbccbokjecdaaaaGreat
open Go.RowKit

theorem compactUpTo_congr {d e : Array Int} : ∀ {m : Nat}, (∀ j, j < m → d[j]! = e[j]!) → Lib.compactUpTo d m = Lib.compactUpTo e m
  | 0, _ => rfl
  | m + 1, h => by
    have hk : Lib.keeps d m = Lib.keeps e m := by
      unfold Lib.keeps
      rw [h m (by omega), h (m - 1) (by omega)]
    rw [Lib.compactUpTo_succ, Lib.compactUpTo_succ, compactUpTo_congr (fun j hj => h j (by omega)), hk, h m (by omega)]
theorem get_snoc (zs : List Int) (x : Int) (j : Nat) (hj : j < zs.length) : (zs ++ [x]).toArray[j]! = zs.toArray[j]! := by
  rw [getElem!_pos _ j (by simp; omega), getElem!_pos _ j (by simpa using hj)]
  simp [List.getElem_append_left hj]
theorem compact_snoc (zs : List Int) (x : Int) : Lib.compact (zs ++ [x]) = Lib.compact zs ++ if zs.getLast? = some x then [] else [x] := by
  unfold Lib.compact
  rw [List.length_append, List.length_singleton, Lib.compactUpTo_succ]
  have h1 : Lib.compactUpTo (zs ++ [x]).toArray zs.length = Lib.compactUpTo zs.toArray zs.length := compactUpTo_congr fun j hj => get_snoc zs x j hj
  have hx : (zs ++ [x]).toArray[zs.length]! = x := by rw [getElem!_pos _ _ (by simp)]; simp
  rw [h1, hx]
  congr 1
  cases hz : zs.length with
  | zero =>
    have : zs = [] := List.length_eq_zero_iff.1 hz
    subst this
    simp [Lib.keeps]
  | succ n =>
    have hp : (zs ++ [x]).toArray[n]! = zs[n] := by
      rw [get_snoc zs x n (by omega), getElem!_pos _ n (by simp; omega)]; simp
    have hg : zs.getLast? = some zs[n] := by
      rw [List.getLast?_eq_getElem?, show zs.length - 1 = n by omega]
      exact List.getElem?_eq_getElem (by omega)
    rw [hz] at hx
    unfold Lib.keeps
    rw [hx, show n + 1 - 1 = n by omega, hp, hg]
    by_cases e : x = zs[n]
    · simp [← e]
    · have e2 : ¬ zs[n] = x := fun h => e h.symm
      simp [e, e2]
theorem compact_rep {zs : List Int} {x : Int} (h : x ∉ zs) : ∀ c : Nat, Lib.compact (zs ++ List.replicate c x) = Lib.compact zs ++ if c = 0 then [] else [x]
  | 0 => by simp
  | 1 => by
    rw [show List.replicate 1 x = [x] from rfl, compact_snoc, if_neg (by intro e; exact h (List.mem_of_getLast? e)), if_neg (by omega)]
  | c + 2 => by
    have : (zs ++ List.replicate (c + 1) x).getLast? = some x := by
      rw [show List.replicate (c + 1) x = List.replicate c x ++ [x] from List.replicate_succ', ← List.append_assoc, List.getLast?_append]
      simp
    rw [show List.replicate (c + 2) x = List.replicate (c + 1) x ++ [x] from List.replicate_succ', ← List.append_assoc, compact_snoc, this, if_pos rfl, List.append_nil, compact_rep h (c + 1), if_neg (by omega), if_neg (by omega)]

/-- The candidates by the places. -/
def candAt (p : List Ln) (kind : Int) (n : Nat) : List Ln := candL p (lineAt p n) kind
/-- All single repairs at the first places. -/
def everyN (p : List Ln) (ts : List Tst) (C : Nat → List Ln) (k : Nat) : List Ed := (List.range k).flatMap fun n : Nat => fixE p ts n (C n)
theorem everyN_succ (p : List Ln) (ts : List Tst) (C : Nat → List Ln) (k : Nat) : everyN p ts C (k + 1) = everyN p ts C k ++ fixE p ts k (C k) := by
  unfold everyN
  rw [List.range_succ, List.flatMap_append]
  simp
theorem everyN_len {p : List Ln} {ts : List Tst} {C : Nat → List Ln} (hC : ∀ n, n < p.length → (C n).length ≤ 1000) : ∀ k, k ≤ p.length → (everyN p ts C k).length ≤ k * 1000
  | 0, _ => by simp [everyN]
  | k + 1, hk => by
    rw [everyN_succ, List.length_append]
    have := everyN_len hC k (by omega) (p := p) (ts := ts)
    have := hC k (by omega)
    have := fixE_len p ts k (C k)
    omega
/-- What the document counts. -/
def cntR (p : List Ln) (ts : List Tst) (kind : Int) (k : Nat) : Nat := ((List.range k).map fun n : Nat => (fixR p ts n kind).length).sum
theorem cntR_succ (p : List Ln) (ts : List Tst) (kind : Int) (k : Nat) : cntR p ts kind (k + 1) = cntR p ts kind k + (fixR p ts k kind).length := by
  unfold cntR; rw [List.range_succ, List.map_append, List.sum_append]; simp
def plcR (p : List Ln) (ts : List Tst) (kind : Int) (k : Nat) : List Int := (List.range k).flatMap fun n : Nat => if 0 < (fixR p ts n kind).length then [(n : Int)] else []
theorem plcR_succ (p : List Ln) (ts : List Tst) (kind : Int) (k : Nat) : plcR p ts kind (k + 1) = plcR p ts kind k ++ if 0 < (fixR p ts k kind).length then [(k : Int)] else [] := by
  unfold plcR; rw [List.range_succ, List.flatMap_append]; simp
theorem plcR_len (p : List Ln) (ts : List Tst) (kind : Int) : ∀ k, (plcR p ts kind k).length ≤ k
  | 0 => by simp [plcR]
  | k + 1 => by
    rw [plcR_succ, List.length_append]
    have := plcR_len p ts kind k
    split <;> simp <;> omega
theorem fixE_R {p : List Ln} {ts : List Tst} {kind : Int} (hp : valP p = 0) (ht : valT ts = 0) (k0 : 0 ≤ kind) (k2 : kind ≤ 2) {n : Nat} (hn : n < p.length) : (fixE p ts n (candAt p kind n)).map Ed.l = fixR p ts n kind := by
  rw [fixE_lines]
  unfold candAt fixR
  rw [cand_eq (lineAt_ok hp (by omega) (by omega)) k0 k2]
  exact List.filter_congr fun x hx => fixB_eq hp ht (by omega) (by omega) (candR_ok hx)
theorem fixE_at (p : List Ln) (ts : List Tst) (a : Int) (C : List Ln) : (fixE p ts a C).map Ed.at_ = List.replicate (fixE p ts a C).length a := by
  unfold fixE
  rw [List.map_map, List.length_map]
  exact List.map_const'
theorem everyN_cnt {p : List Ln} {ts : List Tst} {kind : Int} (hp : valP p = 0) (ht : valT ts = 0) (k0 : 0 ≤ kind) (k2 : kind ≤ 2) : ∀ k, k ≤ p.length → (everyN p ts (candAt p kind) k).length = cntR p ts kind k
  | 0, _ => rfl
  | k + 1, hk => by
    rw [everyN_succ, List.length_append, cntR_succ, everyN_cnt hp ht k0 k2 k (by omega), ← fixE_R hp ht k0 k2 (show k < p.length by omega), List.length_map]
theorem everyN_at (p : List Ln) (ts : List Tst) (C : Nat → List Ln) : ∀ k, ∀ x ∈ (everyN p ts C k).map Ed.at_, x < (k : Int)
  | 0, x, h => by simp [everyN] at h
  | k + 1, x, h => by
    rw [everyN_succ, List.map_append, List.mem_append] at h
    rcases h with h | h
    · have := everyN_at p ts C k x h; omega
    · rw [fixE_at] at h
      have := List.eq_of_mem_replicate h
      omega
theorem everyN_plc {p : List Ln} {ts : List Tst} {kind : Int} (hp : valP p = 0) (ht : valT ts = 0) (k0 : 0 ≤ kind) (k2 : kind ≤ 2) : ∀ k, k ≤ p.length → Lib.compact ((everyN p ts (candAt p kind) k).map Ed.at_) = plcR p ts kind k
  | 0, _ => rfl
  | k + 1, hk => by
    rw [everyN_succ, List.map_append, fixE_at, compact_rep (by intro h; have := everyN_at p ts _ k _ h; omega), everyN_plc hp ht k0 k2 k (by omega), plcR_succ, ← fixE_R hp ht k0 k2 (show k < p.length by omega), List.length_map]
    congr 1
    by_cases h : (fixE p ts (k : Int) (candAt p kind k)).length = 0
    · rw [if_pos h, if_neg (by omega)]
    · rw [if_neg h, if_pos (by omega)]
theorem cnt_plc (p : List Ln) (ts : List Tst) (kind : Int) : ∀ k, (plcR p ts kind k).length ≤ cntR p ts kind k ∧ (0 < cntR p ts kind k ↔ 0 < (plcR p ts kind k).length)
  | 0 => by simp [plcR, cntR]
  | k + 1 => by
    obtain ⟨h1, h2⟩ := cnt_plc p ts kind k
    rw [cntR_succ, plcR_succ, List.length_append]
    split <;> simp <;> omega
/-- The answers of Count and Places. -/
def cntO (p : List Ln) (ts : List Tst) (kind : Int) : Nat := if sgtE p ts kind = 0 then cntR p ts kind p.length else 0
def plcO (p : List Ln) (ts : List Tst) (kind : Int) : List Int := if sgtE p ts kind = 0 then plcR p ts kind p.length else []
theorem sgtE_ok {p : List Ln} {ts : List Tst} {kind : Int} : sgtE p ts kind = 0 ↔ (valP p = 0 ∧ valT ts = 0) ∧ (0 ≤ kind ∧ kind ≤ 2) ∧ allPass p ts = false := by
  unfold sgtE
  rw [← chkT_ok]
  by_cases h1 : chkT p ts = 0
  · cases h2 : inB kind 0 2 with
    | false => have := inB_false.1 h2; simp [h1]; omega
    | true => have := inB_true.1 h2; cases h3 : allPass p ts <;> simp [h1] <;> omega
  · simp [h1]
end Go.Proofs.YtbccbokjecdaaaaGreat

namespace Go.Proofs.YtbccbokjecdaaaaGreat
open Go.RowKit
open Go.Sort (Holds putRow)

theorem holds_putRowD {w : World} {blk off : Nat} {zs ys : List Int} (h : Holds (Value.int .i64) w blk off zs.toArray) (hl : ys.length = zs.length) : Holds (Value.int .i64) (putRow (Value.int .i64) w blk off ys.toArray) blk off ys.toArray :=
  Go.Sort.holds_putRow _ _ _ _ zs.toArray _ h (by simpa using hl)
set_option maxHeartbeats 1000000 in
theorem compactO_any (base : Nat) (zs : List Int) (v : Value) (w : World) (ho : OwnI base w v zs) (hsz : zs.length < 1000000000000) (B : Nat) (hB : B ≤ base) (R : Ending → World → Prop)
    (hR : ∀ w' v', Below B w w' → IntsAt w' v' (Lib.compact zs) → R (.returned v') w') :
    Calls Tryz.prog 85 #[v] w R := by
  obtain ⟨e, h⟩ := ho
  have hs := slc_of_owns encI_len h
  have hs0 := hs
  obtain ⟨a, c, rfl, q1, q2, _⟩ := hs
  by_cases h0 : zs.length = 0
  · have hz : zs = [] := List.length_eq_zero_iff.1 h0
    subst hz
    refine (Tryz.slices_Compact_int_empty a c w).mono ?_
    rintro e w' ⟨rfl, rfl⟩
    exact hR _ _ (Below.refl _ _) hs0
  · rcases h.2 with ⟨_, h2⟩ | ⟨g, cap, cur, hv, hg, hh, _⟩
    · omega
    · cases hv
      obtain ⟨_, _, e1, _, _, h4⟩ := hs0
      cases e1
      rcases h4 with ⟨h4, _⟩ | ⟨b, o, e2, hb, hc⟩
      · rw [h4] at h0; simp at h0
      · cases e2
        have hH : Holds (Value.int .i64) w g 0 zs.toArray := holds_int (fun j x hj => by have := hc j x hj 0 (.int .i64 x) rfl; simpa using this) (fun j _ => by simpa using ownsRow_free h j)
        refine (Tryz.slices_Compact_int g 0 c zs w hH (by omega) q1).mono ?_
        rintro e w' ⟨rfl, n, rfl⟩
        have hle : (Lib.compact zs).length ≤ zs.length := compact_le zs
        have hx := Go.Sort.holds_putRow (Value.int .i64) _ g 0 zs.toArray (Lib.compact zs ++ List.replicate (zs.length - (Lib.compact zs).length) 0).toArray (Go.Sort.holds_ahead _ _ n _ _ _ hH) (by simp; omega)
        refine hR _ _ (below_putRow _ _ _ _ _ _ (Nat.le_trans hB hg)) (ints_of_holds (holds_prefix hx) (by simpa using hb) (by omega) q2)

set_option maxHeartbeats 2000000 in
theorem kinded_any (p : List Ln) (ts : List Tst) (kind : Int) (pv tv : Value) (w : World) (hp : LinesAt w pv p) (ht : TestsAt w tv ts) (R : Ending → World → Prop)
    (hR : ∀ w', Grow w w' → R (.returned (.int .i64 (sgtE p ts kind))) w') :
    Calls Tryz.prog 83 #[pv, tv, .int .i64 kind] w R := by
  have HP := Lib.hid hp
  have HT := Lib.hid ht
  have hc : sgtE p ts kind = if chkT p ts = 0 then (if inB kind 0 2 then (if allPass p ts then 8 else 0) else 1) else chkT p ts := rfl
  rw [hc] at hR
  have HR := Lib.hid hR
  obtain ⟨e, he⟩ : ∃ e, chkT p ts = e := ⟨_, rfl⟩
  obtain ⟨b, hb⟩ : ∃ b, inB kind 0 2 = b := ⟨_, rfl⟩
  rw [he, hb] at HR
  have HE := Lib.hid he
  have HB := Lib.hid hb
  obtain ⟨pa, pc, rfl, _⟩ := hp
  obtain ⟨⟨ta, tc, rfl, _⟩, _⟩ := ht
  clear hR hc he hb
  by_cases z1 : e = 0
  rotate_left
  · rw [if_neg z1] at HR
    have t1 : (e != 0) = true := by simpa using z1
    clear z1
    go_enter Tryz.func83, Tryz.ntmps83
    go_wp2_with fail
    refine programs_any p ts _ _ _ HP.out HT.out _ ?_
    intro w1 hg1
    rw [HE.out]
    have HG1 := Lib.hid hg1
    clear hg1
    go_wp2_with fail
    exact HR.out w1 HG1.out
  subst z1
  rw [if_pos rfl] at HR
  cases b with
  | false =>
    rw [if_neg (by decide)] at HR
    go_enter Tryz.func83, Tryz.ntmps83
    go_wp2_with fail
    refine programs_any p ts _ _ _ HP.out HT.out _ ?_
    intro w1 hg1
    rw [HE.out]
    have HG1 := Lib.hid hg1
    clear hg1
    go_wp2_with fail
    refine swithin_any _ _ _ _ _ ?_
    rw [HB.out]
    go_wp2_with fail
    exact HR.out w1 HG1.out
  | true =>
    rw [if_pos rfl] at HR
    go_enter Tryz.func83, Tryz.ntmps83
    go_wp2_with fail
    refine programs_any p ts _ _ _ HP.out HT.out _ ?_
    intro w1 hg1
    rw [HE.out]
    have HG1 := Lib.hid hg1
    clear hg1
    go_wp2_with fail
    refine swithin_any _ _ _ _ _ ?_
    rw [HB.out]
    go_wp2_with fail
    refine failing_any p ts _ _ _ (HP.out.grow HG1.out) (HT.out.grow HG1.out) HE.out _ ?_
    intro w2 hg2
    generalize (if allPass p ts then (8 : Int) else 0) = q at HR ⊢
    have HF := Lib.hid (HR.out w2 (HG1.out.trans hg2))
    clear hg2
    go_wp2_with fail
    exact HF.out
theorem cand0_at (p : List Ln) (pv : Value) (n : Nat) (W : World) (hval : valP p = 0) (hn : n < p.length) (hp : LinesAt W pv p) (R' : Ending → World → Prop) (hR' : ∀ W' v, Grow W W' → LinesAt W' v (candAt p 0 n) → R' (.returned v) W') :
    Calls Tryz.prog 121 #[pv, .int .i64 n, .iface 137 (.agg #[])] W R' := by
  obtain ⟨⟨op, d, a, b⟩, hx⟩ : ∃ l, p[n]? = some l := ⟨_, List.getElem?_eq_getElem hn⟩
  have hl : lineAt p (n : Int) = ⟨op, d, a, b⟩ := by unfold lineAt; rw [show ((n : Int)).toNat = n by omega, hx]; rfl
  have hok : vL op d a b = true := (valP_ok.1 hval).2 _ (List.mem_of_getElem? hx)
  have h8 := (valP_ok.1 hval).1
  unfold candAt at hR'
  rw [hl] at hR'
  exact cand0_any p n op d a b _ _ hp hx hok R' hR'
theorem cand1_at (p : List Ln) (pv : Value) (n : Nat) (W : World) (hval : valP p = 0) (hn : n < p.length) (hp : LinesAt W pv p) (R' : Ending → World → Prop) (hR' : ∀ W' v, Grow W W' → LinesAt W' v (candAt p 1 n) → R' (.returned v) W') :
    Calls Tryz.prog 121 #[pv, .int .i64 n, .iface 138 (.agg #[])] W R' := by
  obtain ⟨⟨op, d, a, b⟩, hx⟩ : ∃ l, p[n]? = some l := ⟨_, List.getElem?_eq_getElem hn⟩
  have hl : lineAt p (n : Int) = ⟨op, d, a, b⟩ := by unfold lineAt; rw [show ((n : Int)).toNat = n by omega, hx]; rfl
  have hok : vL op d a b = true := (valP_ok.1 hval).2 _ (List.mem_of_getElem? hx)
  have h8 := (valP_ok.1 hval).1
  unfold candAt at hR'
  rw [hl] at hR'
  exact cand1_any p n op d a b _ _ hp hx (by omega) R' hR'
theorem cand2_at (p : List Ln) (pv : Value) (n : Nat) (W : World) (hval : valP p = 0) (hn : n < p.length) (hp : LinesAt W pv p) (R' : Ending → World → Prop) (hR' : ∀ W' v, Grow W W' → LinesAt W' v (candAt p 2 n) → R' (.returned v) W') :
    Calls Tryz.prog 121 #[pv, .int .i64 n, .iface 139 (.agg #[])] W R' := by
  obtain ⟨⟨op, d, a, b⟩, hx⟩ : ∃ l, p[n]? = some l := ⟨_, List.getElem?_eq_getElem hn⟩
  have hl : lineAt p (n : Int) = ⟨op, d, a, b⟩ := by unfold lineAt; rw [show ((n : Int)).toNat = n by omega, hx]; rfl
  have hok : vL op d a b = true := (valP_ok.1 hval).2 _ (List.mem_of_getElem? hx)
  have h8 := (valP_ok.1 hval).1
  unfold candAt at hR'
  rw [hl] at hR'
  exact cand2_any p n op d a b _ _ hp hx  R' hR'
theorem candAt_len {p : List Ln} {kind : Int} (hval : valP p = 0) (k0 : 0 ≤ kind) (k2 : kind ≤ 2) : ∀ n : Nat, n < p.length → (candAt p kind n).length ≤ 1000 := fun _ hn =>
  candL_len (lineAt_ok hval (by omega) (by omega)) k0 k2

set_option maxRecDepth 100000 in
set_option maxHeartbeats 8000000 in
theorem every_any (p : List Ln) (ts : List Tst) (kv : Value) (C : Nat → List Ln) (pv tv : Value) (w : World) (hp : LinesAt w pv p) (ht : TestsAt w tv ts) (hp8 : p.length ≤ 8) (hC : ∀ n, n < p.length → (C n).length ≤ 1000)
    (hcand : ∀ (n : Nat) (W : World), n < p.length → LinesAt W pv p → ∀ R' : Ending → World → Prop, (∀ W' v, Grow W W' → LinesAt W' v (C n) → R' (.returned v) W') → Calls Tryz.prog 121 #[pv, .int .i64 n, kv] W R') (R : Ending → World → Prop)
    (hR : ∀ w' v, Grow w w' → Own 5 encE w.heap.size w' v (everyN p ts C p.length) → R (.returned v) w') :
    Calls Tryz.prog 84 #[pv, tv, kv] w R := by
  have HP := Lib.hid hp
  have HT := Lib.hid ht
  have HR := Lib.hid hR
  have HC := Lib.hid hcand
  have HL := Lib.hid hC
  obtain ⟨pa, pc, rfl, p1, p2, _⟩ := hp
  obtain ⟨⟨ta, tc, rfl, _⟩, _⟩ := ht
  clear hR hcand hC
  go_enter Tryz.func84, Tryz.ntmps84
  go_wp2_with fail
  go_loopw [7, 8, 11] (fun out _ i wr => ∃ k : Nat, k ≤ p.length ∧ i = .int .i64 k ∧ Grow w wr ∧ wr.ownsRow w.heap.size 27 5 out (everyN p ts C k).length ((everyN p ts C k).flatMap encE)) (fun _ _ i _ => p.length - (intOf i).toNat)
  case atStart => exact ⟨0, Nat.zero_le _, rfl, Grow.refl _, World.ownsRow_nil _ _ _ _⟩
  case round =>
    obtain ⟨k, hk, rfl, hg, how⟩ := hrel
    have HG := Lib.hid hg
    have HOW := Lib.hid how
    have hzw := hg.sz
    clear hg how
    by_cases hlt : k < p.length
    · have hlt2 : (k : Int) < (p.length : Int) := by omega
      have HS := Lib.hid (everyN_succ p ts C k)
      have hLk := HL.out k hlt
      have HLB := Lib.hid (show (everyN p ts C k).length + (fixE p ts k (C k)).length < 100000000000 by have := everyN_len HL.out k (by omega) (ts := ts); have := fixE_len p ts k (C k); omega)
      have HCK := Lib.hid (HC.out k wr hlt (HP.out.grow HG.out))
      go_wp2_with fail
      refine fixes_any p ts k kv (C k) _ _ _ (HP.out.grow HG.out) (HT.out.grow HG.out) (by omega) HCK.out _ ?_
      intro w2 v2 hg2 hv2
      have HV2 := Lib.hid (hv2.slc encE_len)
      have HG2 := Lib.hid hg2
      have hsl := hv2.slc encE_len
      obtain ⟨a2, c2, rfl, _⟩ := hsl
      clear hg2 hv2
      go_wp2_with (at_builtin; refine wpList_appAll _ rfl (.tmp 14) (.tmp 19) 31 rfl w.heap.size 27 Tryz.underlying31 info_ed rfl (by decide) (by decide) encE encE_len encE_one _ (everyN p ts C k) rfl (HG2.out.owns HOW.out) _ (fixE p ts k (C k)) rfl HV2.out HLB.out (by have := HG.out.sz; have := HG2.out.sz; omega) ?_; intro out2 w3 hown2 hgr2)
      have HG3 := Lib.hid (show Grow w w3 from grown_below HOW.out hgr2 (Nat.le_refl _) (by have := HG.out.sz; have := HG2.out.sz; omega) (HG.out.trans HG2.out))
      have HO2 := Lib.hid hown2
      clear hown2 hgr2
      go_roundw
      case rel => exact ⟨k + 1, by omega, by go_num, HG3.out, by rw [HS.out]; exact HO2.out⟩
      case measure => simp [intOf]; omega
    · have hkn : k = p.length := by omega
      have HO2 := HOW.out
      rw [hkn] at HO2
      have HF := Lib.hid (HR.out _ _ HG.out ⟨_, HO2⟩)
      clear HO2 hkn
      go_wp2_with fail
      exact HF.out

set_option maxRecDepth 100000 in
set_option maxHeartbeats 16000000 in
theorem Count_any (p : List Ln) (ts : List Tst) (kind : Int) (pv tv : Value) (w : World) (hp : LinesAt w pv p) (ht : TestsAt w tv ts) (R : Ending → World → Prop)
    (hR : ∀ w', Grow w w' → R (.returned (.tuple #[.int .i64 (cntO p ts kind), .int .i64 (sgtE p ts kind)])) w') :
    Calls Tryz.prog 33 #[pv, tv, .int .i64 kind] w R := by
  have HP := Lib.hid hp
  have HT := Lib.hid ht
  rw [show cntO p ts kind = if sgtE p ts kind = 0 then cntR p ts kind p.length else 0 from rfl] at hR
  have HR := Lib.hid hR
  obtain ⟨e, he⟩ : ∃ e, sgtE p ts kind = e := ⟨_, rfl⟩
  have hok := fun h : e = 0 => sgtE_ok.1 (he.trans h)
  rw [he] at HR
  have HE := Lib.hid he
  obtain ⟨pa, pc, rfl, r1, r2, _⟩ := hp
  obtain ⟨⟨ta, tc, rfl, _⟩, _⟩ := ht
  clear hR he
  by_cases z1 : e = 0
  rotate_left
  · rw [if_neg z1] at HR
    have t1 : (e != 0) = true := by simpa using z1
    clear hok z1
    go_enter Tryz.func33, Tryz.ntmps33
    go_wp2_with fail
    refine kinded_any p ts kind _ _ _ HP.out HT.out _ ?_
    intro w1 hg1
    rw [HE.out]
    have HF := Lib.hid (HR.out w1 hg1)
    clear hg1
    go_wp2_with fail
    exact HF.out
  obtain ⟨⟨hv, hvt⟩, ⟨k0, k2⟩, _⟩ := hok z1
  subst z1
  rw [if_pos rfl] at HR
  have hp8 := (valP_ok.1 hv).1
  have HV := Lib.hid hv
  have hcnt := everyN_cnt hv hvt k0 k2 p.length (Nat.le_refl _)
  have hplc := everyN_plc hv hvt k0 k2 p.length (Nat.le_refl _)
  have hlen := everyN_len (ts := ts) (candAt_len hv k0 k2) p.length (Nat.le_refl _)
  have HCL := Lib.hid (candAt_len hv k0 k2)
  clear hok hv hvt
  have hk : kind = 0 ∨ kind = 1 ∨ kind = 2 := by omega
  clear k0 k2
  rcases hk with rfl | rfl | rfl
  · skip
    go_enter Tryz.func33, Tryz.ntmps33
    go_wp2_with fail
    refine kinded_any p ts 0 _ _ _ HP.out HT.out _ ?_
    intro w1 hg1
    rw [HE.out]
    have HG1 := Lib.hid hg1
    clear hg1
    go_wp2_with fail
    refine sources_any _ _ ?_
    go_wp2_with fail
    refine every_any p ts (.iface 137 (.agg #[])) (candAt p 0) _ _ _ (HP.out.grow (HG1.out.alloc _)) (HT.out.grow (HG1.out.alloc _)) hp8 HCL.out (fun n W hn hW R' hR' => cand0_at p _ n W HV.out hn hW R' hR') _ ?_
    intro w3 v3 hg3 hv3
    obtain ⟨E, hE⟩ : ∃ E, everyN p ts (candAt p 0) p.length = E := ⟨_, rfl⟩
    have hs3 := hv3.slc encE_len
    rw [hE] at hs3 hcnt hplc hlen
    have HS3 := Lib.hid hs3
    obtain ⟨a3, c3, rfl, s1, s2, _⟩ := hs3
    have HG3 := Lib.hid (Grow.trans (HG1.out.alloc _) hg3)
    clear hg3 hv3 hE
    rw [← hcnt] at HR
    have HF := Lib.hid (HR.out w3 HG3.out)
    clear hcnt hplc
    go_wp2_with fail
    exact HF.out
  · skip
    go_enter Tryz.func33, Tryz.ntmps33
    go_wp2_with fail
    refine kinded_any p ts 1 _ _ _ HP.out HT.out _ ?_
    intro w1 hg1
    rw [HE.out]
    have HG1 := Lib.hid hg1
    clear hg1
    go_wp2_with fail
    refine sources_any _ _ ?_
    go_wp2_with fail
    refine every_any p ts (.iface 138 (.agg #[])) (candAt p 1) _ _ _ (HP.out.grow (HG1.out.alloc _)) (HT.out.grow (HG1.out.alloc _)) hp8 HCL.out (fun n W hn hW R' hR' => cand1_at p _ n W HV.out hn hW R' hR') _ ?_
    intro w3 v3 hg3 hv3
    obtain ⟨E, hE⟩ : ∃ E, everyN p ts (candAt p 1) p.length = E := ⟨_, rfl⟩
    have hs3 := hv3.slc encE_len
    rw [hE] at hs3 hcnt hplc hlen
    have HS3 := Lib.hid hs3
    obtain ⟨a3, c3, rfl, s1, s2, _⟩ := hs3
    have HG3 := Lib.hid (Grow.trans (HG1.out.alloc _) hg3)
    clear hg3 hv3 hE
    rw [← hcnt] at HR
    have HF := Lib.hid (HR.out w3 HG3.out)
    clear hcnt hplc
    go_wp2_with fail
    exact HF.out
  · skip
    go_enter Tryz.func33, Tryz.ntmps33
    go_wp2_with fail
    refine kinded_any p ts 2 _ _ _ HP.out HT.out _ ?_
    intro w1 hg1
    rw [HE.out]
    have HG1 := Lib.hid hg1
    clear hg1
    go_wp2_with fail
    refine sources_any _ _ ?_
    go_wp2_with fail
    refine every_any p ts (.iface 139 (.agg #[])) (candAt p 2) _ _ _ (HP.out.grow (HG1.out.alloc _)) (HT.out.grow (HG1.out.alloc _)) hp8 HCL.out (fun n W hn hW R' hR' => cand2_at p _ n W HV.out hn hW R' hR') _ ?_
    intro w3 v3 hg3 hv3
    obtain ⟨E, hE⟩ : ∃ E, everyN p ts (candAt p 2) p.length = E := ⟨_, rfl⟩
    have hs3 := hv3.slc encE_len
    rw [hE] at hs3 hcnt hplc hlen
    have HS3 := Lib.hid hs3
    obtain ⟨a3, c3, rfl, s1, s2, _⟩ := hs3
    have HG3 := Lib.hid (Grow.trans (HG1.out.alloc _) hg3)
    clear hg3 hv3 hE
    rw [← hcnt] at HR
    have HF := Lib.hid (HR.out w3 HG3.out)
    clear hcnt hplc
    go_wp2_with fail
    exact HF.out
set_option maxRecDepth 100000 in
set_option maxHeartbeats 16000000 in
theorem Places_any (p : List Ln) (ts : List Tst) (kind : Int) (pv tv : Value) (w : World) (hp : LinesAt w pv p) (ht : TestsAt w tv ts) (R : Ending → World → Prop)
    (hR : ∀ w' v, Grow w w' → IntsAt w' v (plcO p ts kind) → R (.returned (.tuple #[v, .int .i64 (sgtE p ts kind)])) w') :
    Calls Tryz.prog 35 #[pv, tv, .int .i64 kind] w R := by
  have HP := Lib.hid hp
  have HT := Lib.hid ht
  rw [show plcO p ts kind = if sgtE p ts kind = 0 then plcR p ts kind p.length else [] from rfl] at hR
  have HR := Lib.hid hR
  obtain ⟨e, he⟩ : ∃ e, sgtE p ts kind = e := ⟨_, rfl⟩
  have hok := fun h : e = 0 => sgtE_ok.1 (he.trans h)
  rw [he] at HR
  have HE := Lib.hid he
  obtain ⟨pa, pc, rfl, r1, r2, _⟩ := hp
  obtain ⟨⟨ta, tc, rfl, _⟩, _⟩ := ht
  clear hR he
  by_cases z1 : e = 0
  rotate_left
  · rw [if_neg z1] at HR
    have t1 : (e != 0) = true := by simpa using z1
    clear hok z1
    go_enter Tryz.func35, Tryz.ntmps35
    go_wp2_with fail
    refine kinded_any p ts kind _ _ _ HP.out HT.out _ ?_
    intro w1 hg1
    rw [HE.out]
    have HF := Lib.hid (HR.out w1 (.slice none 0 0) hg1 (SlcAt.nil _ _ _))
    clear hg1
    go_wp2_with fail
    exact HF.out
  obtain ⟨⟨hv, hvt⟩, ⟨k0, k2⟩, _⟩ := hok z1
  subst z1
  rw [if_pos rfl] at HR
  have hp8 := (valP_ok.1 hv).1
  have HV := Lib.hid hv
  have hcnt := everyN_cnt hv hvt k0 k2 p.length (Nat.le_refl _)
  have hplc := everyN_plc hv hvt k0 k2 p.length (Nat.le_refl _)
  have hlen := everyN_len (ts := ts) (candAt_len hv k0 k2) p.length (Nat.le_refl _)
  have HCL := Lib.hid (candAt_len hv k0 k2)
  clear hok hv hvt
  have hk : kind = 0 ∨ kind = 1 ∨ kind = 2 := by omega
  clear k0 k2
  rcases hk with rfl | rfl | rfl
  · skip
    go_enter Tryz.func35, Tryz.ntmps35
    go_wp2_with fail
    refine kinded_any p ts 0 _ _ _ HP.out HT.out _ ?_
    intro w1 hg1
    rw [HE.out]
    have HG1 := Lib.hid hg1
    clear hg1
    go_wp2_with fail
    refine sources_any _ _ ?_
    go_wp2_with fail
    refine every_any p ts (.iface 137 (.agg #[])) (candAt p 0) _ _ _ (HP.out.grow (HG1.out.alloc _)) (HT.out.grow (HG1.out.alloc _)) hp8 HCL.out (fun n W hn hW R' hR' => cand0_at p _ n W HV.out hn hW R' hR') _ ?_
    intro w3 v3 hg3 hv3
    obtain ⟨E, hE⟩ : ∃ E, everyN p ts (candAt p 0) p.length = E := ⟨_, rfl⟩
    have hs3 := hv3.slc encE_len
    rw [hE] at hs3 hcnt hplc hlen
    have HS3 := Lib.hid hs3
    obtain ⟨a3, c3, rfl, s1, s2, _⟩ := hs3
    have HG3 := Lib.hid (Grow.trans (HG1.out.alloc _) hg3)
    clear hg3 hv3 hE
    rw [← hplc] at HR
    clear hcnt hplc
    go_wp2_with fail
    go_loopw [9, 11, 27] (fun out _ i wr => ∃ k : Nat, k ≤ E.length ∧ i = .int .i64 k ∧ Grow w3 wr ∧ wr.ownsRow w3.heap.size 3 1 out ((E.take k).map Ed.at_).length (((E.take k).map Ed.at_).flatMap encI)) (fun _ _ i _ => E.length - (intOf i).toNat)
    case atStart => exact ⟨0, Nat.zero_le _, rfl, Grow.refl _, World.ownsRow_nil _ _ _ _⟩
    case round =>
      obtain ⟨k, hk, rfl, hg, how⟩ := hrel
      have HG := Lib.hid hg
      have HOW := Lib.hid how
      have hzw := hg.sz
      clear hg how
      by_cases hlt : k < E.length
      · obtain ⟨⟨t, o1, d1, a1', b1⟩, hx⟩ : ∃ x, E[k]? = some x := ⟨_, List.getElem?_eq_getElem hlt⟩
        obtain ⟨gb, o, rfl, hgb, y0, y1, y2, y3, y4⟩ := edits_at (HS3.out.grow HG.out) hx
        have HTK := Lib.hid (show (E.take (k + 1)).map Ed.at_ = (E.take k).map Ed.at_ ++ [t] by rw [List.take_add_one, hx, List.map_append]; rfl)
        have HLB := Lib.hid (show ((E.take k).map Ed.at_).length < 100000000000 by rw [List.length_map, List.length_take]; omega)
        clear hx
        have hgb1 := (Grow.refl wr).alloc (.cells #[.int .i64 t, .int .i64 o1, .int .i64 d1, .int .i64 a1', .int .i64 b1] 27)
        go_wp2_with (at_builtin; refine wpList_app _ rfl (.tmp 31) (.tmp 34) 35 rfl w3.heap.size 3 Tryz.underlying35 info_int rfl (by decide) (by decide) encI encI_len encI_one _ ((E.take k).map Ed.at_) rfl ((hgb1.alloc _).owns HOW.out) _ t 1 rfl (newsG _ _ (by simp) (encI t) _) HLB.out (by simp; omega) ?_; intro out2 w4 hown2 hgr2)
        have HG4 := Lib.hid (show Grow w3 w4 from grown_below HOW.out hgr2 (Nat.le_refl _) (by simp; omega) (HG.out.trans (hgb1.alloc _)))
        have HO2 := Lib.hid hown2
        clear hown2 hgr2
        go_roundw
        case rel => exact ⟨k + 1, by omega, by go_num, HG4.out, by rw [HTK.out]; exact HO2.out⟩
        case measure => simp [intOf]; omega
      · have hkn : k = E.length := by omega
        have HO2 := HOW.out
        rw [hkn, List.take_length] at HO2
        have HO3 := Lib.hid HO2
        have HLL := Lib.hid (show (E.map Ed.at_).length < 1000000000000 by rw [List.length_map]; omega)
        clear HO2 hkn
        go_wp2_with fail
        refine compactO_any w3.heap.size (E.map Ed.at_) _ _ ⟨_, HO3.out⟩ HLL.out w.heap.size (by have := HG3.out.sz; omega) _ ?_
        intro w5 v5 hb5 hv5
        have HF := Lib.hid (HR.out w5 v5 (Below.trans (HG3.out.trans HG.out) hb5) hv5)
        clear hb5 hv5
        go_wp2_with fail
        exact HF.out
  · skip
    go_enter Tryz.func35, Tryz.ntmps35
    go_wp2_with fail
    refine kinded_any p ts 1 _ _ _ HP.out HT.out _ ?_
    intro w1 hg1
    rw [HE.out]
    have HG1 := Lib.hid hg1
    clear hg1
    go_wp2_with fail
    refine sources_any _ _ ?_
    go_wp2_with fail
    refine every_any p ts (.iface 138 (.agg #[])) (candAt p 1) _ _ _ (HP.out.grow (HG1.out.alloc _)) (HT.out.grow (HG1.out.alloc _)) hp8 HCL.out (fun n W hn hW R' hR' => cand1_at p _ n W HV.out hn hW R' hR') _ ?_
    intro w3 v3 hg3 hv3
    obtain ⟨E, hE⟩ : ∃ E, everyN p ts (candAt p 1) p.length = E := ⟨_, rfl⟩
    have hs3 := hv3.slc encE_len
    rw [hE] at hs3 hcnt hplc hlen
    have HS3 := Lib.hid hs3
    obtain ⟨a3, c3, rfl, s1, s2, _⟩ := hs3
    have HG3 := Lib.hid (Grow.trans (HG1.out.alloc _) hg3)
    clear hg3 hv3 hE
    rw [← hplc] at HR
    clear hcnt hplc
    go_wp2_with fail
    go_loopw [9, 11, 27] (fun out _ i wr => ∃ k : Nat, k ≤ E.length ∧ i = .int .i64 k ∧ Grow w3 wr ∧ wr.ownsRow w3.heap.size 3 1 out ((E.take k).map Ed.at_).length (((E.take k).map Ed.at_).flatMap encI)) (fun _ _ i _ => E.length - (intOf i).toNat)
    case atStart => exact ⟨0, Nat.zero_le _, rfl, Grow.refl _, World.ownsRow_nil _ _ _ _⟩
    case round =>
      obtain ⟨k, hk, rfl, hg, how⟩ := hrel
      have HG := Lib.hid hg
      have HOW := Lib.hid how
      have hzw := hg.sz
      clear hg how
      by_cases hlt : k < E.length
      · obtain ⟨⟨t, o1, d1, a1', b1⟩, hx⟩ : ∃ x, E[k]? = some x := ⟨_, List.getElem?_eq_getElem hlt⟩
        obtain ⟨gb, o, rfl, hgb, y0, y1, y2, y3, y4⟩ := edits_at (HS3.out.grow HG.out) hx
        have HTK := Lib.hid (show (E.take (k + 1)).map Ed.at_ = (E.take k).map Ed.at_ ++ [t] by rw [List.take_add_one, hx, List.map_append]; rfl)
        have HLB := Lib.hid (show ((E.take k).map Ed.at_).length < 100000000000 by rw [List.length_map, List.length_take]; omega)
        clear hx
        have hgb1 := (Grow.refl wr).alloc (.cells #[.int .i64 t, .int .i64 o1, .int .i64 d1, .int .i64 a1', .int .i64 b1] 27)
        go_wp2_with (at_builtin; refine wpList_app _ rfl (.tmp 31) (.tmp 34) 35 rfl w3.heap.size 3 Tryz.underlying35 info_int rfl (by decide) (by decide) encI encI_len encI_one _ ((E.take k).map Ed.at_) rfl ((hgb1.alloc _).owns HOW.out) _ t 1 rfl (newsG _ _ (by simp) (encI t) _) HLB.out (by simp; omega) ?_; intro out2 w4 hown2 hgr2)
        have HG4 := Lib.hid (show Grow w3 w4 from grown_below HOW.out hgr2 (Nat.le_refl _) (by simp; omega) (HG.out.trans (hgb1.alloc _)))
        have HO2 := Lib.hid hown2
        clear hown2 hgr2
        go_roundw
        case rel => exact ⟨k + 1, by omega, by go_num, HG4.out, by rw [HTK.out]; exact HO2.out⟩
        case measure => simp [intOf]; omega
      · have hkn : k = E.length := by omega
        have HO2 := HOW.out
        rw [hkn, List.take_length] at HO2
        have HO3 := Lib.hid HO2
        have HLL := Lib.hid (show (E.map Ed.at_).length < 1000000000000 by rw [List.length_map]; omega)
        clear HO2 hkn
        go_wp2_with fail
        refine compactO_any w3.heap.size (E.map Ed.at_) _ _ ⟨_, HO3.out⟩ HLL.out w.heap.size (by have := HG3.out.sz; omega) _ ?_
        intro w5 v5 hb5 hv5
        have HF := Lib.hid (HR.out w5 v5 (Below.trans (HG3.out.trans HG.out) hb5) hv5)
        clear hb5 hv5
        go_wp2_with fail
        exact HF.out
  · skip
    go_enter Tryz.func35, Tryz.ntmps35
    go_wp2_with fail
    refine kinded_any p ts 2 _ _ _ HP.out HT.out _ ?_
    intro w1 hg1
    rw [HE.out]
    have HG1 := Lib.hid hg1
    clear hg1
    go_wp2_with fail
    refine sources_any _ _ ?_
    go_wp2_with fail
    refine every_any p ts (.iface 139 (.agg #[])) (candAt p 2) _ _ _ (HP.out.grow (HG1.out.alloc _)) (HT.out.grow (HG1.out.alloc _)) hp8 HCL.out (fun n W hn hW R' hR' => cand2_at p _ n W HV.out hn hW R' hR') _ ?_
    intro w3 v3 hg3 hv3
    obtain ⟨E, hE⟩ : ∃ E, everyN p ts (candAt p 2) p.length = E := ⟨_, rfl⟩
    have hs3 := hv3.slc encE_len
    rw [hE] at hs3 hcnt hplc hlen
    have HS3 := Lib.hid hs3
    obtain ⟨a3, c3, rfl, s1, s2, _⟩ := hs3
    have HG3 := Lib.hid (Grow.trans (HG1.out.alloc _) hg3)
    clear hg3 hv3 hE
    rw [← hplc] at HR
    clear hcnt hplc
    go_wp2_with fail
    go_loopw [9, 11, 27] (fun out _ i wr => ∃ k : Nat, k ≤ E.length ∧ i = .int .i64 k ∧ Grow w3 wr ∧ wr.ownsRow w3.heap.size 3 1 out ((E.take k).map Ed.at_).length (((E.take k).map Ed.at_).flatMap encI)) (fun _ _ i _ => E.length - (intOf i).toNat)
    case atStart => exact ⟨0, Nat.zero_le _, rfl, Grow.refl _, World.ownsRow_nil _ _ _ _⟩
    case round =>
      obtain ⟨k, hk, rfl, hg, how⟩ := hrel
      have HG := Lib.hid hg
      have HOW := Lib.hid how
      have hzw := hg.sz
      clear hg how
      by_cases hlt : k < E.length
      · obtain ⟨⟨t, o1, d1, a1', b1⟩, hx⟩ : ∃ x, E[k]? = some x := ⟨_, List.getElem?_eq_getElem hlt⟩
        obtain ⟨gb, o, rfl, hgb, y0, y1, y2, y3, y4⟩ := edits_at (HS3.out.grow HG.out) hx
        have HTK := Lib.hid (show (E.take (k + 1)).map Ed.at_ = (E.take k).map Ed.at_ ++ [t] by rw [List.take_add_one, hx, List.map_append]; rfl)
        have HLB := Lib.hid (show ((E.take k).map Ed.at_).length < 100000000000 by rw [List.length_map, List.length_take]; omega)
        clear hx
        have hgb1 := (Grow.refl wr).alloc (.cells #[.int .i64 t, .int .i64 o1, .int .i64 d1, .int .i64 a1', .int .i64 b1] 27)
        go_wp2_with (at_builtin; refine wpList_app _ rfl (.tmp 31) (.tmp 34) 35 rfl w3.heap.size 3 Tryz.underlying35 info_int rfl (by decide) (by decide) encI encI_len encI_one _ ((E.take k).map Ed.at_) rfl ((hgb1.alloc _).owns HOW.out) _ t 1 rfl (newsG _ _ (by simp) (encI t) _) HLB.out (by simp; omega) ?_; intro out2 w4 hown2 hgr2)
        have HG4 := Lib.hid (show Grow w3 w4 from grown_below HOW.out hgr2 (Nat.le_refl _) (by simp; omega) (HG.out.trans (hgb1.alloc _)))
        have HO2 := Lib.hid hown2
        clear hown2 hgr2
        go_roundw
        case rel => exact ⟨k + 1, by omega, by go_num, HG4.out, by rw [HTK.out]; exact HO2.out⟩
        case measure => simp [intOf]; omega
      · have hkn : k = E.length := by omega
        have HO2 := HOW.out
        rw [hkn, List.take_length] at HO2
        have HO3 := Lib.hid HO2
        have HLL := Lib.hid (show (E.map Ed.at_).length < 1000000000000 by rw [List.length_map]; omega)
        clear HO2 hkn
        go_wp2_with fail
        refine compactO_any w3.heap.size (E.map Ed.at_) _ _ ⟨_, HO3.out⟩ HLL.out w.heap.size (by have := HG3.out.sz; omega) _ ?_
        intro w5 v5 hb5 hv5
        have HF := Lib.hid (HR.out w5 v5 (Below.trans (HG3.out.trans HG.out) hb5) hv5)
        clear hb5 hv5
        go_wp2_with fail
        exact HF.out
end Go.Proofs.YtbccbokjecdaaaaGreat

namespace Go.Proofs.YtbccbokjecdaaaaGreat
open Go.RowKit

/-- A list of edits as it lies in a cell. -/
structure Lst where
  a : Option Addr
  n : Nat
  c : Nat
  x : List Ed
abbrev Lst.v (t : Lst) : Value := .slice t.a t.n t.c
def encW (t : Lst) : List Value := [t.v]
theorem encW_len (t : Lst) : (encW t).length = 1 := rfl
structure ListsAt (w : World) (v : Value) (L : List Lst) : Prop where
  at_ : SlcAt 1 encW w v L
  ins : ∀ t ∈ L, EditsAt w t.v t.x
theorem ListsAt.grow {w w' : World} {v : Value} {L : List Lst} (h : ListsAt w v L) (g : Grow w w') : ListsAt w' v L := ⟨h.at_.grow g, fun t ht => (h.ins t ht).grow g⟩
theorem lists_at {w : World} {a : Option Addr} {n c : Nat} {L : List Lst} (h : SlcAt 1 encW w (.slice a n c) L) {k : Nat} {t : Lst} (hx : L[k]? = some t) : ∃ b o, a = some ⟨b, o, none⟩ ∧ b < w.heap.size ∧ w.cell? ⟨b, o + k, none⟩ = some t.v := by
  obtain ⟨_, _, e, _, _, h⟩ := h
  cases e
  obtain ⟨b, o, rfl, hb, hc⟩ := h.resolve_left (by intro h0; rw [h0.1] at hx; simp at hx)
  exact ⟨b, o, rfl, hb, by simpa using hc k t hx 0 _ rfl⟩
/-- The first one of the smallest numbers of a list stands at the place j. -/
def FirstMin (S : List Int) (j : Nat) (m : Int) : Prop := S[j]? = some m ∧ ∀ (i : Nat) (s : Int), S[i]? = some s → m ≤ s ∧ (i < j → m < s)
theorem FirstMin.uniq {S : List Int} {j j' : Nat} {m m' : Int} (h : FirstMin S j m) (h' : FirstMin S j' m') : j = j' ∧ m = m' := by
  have a := h.2 j' m' h'.1
  have b := h'.2 j m h.1
  refine ⟨?_, by omega⟩
  by_cases h1 : j = j'
  · exact h1
  · have : j < j' ∨ j' < j := by omega
    rcases this with q | q
    · have := b.2 q; omega
    · have := a.2 q; omega
theorem FirstMin.step {S : List Int} {k j : Nat} {m s : Int} (h : FirstMin (S.take k) j m) (hs : S[k]? = some s) : (s < m → FirstMin (S.take (k + 1)) k s) ∧ (¬ s < m → FirstMin (S.take (k + 1)) j m) := by
  have hk : k < S.length := (List.getElem?_eq_some_iff.1 hs).1
  have hj : j < k := by
    have := (List.getElem?_eq_some_iff.1 h.1).1
    rw [List.length_take] at this; omega
  have key : ∀ (i : Nat) (t : Int), (S.take (k + 1))[i]? = some t → (i < k ∧ (S.take k)[i]? = some t) ∨ (i = k ∧ t = s) := by
    intro i t ht
    rw [List.getElem?_take] at ht
    split at ht
    · next hi =>
      by_cases e : i = k
      · subst e; rw [hs] at ht; exact .inr ⟨rfl, (Option.some.inj ht).symm⟩
      · exact .inl ⟨by omega, by rw [List.getElem?_take, if_pos (by omega)]; exact ht⟩
    · cases ht
  constructor
  · intro hlt
    refine ⟨by rw [List.getElem?_take, if_pos (by omega)]; exact hs, fun i t ht => ?_⟩
    rcases key i t ht with ⟨hi, h2⟩ | ⟨rfl, rfl⟩
    · have := h.2 i t h2
      exact ⟨by omega, fun _ => by omega⟩
    · exact ⟨by omega, fun e => by omega⟩
  · intro hlt
    have h1 := h.1
    rw [List.getElem?_take, if_pos hj] at h1
    refine ⟨by rw [List.getElem?_take, if_pos (by omega)]; exact h1, fun i t ht => ?_⟩
    rcases key i t ht with ⟨hi, h2⟩ | ⟨rfl, rfl⟩
    · exact h.2 i t h2
    · exact ⟨by omega, fun e => by omega⟩
theorem FirstMin.one {S : List Int} {m : Int} (h : S[0]? = some m) : FirstMin (S.take 1) 0 m := by
  refine ⟨by rw [List.getElem?_take, if_pos (by omega)]; exact h, fun i s hs => ?_⟩
  rw [List.getElem?_take] at hs
  split at hs
  · next hi =>
    have : i = 0 := by omega
    subst this
    rw [h] at hs
    cases hs
    exact ⟨by omega, fun e => by omega⟩
  · cases hs

/-- A comparison of two lists of edits that a function with captured values answers. -/
def CmpE (g : Nat) (cb : Array Value) (w : World) (sz : List Ed → Int) : Prop :=
  ∀ (t u : Lst) (W : World), Grow w W → EditsAt W t.v t.x → EditsAt W u.v u.x → ∀ R : Ending → World → Prop, (∀ W', Grow W W' → R (.returned (.int .i64 (cmpI (sz t.x) (sz u.x)))) W') → Calls Tryz.prog g (#[t.v, u.v] ++ cb) W R
theorem cmpI_lt {x y : Int} : cmpI x y < 0 ↔ x < y := by unfold cmpI; split <;> (try split) <;> omega

set_option maxHeartbeats 4000000 in
theorem smallF_any (p : List Ln) (t u : Lst) (pv : Value) (b : Nat) (w : World) (hp : LinesAt w pv p) (ht : EditsAt w t.v t.x) (hu : EditsAt w u.v u.x) (hb : w.heap[b]? = some (.cells #[pv] 22 (0, 0))) (R : Ending → World → Prop)
    (hR : ∀ w', Grow w w' → R (.returned (.int .i64 (cmpI (sizeE p t.x) (sizeE p u.x)))) w') :
    Calls Tryz.prog 157 #[t.v, u.v, .pointer (some ⟨b, 0, none⟩)] w R := by
  have HP := Lib.hid hp
  have HT := Lib.hid ht
  have HU := Lib.hid hu
  have HR := Lib.hid hR
  obtain ⟨s, hs⟩ : ∃ s, sizeE p t.x = s := ⟨_, rfl⟩
  obtain ⟨s', hs'⟩ : ∃ s, sizeE p u.x = s := ⟨_, rfl⟩
  rw [hs, hs'] at HR
  have HS := Lib.hid hs
  have HS2 := Lib.hid hs'
  obtain ⟨pa, pc, rfl, _⟩ := hp
  obtain ⟨ta, tn, tc, tx⟩ := t
  obtain ⟨ua, un, uc, ux⟩ := u
  obtain ⟨_, _, hv, _⟩ := ht
  obtain ⟨_, _, hv2, _⟩ := hu
  dsimp only [Lst.v] at hv hv2
  cases hv
  cases hv2
  dsimp only at HT HU HS HS2 ⊢
  have e0 := box1 hb
  have hz := lt_of_block hb
  clear hR hs hs' hb
  go_enter Tryz.func157, Tryz.ntmps157
  go_wp2_with fail
  refine wp_region_held_drew (S := fun X => X.cell? ⟨b, 0, none⟩ = some (.slice pa p.length pc) ∧ Grow w X) (by kernel_rfl) ⟨e0, (Grow.refl w).drew⟩ (fun hH => ?_)
  refine wpAnyH_take (i := 0) (v := .slice pa p.length pc) rfl (by kernel_rfl) (by kernel_rfl) (by kernel_rfl) (fun _ _ _ h => h) (Or.inl ⟨by rfl, ?_⟩) hH ?_
  · intro w9 hw9
    obtain ⟨d0, dg⟩ := hw9
    go_simp
  simp only [List.getElem_toArray, List.getElem_cons_zero, Act.put, List.setIfInBounds_toArray, List.set_cons_zero, List.set_cons_succ]
  refine wpAnyH_take (i := 1) (v := .slice ta tx.length tc) rfl (by kernel_rfl) (by kernel_rfl) (by kernel_rfl) (fun _ _ _ h => h) (Or.inl ⟨by rfl, ?_⟩) hH ?_
  · intro w9 hw9
    obtain ⟨d0, dg⟩ := hw9
    go_simp
  simp only [List.getElem_toArray, List.getElem_cons_succ, List.getElem_cons_zero, Act.put, List.setIfInBounds_toArray, List.set_cons_zero, List.set_cons_succ]
  refine wpAnyH_take (i := 3) (v := .slice pa p.length pc) rfl (by kernel_rfl) (by kernel_rfl) (by kernel_rfl) (fun _ _ _ h => h) (Or.inl ⟨by rfl, ?_⟩) hH ?_
  · intro w9 hw9
    obtain ⟨d0, dg⟩ := hw9
    go_simp
  simp only [List.getElem_toArray, List.getElem_cons_succ, List.getElem_cons_zero, Act.put, List.setIfInBounds_toArray, List.set_cons_zero, List.set_cons_succ]
  refine wpAnyH_take (i := 4) (v := .slice ua ux.length uc) rfl (by kernel_rfl) (by kernel_rfl) (by kernel_rfl) (fun _ _ _ h => h) (Or.inl ⟨by rfl, ?_⟩) hH ?_
  · intro w9 hw9
    obtain ⟨d0, dg⟩ := hw9
    go_simp
  simp only [List.getElem_toArray, List.getElem_cons_succ, List.getElem_cons_zero, Act.put, List.setIfInBounds_toArray, List.set_cons_zero, List.set_cons_succ]
  refine wpAnyH_ready (rs := [2]) (by kernel_rfl) (by simp) ?_
  refine AllReadyH.cons rfl (fun K hK => ?_) AllReadyH.nil
  go_simp
  refine size_any p tx _ _ _ (HP.out.grow hH.2) (HT.out.grow hH.2) _ ?_
  intro w8 hg8
  rw [HS.out]
  go_wp2_with fail
  refine hK.out _ _ ⟨hg8.cell hH.1, hH.2.trans hg8⟩ (fun hH2 => ?_)
  clear hK K hH
  have hH := hH2
  clear hH2
  refine wpAnyH_ready (rs := [5]) (by kernel_rfl) (by simp) ?_
  refine AllReadyH.cons rfl (fun K hK => ?_) AllReadyH.nil
  go_simp
  refine size_any p ux _ _ _ (HP.out.grow hH.2) (HU.out.grow hH.2) _ ?_
  intro w8 hg8
  rw [HS2.out]
  go_wp2_with fail
  refine hK.out _ _ ⟨hg8.cell hH.1, hH.2.trans hg8⟩ (fun hH2 => ?_)
  clear hK K hH
  have hH := hH2
  clear hH2
  refine wpAnyH_ready (rs := [6]) (by kernel_rfl) (by simp) ?_
  refine AllReadyH.cons rfl (fun K hK => ?_) AllReadyH.nil
  go_simp
  refine cmpI_any s s' _ _ ?_
  go_wp2_with fail
  refine hK.out _ _ hH (fun hH2 => ?_)
  clear hK K hH
  have hH := hH2
  clear hH2
  refine wpAnyH_take (i := 7) (v := .int .i64 (cmpI s s')) rfl (by kernel_rfl) (by kernel_rfl) (by kernel_rfl) (fun _ _ _ h => h) (Or.inl ⟨by rfl, ?_⟩) hH ?_
  · intro w9 hw9
    go_simp
  simp only [List.getElem_toArray, List.getElem_cons_succ, List.getElem_cons_zero, Act.put, List.setIfInBounds_toArray, List.set_cons_zero, List.set_cons_succ]
  refine wpAnyH_done (by kernel_rfl) ?_ _
  have HF := Lib.hid (HR.out _ hH.2)
  go_wp2_with fail
  exact HF.out

set_option maxHeartbeats 4000000 in
theorem minFunc_any (g : Nat) (cb : Array Value) (eg : Enters Tryz.prog g) (sz : List Ed → Int) (L : List Lst) (v : Value) (w : World) (hL : ListsAt w v L) (h0 : 0 < L.length) (hc : CmpE g cb w sz) (R : Ending → World → Prop)
    (hR : ∀ w' (j : Nat) t, Grow w w' → L[j]? = some t → FirstMin (L.map fun t => sz t.x) j (sz t.x) → R (.returned t.v) w') :
    Calls Tryz.prog 133 #[v, .func (.func g) #[] cb] w R := by
  have HL := Lib.hid hL
  have HR := Lib.hid hR
  have HC := Lib.hid hc
  obtain ⟨⟨a, c, rfl, h1, h2, _⟩, _⟩ := hL
  have hm : L.length ≤ 9223372036854775807 := by omega
  obtain ⟨⟨ta, tn, tc, tx⟩, ht⟩ : ∃ t, L[0]? = some t := ⟨_, List.getElem?_eq_getElem h0⟩
  obtain ⟨b, o, rfl, hb, e0⟩ := lists_at HL.out.at_ ht
  dsimp only [Lst.v] at e0
  simp only [Nat.add_zero] at e0
  have HT := Lib.hid ht
  have hl1 : ¬ (L.length : Int) < 1 := by omega
  have hl2 : (0 : Int) < (L.length : Int) := by omega
  unfold Enters at eg
  clear hR hc ht
  go_enter Tryz.func133, Tryz.ntmps133
  go_wp2_with fail
  go_loopw [5, 6] (fun m i wr => ∃ (k j : Nat) (t : Lst), 1 ≤ k ∧ k ≤ L.length ∧ i = .int .i64 k ∧ m = .slice t.a t.n t.c ∧ L[j]? = some t ∧ FirstMin ((L.map fun t => sz t.x).take k) j (sz t.x) ∧ Grow w wr) (fun _ i _ => L.length - (intOf i).toNat)
  case atStart => exact ⟨1, 0, ⟨ta, tn, tc, tx⟩, by omega, by omega, rfl, rfl, HT.out, FirstMin.one (by rw [List.getElem?_map, HT.out]; rfl), Grow.refl _⟩
  case round =>
    obtain ⟨k, j, ⟨ma, mn, mc, mx⟩, hk1, hk, rfl, rfl, hj, hfm, hg⟩ := hrel
    have HJ := Lib.hid hj
    have HFM := Lib.hid hfm
    have HG := Lib.hid hg
    clear hj hfm hg e0
    by_cases hlt : k < L.length
    · obtain ⟨⟨ua, un, uc, ux⟩, hu⟩ : ∃ t, L[k]? = some t := ⟨_, List.getElem?_eq_getElem hlt⟩
      obtain ⟨_, _, e, hb2, e1⟩ := lists_at (HL.out.grow HG.out).at_ hu
      cases e
      dsimp only [Lst.v] at e1
      have hk2 : (k : Int) < (L.length : Int) := by omega
      have HU := Lib.hid hu
      obtain ⟨h3, h4⟩ := HFM.out.step (s := sz ux) (by rw [List.getElem?_map, hu]; rfl)
      have HIU := Lib.hid ((HL.out.grow HG.out).ins _ (List.mem_of_getElem? hu))
      have HIM := Lib.hid ((HL.out.grow HG.out).ins _ (List.mem_of_getElem? HJ.out))
      have H3 := Lib.hid h3
      have H4 := Lib.hid h4
      have hci := cmpI_lt (x := sz ux) (y := sz mx)
      have HCC := Lib.hid (HC.out ⟨ua, un, uc, ux⟩ ⟨ma, mn, mc, mx⟩ wr HG.out HIU.out HIM.out)
      dsimp only at HCC
      generalize cmpI (sz ux) (sz mx) = q at hci HCC
      clear hu h3 h4
      by_cases hq : q < 0
      · have h5 := H3.out (hci.1 hq)
        have H5 := Lib.hid h5
        clear h5 hci
        go_wp2_with fail
        refine HCC.out _ ?_
        intro w1 hg1
        have e2 := hg1.cell e1
        have hb3 : b < w1.heap.size := Nat.lt_of_lt_of_le hb2 hg1.sz
        have HG2 := Lib.hid (HG.out.trans hg1)
        clear hg1 e1
        go_wp2_with fail
        go_roundw
        case rel => exact ⟨k + 1, k, ⟨ua, un, uc, ux⟩, by omega, by omega, by go_num, rfl, HU.out, H5.out, HG2.out⟩
        case measure => simp [intOf]; omega
      · have h5 := H4.out (fun h => hq (hci.2 h))
        have H5 := Lib.hid h5
        clear h5 hci
        go_wp2_with fail
        refine HCC.out _ ?_
        intro w1 hg1
        have HG2 := Lib.hid (HG.out.trans hg1)
        clear hg1 e1
        go_wp2_with fail
        go_roundw
        case rel => exact ⟨k + 1, j, ⟨ma, mn, mc, mx⟩, by omega, by omega, by go_num, rfl, HJ.out, H5.out, HG2.out⟩
        case measure => simp [intOf]; omega
    · have hkn : k = L.length := by omega
      have hfm := HFM.out
      rw [List.take_of_length_le (by rw [List.length_map]; omega)] at hfm
      have HF := Lib.hid (HR.out wr j ⟨ma, mn, mc, mx⟩ HG.out HJ.out hfm)
      clear hfm hkn
      go_wp2_with fail
      exact HF.out

set_option maxHeartbeats 4000000 in
theorem smallest_any (p : List Ln) (L : List Lst) (pv v : Value) (w : World) (hp : LinesAt w pv p) (hL : ListsAt w v L) (R : Ending → World → Prop)
    (hR0 : L = [] → ∀ w', Grow w w' → R (.returned (.tuple #[.slice none 0 0, .bool false])) w')
    (hR1 : ∀ w' (j : Nat) t, Grow w w' → L[j]? = some t → FirstMin (L.map fun t => sizeE p t.x) j (sizeE p t.x) → R (.returned (.tuple #[t.v, .bool true])) w') :
    Calls Tryz.prog 126 #[pv, v] w R := by
  have HP := Lib.hid hp
  have HL := Lib.hid hL
  have HR0 := Lib.hid hR0
  have HR1 := Lib.hid hR1
  obtain ⟨pa, pc, rfl, _⟩ := hp
  obtain ⟨⟨a, c, rfl, h1, h2, _⟩, _⟩ := hL
  have eg : Enters Tryz.prog 157 := enters_of Tryz.func157 (by kernel_rfl) rfl
  have EG := Lib.hid eg
  clear hR0 hR1 eg
  by_cases h0 : L.length = 0
  · have hn : L = [] := List.length_eq_zero_iff.1 h0
    subst hn
    have HF := Lib.hid (HR0.out rfl)
    go_enter Tryz.func126, Tryz.ntmps126
    go_wp2_with fail
    exact HF.out _ ((Grow.refl w).alloc _)
  · have t1 : ((L.length : Int) == 0) = false := by simpa using (by omega : ¬ (L.length : Int) = 0)
    go_enter Tryz.func126, Tryz.ntmps126
    go_wp2_with fail
    have hb := heap_alloc_new w (.cells #[.slice pa p.length pc] 22)
    have hg := (Grow.refl w).alloc (.cells #[.slice pa p.length pc] 22)
    generalize w.alloc (.cells #[.slice pa p.length pc] 22) = W at hb hg ⊢
    have HB := Lib.hid hb
    have HG := Lib.hid hg
    have hcmp : CmpE 157 #[.pointer (some ⟨w.heap.size, 0, none⟩)] W (sizeE p) := fun t u X hgX ht hu R hR =>
      smallF_any p t u _ _ X (HP.out.grow (HG.out.trans hgX)) ht hu (hgX.blk HB.out) R hR
    clear hb hg
    refine minFunc_any 157 _ EG.out (sizeE p) L _ _ (HL.out.grow HG.out) (by omega) hcmp _ ?_
    intro w1 j t hg1 ht hfm
    have HF := Lib.hid (HR1.out w1 j t (HG.out.trans hg1) ht hfm)
    clear hcmp hg1 ht hfm
    go_wp2_with fail
    exact HF.out
end Go.Proofs.YtbccbokjecdaaaaGreat

namespace Go.Proofs.YtbccbokjecdaaaaGreat
open Go.RowKit

theorem info_sle : (Tryz.prog.info? 31).map (fun i => (i.zero, i.size, i.bytes)) = some (some (.slice none 0 0), 1, 24) := by kernel_rfl
theorem encW_one (t : Lst) : ∀ u ∈ encW t, u.oneCell' = true := by
  intro u hu
  unfold encW at hu
  simp only [List.mem_cons, List.not_mem_nil, or_false] at hu
  subst hu
  rfl
/-- A list of one edit in a block of its own. -/
def EdBox (w : World) (t : Lst) : Prop := ∃ b e, t = ⟨some ⟨b, 0, none⟩, 1, 1, [e]⟩ ∧ w.heap[b]? = some (.cells (encE e).toArray 27 (0, 0))
theorem EdBox.grow {w w' : World} {t : Lst} (h : EdBox w t) (g : Grow w w') : EdBox w' t := by
  obtain ⟨b, e, ht, hb⟩ := h
  exact ⟨b, e, ht, g.blk hb⟩
theorem EdBox.kept {w w' : World} {t : Lst} {v : Value} {base n : Nat} {ys : List Value} (h : EdBox w t) (ho : w.ownsRow base 31 1 v n ys) (hg : w.grownBy w' v.ownBlock) : EdBox w' t := by
  obtain ⟨b, e, ht, hb⟩ := h
  refine ⟨b, e, ht, ?_⟩
  have hne : some b ≠ v.ownBlock := by
    intro he
    rcases ho.2 with ⟨hv, _⟩ | ⟨g, cap, cur, hv, _, hh, _⟩
    · subst hv
      simp [Value.ownBlock] at he
    · subst hv
      have hbg : b = g := by simpa [Value.ownBlock] using he
      subst hbg
      rw [hb] at hh
      simp at hh
  rw [hg.block b (lt_of_block hb) hne]
  exact hb
theorem EdBox.edits {w : World} {t : Lst} (h : EdBox w t) : EditsAt w t.v t.x := by
  obtain ⟨b, e, rfl, hb⟩ := h
  refine ⟨_, 1, rfl, Nat.le_refl _, by omega, .inr ⟨b, 0, rfl, lt_of_block hb, ?_⟩⟩
  intro j x hj i u hu
  cases j with
  | succ j => simp at hj
  | zero =>
    simp at hj
    subst hj
    rw [show 0 + 0 * 5 + i = i by omega, World.cell?]
    simp only [hb]
    simpa using hu
/-- One edit, as a list, by size. -/
def size1 (p : List Ln) (e : Ed) : Int := sizeE p [e]

set_option maxRecDepth 100000 in
set_option maxHeartbeats 8000000 in
theorem single_any (p : List Ln) (ts : List Tst) (kv : Value) (C : Nat → List Ln) (pv tv : Value) (w : World) (hp : LinesAt w pv p) (ht : TestsAt w tv ts) (hp8 : p.length ≤ 8) (hC : ∀ n, n < p.length → (C n).length ≤ 1000)
    (hcand : ∀ (n : Nat) (W : World), n < p.length → LinesAt W pv p → ∀ R' : Ending → World → Prop, (∀ W' v, Grow W W' → LinesAt W' v (C n) → R' (.returned v) W') → Calls Tryz.prog 121 #[pv, .int .i64 n, kv] W R') (R : Ending → World → Prop)
    (hR0 : everyN p ts C p.length = [] → ∀ w', Grow w w' → R (.returned (.tuple #[.slice none 0 0, .bool false])) w')
    (hR1 : ∀ w' v (j : Nat) e, Grow w w' → (everyN p ts C p.length)[j]? = some e → FirstMin ((everyN p ts C p.length).map (size1 p)) j (size1 p e) → EditsAt w' v [e] → R (.returned (.tuple #[v, .bool true])) w') :
    Calls Tryz.prog 88 #[pv, tv, kv] w R := by
  have HP := Lib.hid hp
  have HT := Lib.hid ht
  have hlen := everyN_len (ts := ts) hC p.length (Nat.le_refl _)
  have HC := Lib.hid hcand
  have HL := Lib.hid hC
  obtain ⟨E, hE⟩ : ∃ E, everyN p ts C p.length = E := ⟨_, rfl⟩
  rw [hE] at hR0 hR1 hlen
  have HE := Lib.hid hE
  have HR0 := Lib.hid hR0
  have HR1 := Lib.hid hR1
  obtain ⟨pa, pc, rfl, p1, p2, _⟩ := hp
  obtain ⟨⟨ta, tc, rfl, _⟩, _⟩ := ht
  clear hR0 hR1 hcand hC hE
  go_enter Tryz.func88, Tryz.ntmps88
  go_wp2_with fail
  refine every_any p ts kv C _ _ _ HP.out HT.out hp8 HL.out HC.out _ ?_
  intro w3 v3 hg3 hv3
  have hs3 := hv3.slc encE_len
  rw [HE.out] at hs3
  have HS3 := Lib.hid hs3
  obtain ⟨a3, c3, rfl, s1, s2, _⟩ := hs3
  have HG3 := Lib.hid hg3
  clear hg3 hv3
  go_wp2_with fail
  go_loopw [8, 10, 16] (fun out _ i wr => ∃ (k : Nat) (L : List Lst), k ≤ E.length ∧ i = .int .i64 k ∧ Grow w3 wr ∧ L.map Lst.x = (E.take k).map (fun e => [e]) ∧ (∀ t ∈ L, EdBox wr t) ∧ wr.ownsRow w3.heap.size 31 1 out L.length (L.flatMap encW)) (fun _ _ i _ => E.length - (intOf i).toNat)
  case atStart => exact ⟨0, [], Nat.zero_le _, rfl, Grow.refl _, rfl, by simp, World.ownsRow_nil _ _ _ _⟩
  case round =>
    obtain ⟨k, L, hk, rfl, hg, hm, hin, how⟩ := hrel
    have HG := Lib.hid hg
    have HOW := Lib.hid how
    have HM := Lib.hid hm
    have HIN := Lib.hid hin
    have hzw := hg.sz
    have hLk : L.length = (E.take k).length := by have := congrArg List.length hm; simpa using this
    rw [List.length_take] at hLk
    clear hg how hm hin
    by_cases hlt : k < E.length
    · obtain ⟨⟨t, o1, d1, a1', b1⟩, hx⟩ : ∃ x, E[k]? = some x := ⟨_, List.getElem?_eq_getElem hlt⟩
      obtain ⟨gb, o, rfl, hgb, y0, y1, y2, y3, y4⟩ := edits_at (HS3.out.grow HG.out) hx
      have HTK := Lib.hid (show (E.take (k + 1)).map (fun e => [e]) = (E.take k).map (fun e => [e]) ++ [[⟨t, ⟨o1, d1, a1', b1⟩⟩]] by rw [List.take_add_one, hx, List.map_append]; rfl)
      have HLB := Lib.hid (show L.length < 100000000000 by omega)
      have hgb1 := (Grow.refl wr).alloc (.cells #[.int .i64 t, .int .i64 o1, .int .i64 d1, .int .i64 a1', .int .i64 b1] 27)
      clear hx hLk
      go_wp2_with (at_builtin; refine wpList_app _ rfl (.tmp 20) (.tmp 23) 141 rfl w3.heap.size 31 Tryz.underlying141 info_sle rfl (by decide) (by decide) encW encW_len encW_one _ L rfl (((hgb1.alloc _).alloc _).owns HOW.out) _ (⟨some ⟨wr.heap.size + 1, 0, none⟩, 1, 1, [⟨t, ⟨o1, d1, a1', b1⟩⟩]⟩ : Lst) 1 rfl (newsG _ _ (by simp) (encW ⟨some ⟨wr.heap.size + 1, 0, none⟩, 1, 1, [⟨t, ⟨o1, d1, a1', b1⟩⟩]⟩) _) HLB.out (by simp; omega) ?_; intro out2 w4 hown2 hgr2)
      have hgr4 := grown_below HOW.out hgr2 (Nat.le_refl _) (by simp; omega) (HG.out.trans ((hgb1.alloc _).alloc _))
      have hown3 := ((hgb1.alloc (.cells #[.int .i64 t, .int .i64 o1, .int .i64 d1, .int .i64 a1', .int .i64 b1] 27)).alloc (.cells #[.slice (some ⟨wr.heap.size + 1, 0, none⟩) 1 1] 31)).owns HOW.out
      have hnew : EdBox w4 ⟨some ⟨wr.heap.size + 1, 0, none⟩, 1, 1, [⟨t, ⟨o1, d1, a1', b1⟩⟩]⟩ := by
        refine EdBox.kept ⟨_, ⟨t, ⟨o1, d1, a1', b1⟩⟩, rfl, ?_⟩ hown3 hgr2
        exact ((Grow.refl _).alloc _).blk (heap_two1 wr _ _)
      have hold : ∀ t ∈ L, EdBox w4 t := fun t ht => EdBox.kept ((HIN.out t ht).grow ((hgb1.alloc _).alloc _)) hown3 hgr2
      have HG4 := Lib.hid (show Grow w3 w4 from hgr4)
      have HO2 := Lib.hid hown2
      have HNEW := Lib.hid hnew
      have HOLD := Lib.hid hold
      clear hown2 hgr2 hgr4 hnew hold hown3
      go_roundw
      case rel => exact ⟨k + 1, L ++ [⟨some ⟨wr.heap.size + 1, 0, none⟩, 1, 1, [⟨t, ⟨o1, d1, a1', b1⟩⟩]⟩], by omega, by go_num, HG4.out, by rw [HTK.out, List.map_append, HM.out]; rfl, by
        intro u hu
        rcases List.mem_append.1 hu with hu | hu
        · exact HOLD.out u hu
        · simp at hu; subst hu; exact HNEW.out, HO2.out⟩
      case measure => simp [intOf]; omega
    · have hkn : k = E.length := by omega
      have hm := HM.out
      rw [hkn, List.take_length] at hm
      have HM2 := Lib.hid hm
      have hs := slc_of_owns encW_len HOW.out
      have HLS := Lib.hid (ListsAt.mk hs fun t ht => (HIN.out t ht).edits)
      obtain ⟨oa, oc, rfl, _⟩ := hs
      clear hm hkn hLk
      go_wp2_with fail
      refine smallest_any p L _ _ _ (HP.out.grow (HG3.out.trans HG.out)) HLS.out _ ?_ ?_
      · intro h0 w5 hg5
        have hE0 : E = [] := by
          have := HM2.out
          rw [h0] at this
          have := congrArg List.length this
          simp at this
          exact List.length_eq_zero_iff.1 this.symm
        have HF := Lib.hid (HR0.out hE0 w5 (HG3.out.trans (HG.out.trans hg5)))
        clear hg5 h0 hE0
        go_wp2_with fail
        exact HF.out
      · intro w5 j u hg5 hu hfm
        have hEu : ∃ e, E[j]? = some e ∧ u.x = [e] := by
          have h1 : (L.map Lst.x)[j]? = some u.x := by rw [List.getElem?_map, hu]; rfl
          rw [HM2.out, List.getElem?_map] at h1
          cases hj : E[j]? with
          | none => rw [hj] at h1; cases h1
          | some e => rw [hj] at h1; exact ⟨e, rfl, (Option.some.inj h1).symm⟩
        obtain ⟨e, he, hue⟩ := hEu
        have hmap : (L.map fun t => sizeE p t.x) = E.map (size1 p) := by
          have := congrArg (List.map (sizeE p)) HM2.out
          rw [List.map_map, List.map_map] at this
          exact this
        rw [hmap, hue] at hfm
        have hI := (HIN.out u (List.mem_of_getElem? hu)).edits
        rw [hue] at hI
        have HF := Lib.hid (HR1.out w5 u.v j e (HG3.out.trans (HG.out.trans hg5)) he hfm (hI.grow hg5))
        obtain ⟨ua, un, uc, ux⟩ := u
        dsimp only [Lst.v] at HF ⊢
        clear hg5 hu hfm he hue hmap hI
        go_wp2_with fail
        exact HF.out

/-- What Single answers. -/
def SnglP (p : List Ln) (ts : List Tst) (kind : Int) (e : Ed) (ok : Bool) : Prop :=
  (ok = false ∧ e = ⟨0, ⟨0, 0, 0, 0⟩⟩ ∧ (sgtE p ts kind ≠ 0 ∨ everyN p ts (candAt p kind) p.length = [])) ∨
  (ok = true ∧ sgtE p ts kind = 0 ∧ ∃ j, (everyN p ts (candAt p kind) p.length)[j]? = some e ∧ FirstMin ((everyN p ts (candAt p kind) p.length).map (size1 p)) j (size1 p e))
theorem SnglP.uniq {p : List Ln} {ts : List Tst} {kind : Int} {e e' : Ed} {ok ok' : Bool} (h : SnglP p ts kind e ok) (h' : SnglP p ts kind e' ok') : e = e' ∧ ok = ok' := by
  rcases h with ⟨rfl, rfl, h1⟩ | ⟨rfl, h1, j, h2, h3⟩ <;> rcases h' with ⟨rfl, rfl, g1⟩ | ⟨rfl, g1, j', g2, g3⟩
  · exact ⟨rfl, rfl⟩
  · rcases h1 with h1 | h1
    · exact absurd g1 h1
    · rw [h1] at g2; simp at g2
  · rcases g1 with g1 | g1
    · exact absurd h1 g1
    · rw [g1] at h2; simp at h2
  · obtain ⟨rfl, _⟩ := h3.uniq g3
    rw [h2] at g2
    exact ⟨Option.some.inj g2, rfl⟩
theorem below_set5 {B : Nat} {a w : World} {g : Nat} (h : Below B a w) (hg : B ≤ g) (o0 o1 o2 o3 o4 : Nat) (v0 v1 v2 v3 v4 : Value) : Below B a (((((w.setCell ⟨g, o0, none⟩ v0).setCell ⟨g, o1, none⟩ v1).setCell ⟨g, o2, none⟩ v2).setCell ⟨g, o3, none⟩ v3).setCell ⟨g, o4, none⟩ v4) :=
  Below.setCell (Below.setCell (Below.setCell (Below.setCell (Below.setCell h hg _) hg _) hg _) hg _) hg _

set_option maxRecDepth 100000 in
set_option maxHeartbeats 16000000 in
theorem Single_any (p : List Ln) (ts : List Tst) (kind : Int) (pv tv : Value) (w : World) (hp : LinesAt w pv p) (ht : TestsAt w tv ts) (R : Ending → World → Prop)
    (hR : ∀ w' e ok, Grow w w' → SnglP p ts kind e ok → R (.returned (.tuple #[.agg #[.int .i64 e.at_, .int .i64 e.l.op, .int .i64 e.l.d, .int .i64 e.l.a, .int .i64 e.l.b], .bool ok, .int .i64 (sgtE p ts kind)])) w') :
    Calls Tryz.prog 40 #[pv, tv, .int .i64 kind] w R := by
  have HP := Lib.hid hp
  have HT := Lib.hid ht
  have HR := Lib.hid hR
  obtain ⟨e, he⟩ : ∃ e, sgtE p ts kind = e := ⟨_, rfl⟩
  have hok := fun h : e = 0 => sgtE_ok.1 (he.trans h)
  rw [he] at HR
  have HE := Lib.hid he
  obtain ⟨pa, pc, rfl, r1, r2, _⟩ := hp
  obtain ⟨⟨ta, tc, rfl, _⟩, _⟩ := ht
  have HB := Lib.hid (heap_alloc_new w (.cells #[.int .i64 0, .int .i64 0, .int .i64 0, .int .i64 0, .int .i64 0] 27))
  have HG := Lib.hid ((Grow.refl w).alloc (.cells #[.int .i64 0, .int .i64 0, .int .i64 0, .int .i64 0, .int .i64 0] 27))
  clear hR he
  by_cases z1 : e = 0
  rotate_left
  · have HS := Lib.hid (show SnglP p ts kind ⟨0, ⟨0, 0, 0, 0⟩⟩ false from .inl ⟨rfl, rfl, .inl (by rw [HE.out]; exact z1)⟩)
    have t1 : (e != 0) = true := by simpa using z1
    clear hok z1
    go_enter Tryz.func40, Tryz.ntmps40
    go_wp2_with fail
    refine kinded_any p ts kind _ _ _ (HP.out.grow HG.out) (HT.out.grow HG.out) _ ?_
    intro w1 hg1
    rw [HE.out]
    have hb := hg1.blk HB.out
    obtain ⟨c0, c1, c2, c3, c4⟩ := box5 hb
    have z0 := frz hb 0
    have z1 := frz hb 1
    have z2 := frz hb 2
    have z3 := frz hb 3
    have z4 := frz hb 4
    have hz := lt_of_block hb
    have HG1 := Lib.hid (HG.out.trans hg1)
    clear hg1 hb
    go_wp2_with fail
    refine bodyPost_ret (v := .tuple #[.agg #[.int .i64 0, .int .i64 0, .int .i64 0, .int .i64 0, .int .i64 0], .bool false, .int .i64 e]) (by simp [results, Tryz.results40, go_sem, c0, c1, c2, c3, c4]) rfl (HR.out _ ⟨0, ⟨0, 0, 0, 0⟩⟩ false (below_set5 HG1.out (Nat.le_refl _) 0 1 2 3 4 _ _ _ _ _) HS.out)
  obtain ⟨⟨hv, hvt⟩, ⟨k0, k2⟩, _⟩ := hok z1
  subst z1
  have hp8 := (valP_ok.1 hv).1
  have HV := Lib.hid hv
  have HCL := Lib.hid (candAt_len hv k0 k2)
  clear hok hv hvt
  have hk : kind = 0 ∨ kind = 1 ∨ kind = 2 := by omega
  clear k0 k2
  rcases hk with rfl | rfl | rfl
  · skip
    go_enter Tryz.func40, Tryz.ntmps40
    go_wp2_with fail
    refine kinded_any p ts 0 _ _ _ (HP.out.grow HG.out) (HT.out.grow HG.out) _ ?_
    intro w1 hg1
    rw [HE.out]
    have HB1 := Lib.hid (hg1.blk HB.out)
    have HG1 := Lib.hid (HG.out.trans hg1)
    clear hg1
    go_wp2_with fail
    refine sources_any _ _ ?_
    go_wp2_with fail
    refine single_any p ts (.iface 137 (.agg #[])) (candAt p 0) _ _ _ (HP.out.grow (HG1.out.alloc _)) (HT.out.grow (HG1.out.alloc _)) hp8 HCL.out (fun n W hn hW R' hR' => cand0_at p _ n W HV.out hn hW R' hR') _ ?_ ?_
    · intro hE w3 hg3
      have HS := Lib.hid (show SnglP p ts 0 ⟨0, ⟨0, 0, 0, 0⟩⟩ false from .inl ⟨rfl, rfl, .inr hE⟩)
      have hb := (((Grow.refl w1).alloc _).trans hg3).blk HB1.out
      obtain ⟨c0, c1, c2, c3, c4⟩ := box5 hb
      have z0 := frz hb 0
      have z1 := frz hb 1
      have z2 := frz hb 2
      have z3 := frz hb 3
      have z4 := frz hb 4
      have hz := lt_of_block hb
      have HG3 := Lib.hid ((HG1.out.alloc _).trans hg3)
      clear hg3 hb hE
      go_wp2_with fail
      refine bodyPost_ret (v := .tuple #[.agg #[.int .i64 0, .int .i64 0, .int .i64 0, .int .i64 0, .int .i64 0], .bool false, .int .i64 0]) (by simp [results, Tryz.results40, go_sem, c0, c1, c2, c3, c4]) rfl (HR.out _ ⟨0, ⟨0, 0, 0, 0⟩⟩ false (below_set5 HG3.out (Nat.le_refl _) 0 1 2 3 4 _ _ _ _ _) HS.out)
    · intro w3 v3 j ed hg3 hj hfm hv3
      have HS := Lib.hid (show SnglP p ts 0 ed true from .inr ⟨rfl, HE.out, j, hj, hfm⟩)
      obtain ⟨t, o1, d1, a1, b1⟩ := ed
      have hv4 := hv3
      obtain ⟨a3, cq, rfl, s1, s2, _⟩ := hv4
      obtain ⟨gb, o, rfl, hgb, y0, y1, y2, y3, y4⟩ := edits_at (k := 0) hv3 rfl
      simp only [Nat.zero_mul, Nat.add_zero] at y0 y1 y2 y3 y4
      dsimp only [List.length] at s1 ⊢
      have hb := (((Grow.refl w1).alloc _).trans hg3).blk HB1.out
      obtain ⟨c0, c1, c2, c3, c4⟩ := box5 hb
      have z0 := frz hb 0
      have z1 := frz hb 1
      have z2 := frz hb 2
      have z3 := frz hb 3
      have z4 := frz hb 4
      have hz := lt_of_block hb
      have HG3 := Lib.hid ((HG1.out.alloc _).trans hg3)
      clear hg3 hb hj hfm hv3
      go_wp2_with fail
      refine bodyPost_ret (v := .tuple #[.agg #[.int .i64 t, .int .i64 o1, .int .i64 d1, .int .i64 a1, .int .i64 b1], .bool true, .int .i64 0]) (by simp [results, Tryz.results40, go_sem, c0, c1, c2, c3, c4]) rfl (HR.out _ ⟨t, ⟨o1, d1, a1, b1⟩⟩ true (below_set5 HG3.out (Nat.le_refl _) 0 1 2 3 4 _ _ _ _ _) HS.out)
  · skip
    go_enter Tryz.func40, Tryz.ntmps40
    go_wp2_with fail
    refine kinded_any p ts 1 _ _ _ (HP.out.grow HG.out) (HT.out.grow HG.out) _ ?_
    intro w1 hg1
    rw [HE.out]
    have HB1 := Lib.hid (hg1.blk HB.out)
    have HG1 := Lib.hid (HG.out.trans hg1)
    clear hg1
    go_wp2_with fail
    refine sources_any _ _ ?_
    go_wp2_with fail
    refine single_any p ts (.iface 138 (.agg #[])) (candAt p 1) _ _ _ (HP.out.grow (HG1.out.alloc _)) (HT.out.grow (HG1.out.alloc _)) hp8 HCL.out (fun n W hn hW R' hR' => cand1_at p _ n W HV.out hn hW R' hR') _ ?_ ?_
    · intro hE w3 hg3
      have HS := Lib.hid (show SnglP p ts 1 ⟨0, ⟨0, 0, 0, 0⟩⟩ false from .inl ⟨rfl, rfl, .inr hE⟩)
      have hb := (((Grow.refl w1).alloc _).trans hg3).blk HB1.out
      obtain ⟨c0, c1, c2, c3, c4⟩ := box5 hb
      have z0 := frz hb 0
      have z1 := frz hb 1
      have z2 := frz hb 2
      have z3 := frz hb 3
      have z4 := frz hb 4
      have hz := lt_of_block hb
      have HG3 := Lib.hid ((HG1.out.alloc _).trans hg3)
      clear hg3 hb hE
      go_wp2_with fail
      refine bodyPost_ret (v := .tuple #[.agg #[.int .i64 0, .int .i64 0, .int .i64 0, .int .i64 0, .int .i64 0], .bool false, .int .i64 0]) (by simp [results, Tryz.results40, go_sem, c0, c1, c2, c3, c4]) rfl (HR.out _ ⟨0, ⟨0, 0, 0, 0⟩⟩ false (below_set5 HG3.out (Nat.le_refl _) 0 1 2 3 4 _ _ _ _ _) HS.out)
    · intro w3 v3 j ed hg3 hj hfm hv3
      have HS := Lib.hid (show SnglP p ts 1 ed true from .inr ⟨rfl, HE.out, j, hj, hfm⟩)
      obtain ⟨t, o1, d1, a1, b1⟩ := ed
      have hv4 := hv3
      obtain ⟨a3, cq, rfl, s1, s2, _⟩ := hv4
      obtain ⟨gb, o, rfl, hgb, y0, y1, y2, y3, y4⟩ := edits_at (k := 0) hv3 rfl
      simp only [Nat.zero_mul, Nat.add_zero] at y0 y1 y2 y3 y4
      dsimp only [List.length] at s1 ⊢
      have hb := (((Grow.refl w1).alloc _).trans hg3).blk HB1.out
      obtain ⟨c0, c1, c2, c3, c4⟩ := box5 hb
      have z0 := frz hb 0
      have z1 := frz hb 1
      have z2 := frz hb 2
      have z3 := frz hb 3
      have z4 := frz hb 4
      have hz := lt_of_block hb
      have HG3 := Lib.hid ((HG1.out.alloc _).trans hg3)
      clear hg3 hb hj hfm hv3
      go_wp2_with fail
      refine bodyPost_ret (v := .tuple #[.agg #[.int .i64 t, .int .i64 o1, .int .i64 d1, .int .i64 a1, .int .i64 b1], .bool true, .int .i64 0]) (by simp [results, Tryz.results40, go_sem, c0, c1, c2, c3, c4]) rfl (HR.out _ ⟨t, ⟨o1, d1, a1, b1⟩⟩ true (below_set5 HG3.out (Nat.le_refl _) 0 1 2 3 4 _ _ _ _ _) HS.out)
  · skip
    go_enter Tryz.func40, Tryz.ntmps40
    go_wp2_with fail
    refine kinded_any p ts 2 _ _ _ (HP.out.grow HG.out) (HT.out.grow HG.out) _ ?_
    intro w1 hg1
    rw [HE.out]
    have HB1 := Lib.hid (hg1.blk HB.out)
    have HG1 := Lib.hid (HG.out.trans hg1)
    clear hg1
    go_wp2_with fail
    refine sources_any _ _ ?_
    go_wp2_with fail
    refine single_any p ts (.iface 139 (.agg #[])) (candAt p 2) _ _ _ (HP.out.grow (HG1.out.alloc _)) (HT.out.grow (HG1.out.alloc _)) hp8 HCL.out (fun n W hn hW R' hR' => cand2_at p _ n W HV.out hn hW R' hR') _ ?_ ?_
    · intro hE w3 hg3
      have HS := Lib.hid (show SnglP p ts 2 ⟨0, ⟨0, 0, 0, 0⟩⟩ false from .inl ⟨rfl, rfl, .inr hE⟩)
      have hb := (((Grow.refl w1).alloc _).trans hg3).blk HB1.out
      obtain ⟨c0, c1, c2, c3, c4⟩ := box5 hb
      have z0 := frz hb 0
      have z1 := frz hb 1
      have z2 := frz hb 2
      have z3 := frz hb 3
      have z4 := frz hb 4
      have hz := lt_of_block hb
      have HG3 := Lib.hid ((HG1.out.alloc _).trans hg3)
      clear hg3 hb hE
      go_wp2_with fail
      refine bodyPost_ret (v := .tuple #[.agg #[.int .i64 0, .int .i64 0, .int .i64 0, .int .i64 0, .int .i64 0], .bool false, .int .i64 0]) (by simp [results, Tryz.results40, go_sem, c0, c1, c2, c3, c4]) rfl (HR.out _ ⟨0, ⟨0, 0, 0, 0⟩⟩ false (below_set5 HG3.out (Nat.le_refl _) 0 1 2 3 4 _ _ _ _ _) HS.out)
    · intro w3 v3 j ed hg3 hj hfm hv3
      have HS := Lib.hid (show SnglP p ts 2 ed true from .inr ⟨rfl, HE.out, j, hj, hfm⟩)
      obtain ⟨t, o1, d1, a1, b1⟩ := ed
      have hv4 := hv3
      obtain ⟨a3, cq, rfl, s1, s2, _⟩ := hv4
      obtain ⟨gb, o, rfl, hgb, y0, y1, y2, y3, y4⟩ := edits_at (k := 0) hv3 rfl
      simp only [Nat.zero_mul, Nat.add_zero] at y0 y1 y2 y3 y4
      dsimp only [List.length] at s1 ⊢
      have hb := (((Grow.refl w1).alloc _).trans hg3).blk HB1.out
      obtain ⟨c0, c1, c2, c3, c4⟩ := box5 hb
      have z0 := frz hb 0
      have z1 := frz hb 1
      have z2 := frz hb 2
      have z3 := frz hb 3
      have z4 := frz hb 4
      have hz := lt_of_block hb
      have HG3 := Lib.hid ((HG1.out.alloc _).trans hg3)
      clear hg3 hb hj hfm hv3
      go_wp2_with fail
      refine bodyPost_ret (v := .tuple #[.agg #[.int .i64 t, .int .i64 o1, .int .i64 d1, .int .i64 a1, .int .i64 b1], .bool true, .int .i64 0]) (by simp [results, Tryz.results40, go_sem, c0, c1, c2, c3, c4]) rfl (HR.out _ ⟨t, ⟨o1, d1, a1, b1⟩⟩ true (below_set5 HG3.out (Nat.le_refl _) 0 1 2 3 4 _ _ _ _ _) HS.out)
end Go.Proofs.YtbccbokjecdaaaaGreat

namespace Go.Proofs.YtbccbokjecdaaaaGreat
open Go.RowKit

/-- The world has only grown, and drawn. -/
def Gw (w X : World) : Prop := ∃ (q : Nat) (os : Array Obj), X = Go.Sort.grow (w.drewN q) os
theorem drewN_grow (w : World) (os : Array Obj) : ∀ q, (Go.Sort.grow w os).drewN q = Go.Sort.grow (w.drewN q) os := fun _ => rfl
theorem Gw.refl (w : World) : Gw w w := ⟨0, #[], by simp [Go.Sort.grow]; rfl⟩
theorem drewN_add (w : World) (a b : Nat) : (w.drewN a).drewN b = w.drewN (a + b) := by
  show ({ w with drawn := w.drawn + a + b } : World) = { w with drawn := w.drawn + (a + b) }
  rw [Nat.add_assoc]
theorem Gw.trans {w X Y : World} (h : Gw w X) (k : Gw X Y) : Gw w Y := by
  obtain ⟨a, os, rfl⟩ := h
  obtain ⟨b, os', rfl⟩ := k
  exact ⟨a + b, os ++ os', by rw [drewN_grow, Go.Sort.grow_grow, drewN_add]⟩
theorem Gw.drew (w : World) : Gw w w.drew := ⟨1, #[], by simp [Go.Sort.grow]; rfl⟩
theorem Gw.alloc (w : World) (o : Obj) : Gw w (w.alloc o) := by
  refine ⟨0, #[o], ?_⟩
  rw [Go.Sort.alloc_eq_grow]; rfl
theorem Gw.g {w X : World} (h : Gw w X) : Grow w X := by
  obtain ⟨q, os, rfl⟩ := h
  exact below_growS os ((Grow.refl w).drewN q) (by show w.heap.size ≤ w.heap.size; omega)

theorem keep10 {X Y : World} {a0 a1 a2 a3 a4 a5 a6 a7 a8 a9 : Addr} {v0 v1 v2 v3 v4 v5 v6 v7 v8 v9 : Value} (g : Grow X Y) (h : X.cell? a0 = some v0 ∧ X.cell? a1 = some v1 ∧ X.cell? a2 = some v2 ∧ X.cell? a3 = some v3 ∧ X.cell? a4 = some v4 ∧ X.cell? a5 = some v5 ∧ X.cell? a6 = some v6 ∧ X.cell? a7 = some v7 ∧ X.cell? a8 = some v8 ∧ X.cell? a9 = some v9) : Y.cell? a0 = some v0 ∧ Y.cell? a1 = some v1 ∧ Y.cell? a2 = some v2 ∧ Y.cell? a3 = some v3 ∧ Y.cell? a4 = some v4 ∧ Y.cell? a5 = some v5 ∧ Y.cell? a6 = some v6 ∧ Y.cell? a7 = some v7 ∧ Y.cell? a8 = some v8 ∧ Y.cell? a9 = some v9 :=
  ⟨g.cell h.1, g.cell h.2.1, g.cell h.2.2.1, g.cell h.2.2.2.1, g.cell h.2.2.2.2.1, g.cell h.2.2.2.2.2.1, g.cell h.2.2.2.2.2.2.1, g.cell h.2.2.2.2.2.2.2.1, g.cell h.2.2.2.2.2.2.2.2.1, g.cell h.2.2.2.2.2.2.2.2.2⟩
set_option maxRecDepth 100000 in
set_option maxHeartbeats 8000000 in
theorem compareEdits_any (t op d a b t' op' d' a' b' : Int) (w : World) (R : Ending → World → Prop) (hR : ∀ w' : World, Gw w w' → R (.returned (.int .i64 (cmpE ⟨t, ⟨op, d, a, b⟩⟩ ⟨t', ⟨op', d', a', b'⟩⟩))) w') :
    Calls Tryz.prog 99 #[.agg #[.int .i64 t, .int .i64 op, .int .i64 d, .int .i64 a, .int .i64 b], .agg #[.int .i64 t', .int .i64 op', .int .i64 d', .int .i64 a', .int .i64 b']] w R := by
  have HR := Lib.hid hR
  have hc : cmpE ⟨t, ⟨op, d, a, b⟩⟩ ⟨t', ⟨op', d', a', b'⟩⟩ = orI [cmpI t t', cmpL ⟨op, d, a, b⟩ ⟨op', d', a', b'⟩] := rfl
  rw [hc] at HR
  obtain ⟨c0, h0⟩ : ∃ c, cmpI t t' = c := ⟨_, rfl⟩
  obtain ⟨c1, h1⟩ : ∃ c, cmpL ⟨op, d, a, b⟩ ⟨op', d', a', b'⟩ = c := ⟨_, rfl⟩
  rw [h0, h1] at HR
  have H0 := Lib.hid h0
  have H1 := Lib.hid h1
  clear hR hc h0 h1
  go_enter Tryz.func99, Tryz.ntmps99
  go_wp2_with fail
  have hb0 := heap_two0 w (.cells #[.int .i64 t, .int .i64 op, .int .i64 d, .int .i64 a, .int .i64 b] 27) (.cells #[.int .i64 t', .int .i64 op', .int .i64 d', .int .i64 a', .int .i64 b'] 27)
  have hb1 := heap_two1 w (.cells #[.int .i64 t, .int .i64 op, .int .i64 d, .int .i64 a, .int .i64 b] 27) (.cells #[.int .i64 t', .int .i64 op', .int .i64 d', .int .i64 a', .int .i64 b'] 27)
  have hg : Gw w ((w.alloc (.cells #[.int .i64 t, .int .i64 op, .int .i64 d, .int .i64 a, .int .i64 b] 27)).alloc (.cells #[.int .i64 t', .int .i64 op', .int .i64 d', .int .i64 a', .int .i64 b'] 27)) := (Gw.alloc _ _).trans (Gw.alloc _ _)
  have hsz : ((w.alloc (.cells #[.int .i64 t, .int .i64 op, .int .i64 d, .int .i64 a, .int .i64 b] 27)).alloc (.cells #[.int .i64 t', .int .i64 op', .int .i64 d', .int .i64 a', .int .i64 b'] 27)).heap.size = w.heap.size + 2 := by simp
  generalize (w.alloc (.cells #[.int .i64 t, .int .i64 op, .int .i64 d, .int .i64 a, .int .i64 b] 27)).alloc (.cells #[.int .i64 t', .int .i64 op', .int .i64 d', .int .i64 a', .int .i64 b'] 27) = W at hb0 hb1 hg hsz ⊢
  obtain ⟨e0, e1, e2, e3, e4⟩ := box5 hb0
  obtain ⟨f0, f1, f2, f3, f4⟩ := box5 hb1
  have hz : w.heap.size + 1 < W.heap.size := by omega
  have HG := Lib.hid hg
  clear hb0 hb1 hg
  refine wp_region_held_drew (S := fun X => (X.cell? ⟨w.heap.size, 0, none⟩ = some (.int .i64 t) ∧ X.cell? ⟨w.heap.size, 1, none⟩ = some (.int .i64 op) ∧ X.cell? ⟨w.heap.size, 2, none⟩ = some (.int .i64 d) ∧ X.cell? ⟨w.heap.size, 3, none⟩ = some (.int .i64 a) ∧ X.cell? ⟨w.heap.size, 4, none⟩ = some (.int .i64 b) ∧ X.cell? ⟨w.heap.size + 1, 0, none⟩ = some (.int .i64 t') ∧ X.cell? ⟨w.heap.size + 1, 1, none⟩ = some (.int .i64 op') ∧ X.cell? ⟨w.heap.size + 1, 2, none⟩ = some (.int .i64 d') ∧ X.cell? ⟨w.heap.size + 1, 3, none⟩ = some (.int .i64 a') ∧ X.cell? ⟨w.heap.size + 1, 4, none⟩ = some (.int .i64 b')) ∧ Gw W X) (by kernel_rfl) ⟨⟨e0, e1, e2, e3, e4, f0, f1, f2, f3, f4⟩, Gw.drew W⟩ (fun hH => ?_)
  refine wpAnyH_take (i := 0) (v := .pointer (some ⟨w.heap.size, 0, none⟩)) rfl (by kernel_rfl) (by kernel_rfl) (by kernel_rfl) (fun _ _ _ h => h) (Or.inl ⟨by rfl, ?_⟩) hH ?_
  · intro w9 hw9
    obtain ⟨⟨d0, d1, d2, d3, d4, d5, d6, d7, d8, d9⟩, dg⟩ := hw9
    go_simp
  simp only [List.getElem_toArray, List.getElem_cons_zero, Act.put, List.setIfInBounds_toArray, List.set_cons_zero, List.set_cons_succ]
  refine wpAnyH_take (i := 1) (v := .int .i64 t) rfl (by kernel_rfl) (by kernel_rfl) (by kernel_rfl) (fun _ _ _ h => h) (Or.inl ⟨by rfl, ?_⟩) hH ?_
  · intro w9 hw9
    obtain ⟨⟨d0, d1, d2, d3, d4, d5, d6, d7, d8, d9⟩, dg⟩ := hw9
    go_simp
  simp only [List.getElem_toArray, List.getElem_cons_succ, List.getElem_cons_zero, Act.put, List.setIfInBounds_toArray, List.set_cons_zero, List.set_cons_succ]
  refine wpAnyH_take (i := 2) (v := .pointer (some ⟨w.heap.size + 1, 0, none⟩)) rfl (by kernel_rfl) (by kernel_rfl) (by kernel_rfl) (fun _ _ _ h => h) (Or.inl ⟨by rfl, ?_⟩) hH ?_
  · intro w9 hw9
    obtain ⟨⟨d0, d1, d2, d3, d4, d5, d6, d7, d8, d9⟩, dg⟩ := hw9
    go_simp
  simp only [List.getElem_toArray, List.getElem_cons_succ, List.getElem_cons_zero, Act.put, List.setIfInBounds_toArray, List.set_cons_zero, List.set_cons_succ]
  refine wpAnyH_take (i := 3) (v := .int .i64 t') rfl (by kernel_rfl) (by kernel_rfl) (by kernel_rfl) (fun _ _ _ h => h) (Or.inl ⟨by rfl, ?_⟩) hH ?_
  · intro w9 hw9
    obtain ⟨⟨d0, d1, d2, d3, d4, d5, d6, d7, d8, d9⟩, dg⟩ := hw9
    go_simp
  simp only [List.getElem_toArray, List.getElem_cons_succ, List.getElem_cons_zero, Act.put, List.setIfInBounds_toArray, List.set_cons_zero, List.set_cons_succ]
  refine wpAnyH_take (i := 5) (v := .pointer (some ⟨w.heap.size, 1, none⟩)) rfl (by kernel_rfl) (by kernel_rfl) (by kernel_rfl) (fun _ _ _ h => h) (Or.inl ⟨by rfl, ?_⟩) hH ?_
  · intro w9 hw9
    obtain ⟨⟨d0, d1, d2, d3, d4, d5, d6, d7, d8, d9⟩, dg⟩ := hw9
    go_simp
  simp only [List.getElem_toArray, List.getElem_cons_succ, List.getElem_cons_zero, Act.put, List.setIfInBounds_toArray, List.set_cons_zero, List.set_cons_succ]
  refine wpAnyH_take (i := 6) (v := .agg #[.int .i64 op, .int .i64 d, .int .i64 a, .int .i64 b]) rfl (by kernel_rfl) (by kernel_rfl) (by kernel_rfl) (fun _ _ _ h => h) (Or.inl ⟨by rfl, ?_⟩) hH ?_
  · intro w9 hw9
    obtain ⟨⟨d0, d1, d2, d3, d4, d5, d6, d7, d8, d9⟩, dg⟩ := hw9
    go_simp
  simp only [List.getElem_toArray, List.getElem_cons_succ, List.getElem_cons_zero, Act.put, List.setIfInBounds_toArray, List.set_cons_zero, List.set_cons_succ]
  refine wpAnyH_take (i := 7) (v := .pointer (some ⟨w.heap.size + 1, 1, none⟩)) rfl (by kernel_rfl) (by kernel_rfl) (by kernel_rfl) (fun _ _ _ h => h) (Or.inl ⟨by rfl, ?_⟩) hH ?_
  · intro w9 hw9
    obtain ⟨⟨d0, d1, d2, d3, d4, d5, d6, d7, d8, d9⟩, dg⟩ := hw9
    go_simp
  simp only [List.getElem_toArray, List.getElem_cons_succ, List.getElem_cons_zero, Act.put, List.setIfInBounds_toArray, List.set_cons_zero, List.set_cons_succ]
  refine wpAnyH_take (i := 8) (v := .agg #[.int .i64 op', .int .i64 d', .int .i64 a', .int .i64 b']) rfl (by kernel_rfl) (by kernel_rfl) (by kernel_rfl) (fun _ _ _ h => h) (Or.inl ⟨by rfl, ?_⟩) hH ?_
  · intro w9 hw9
    obtain ⟨⟨d0, d1, d2, d3, d4, d5, d6, d7, d8, d9⟩, dg⟩ := hw9
    go_simp
  simp only [List.getElem_toArray, List.getElem_cons_succ, List.getElem_cons_zero, Act.put, List.setIfInBounds_toArray, List.set_cons_zero, List.set_cons_succ]
  refine wpAnyH_ready (rs := [4]) (by kernel_rfl) (by simp) ?_
  refine AllReadyH.cons rfl (fun K hK => ?_) AllReadyH.nil
  go_simp
  refine cmpI_any _ _ _ _ ?_
  rw [H0.out]
  go_wp2_with fail
  refine hK.out _ _ hH (fun hH2 => ?_)
  clear hK K hH
  have hH := hH2
  clear hH2
  refine wpAnyH_ready (rs := [9]) (by kernel_rfl) (by simp) ?_
  refine AllReadyH.cons rfl (fun K hK => ?_) AllReadyH.nil
  go_simp
  refine compare_any _ _ _ _ _ _ _ _ _ _ ?_
  intro w8 hg8
  rw [H1.out]
  have hg9 : Gw _ w8 := hg8
  go_wp2_with fail
  refine hK.out _ _ ⟨(keep10 (Gw.g hg9) hH.1), hH.2.trans hg9⟩ (fun hH2 => ?_)
  clear hK K hH
  have hH := hH2
  clear hH2
  refine wpAnyH_ready (rs := [10]) (by kernel_rfl) (by simp) ?_
  refine AllReadyH.cons rfl (fun K hK => ?_) AllReadyH.nil
  go_simp
  refine hK.out _ _ ⟨(keep10 (Gw.g (Gw.alloc _ _)) hH.1), hH.2.trans (Gw.alloc _ _)⟩ (fun hH2 => ?_)
  clear hK K hH
  have hH := hH2
  clear hH2
  refine wpAnyH_ready (rs := [11]) (by kernel_rfl) (by simp) ?_
  refine AllReadyH.cons rfl (fun K hK => ?_) AllReadyH.nil
  go_simp
  refine orI_any [c0, c1] _ _ ?_ _ ?_
  · exact slc_of_owns encI_len (xs := [c0, c1]) (World.ownsRow_lit w8 #[.int .i64 c0, .int .i64 c1] 2 (Nat.le_refl _) (by simp [maxLen]) rfl)
  go_wp2_with fail
  refine hK.out _ _ hH (fun hH2 => ?_)
  clear hK K hH
  have hH := hH2
  clear hH2
  refine wpAnyH_take (i := 12) (v := .int .i64 (orI [c0, c1])) rfl (by kernel_rfl) (by kernel_rfl) (by kernel_rfl) (fun _ _ _ h => h) (Or.inl ⟨by rfl, ?_⟩) hH ?_
  · intro w9 hw9
    obtain ⟨⟨d0, d1, d2, d3, d4, d5, d6, d7, d8, d9⟩, dg⟩ := hw9
    go_simp
  simp only [List.getElem_toArray, List.getElem_cons_succ, List.getElem_cons_zero, Act.put, List.setIfInBounds_toArray, List.set_cons_zero, List.set_cons_succ]
  refine wpAnyH_done (by kernel_rfl) ?_ _
  have HF := Lib.hid (HR.out _ (HG.out.trans hH.2))
  go_wp2_with fail
  exact HF.out
end Go.Proofs.YtbccbokjecdaaaaGreat

namespace Go.Proofs.YtbccbokjecdaaaaGreat
open Go.RowKit

/-- The mutants at the first places. -/
def mutM (p : List Ln) (k : Nat) : List Ed := (List.range k).flatMap fun n : Nat => (tmpl (lineAt p n)).map (Ed.mk n)
theorem mutM_succ (p : List Ln) (k : Nat) : mutM p (k + 1) = mutM p k ++ (tmpl (lineAt p k)).map (Ed.mk k) := by
  unfold mutM
  rw [List.range_succ, List.flatMap_append]
  simp
theorem tmpl_asc (l : Ln) : (tmpl l).Pairwise ltP := by
  unfold tmpl
  split
  · exact List.Pairwise.nil
  · exact (ordL_is _).1
theorem mem_mutM {p : List Ln} {k : Nat} {e : Ed} : e ∈ mutM p k ↔ ∃ n x, n < k ∧ e = ⟨((n : Nat) : Int), x⟩ ∧ x ∈ tmpl (lineAt p n) := by
  unfold mutM
  rw [List.mem_flatMap]
  constructor
  · rintro ⟨n, hn, he⟩
    obtain ⟨x, hx, rfl⟩ := List.mem_map.1 he
    exact ⟨n, x, List.mem_range.1 hn, rfl, hx⟩
  · rintro ⟨n, x, hn, rfl, hx⟩
    exact ⟨n, List.mem_range.2 hn, List.mem_map.2 ⟨x, hx, rfl⟩⟩
theorem mutM_asc (p : List Ln) : ∀ k, (mutM p k).Pairwise ltE
  | 0 => List.Pairwise.nil
  | k + 1 => by
    rw [mutM_succ, List.pairwise_append]
    refine ⟨mutM_asc p k, ?_, ?_⟩
    · rw [List.pairwise_map]
      exact (tmpl_asc _).imp fun {a b} h => .inr ⟨rfl, h⟩
    · intro a ha b hb
      obtain ⟨n, x, hn, rfl, _⟩ := mem_mutM.1 ha
      obtain ⟨y, _, rfl⟩ := List.mem_map.1 hb
      exact .inl (by dsimp only; omega)
theorem tmpl_len {l : Ln} (hl : l.ok = true) : (tmpl l).length ≤ 1000 := candL_len (p := []) (kind := 0) hl (by decide) (by decide)
theorem mutM_len {p : List Ln} (hp : valP p = 0) : ∀ k, k ≤ p.length → (mutM p k).length ≤ k * 1000
  | 0, _ => by simp [mutM]
  | k + 1, hk => by
    rw [mutM_succ, List.length_append, List.length_map]
    have := mutM_len hp k (by omega)
    have := tmpl_len (lineAt_ok (at_ := (k : Int)) hp (by omega) (by omega))
    omega
def mutO (p : List Ln) : List Ed := ifOK (valP p) (mutM p p.length)
end Go.Proofs.YtbccbokjecdaaaaGreat

namespace Go.Proofs.YtbccbokjecdaaaaGreat
open Go.RowKit

theorem tmpl_ok {l x : Ln} (h : x ∈ tmpl l) : x.ok = true := by
  unfold tmpl at h
  split at h
  · cases h
  · unfold validL at h
    rw [mem_ordL] at h
    have := (List.mem_filter.1 h).2
    simp at this
    exact this.2
theorem rawT_len (l : Ln) : (rawT l).length ≤ 20 := by
  have h1 : (fldL l.op).length ≤ 3 := by unfold fldL; split <;> (try split) <;> (try split) <;> (try split) <;> simp
  have h2 : ((fldL l.op).flatMap (fun k => [setF l k 0, setF l k 1, setF l k 2, setF l k 3])).length ≤ 12 := by
    rw [List.length_flatMap]
    have : ∀ xs : List Nat, ((xs.map fun k => [setF l k 0, setF l k 1, setF l k 2, setF l k 3].length).sum) = xs.length * 4 := by
      intro xs; induction xs with
      | nil => rfl
      | cons x r ih => rw [List.map_cons, List.sum_cons, ih, List.length_cons]; simp; omega
    rw [this]; omega
  unfold rawT
  rw [List.length_append, List.length_append, List.length_append]
  have h3 : (if 3 ≤ l.op then [(⟨l.op, l.d, l.b, l.a⟩ : Ln)] else []).length ≤ 1 := by split <;> simp
  have h4 : (if 3 ≤ l.op ∧ l.op ≤ 6 then [(⟨3, l.d, l.a, l.b⟩ : Ln), ⟨4, l.d, l.a, l.b⟩, ⟨5, l.d, l.a, l.b⟩, ⟨6, l.d, l.a, l.b⟩] else []).length ≤ 4 := by split <;> simp
  simp only [List.length_cons, List.length_nil]
  omega
theorem tmpl_short (l : Ln) : (tmpl l).length ≤ 20 := by
  unfold tmpl
  split
  · simp
  · unfold validL
    exact Nat.le_trans (ordL_len _) (Nat.le_trans (List.length_filter_le _ _) (rawT_len l))
theorem mutM_short (p : List Ln) : ∀ k, (mutM p k).length ≤ k * 20
  | 0 => by simp [mutM]
  | k + 1 => by
    rw [mutM_succ, List.length_append, List.length_map]
    have := mutM_short p k
    have := tmpl_short (lineAt p (k : Int))
    omega
end Go.Proofs.YtbccbokjecdaaaaGreat

namespace Go.Proofs.YtbccbokjecdaaaaGreat
open Go.RowKit

set_option maxHeartbeats 4000000 in
theorem indexI_any (xs : List Int) (x : Int) (v : Value) (w : World) (hv : IntsAt w v xs) (R : Ending → World → Prop)
    (hR1 : ∀ (k : Nat), xs.contains x = true → R (.returned (.int .i64 (k : Int))) w) (hR2 : xs.contains x = false → R (.returned (.int .i64 (-1))) w) :
    Calls Tryz.prog 152 #[v, .int .i64 x] w R := by
  have HV := Lib.hid hv
  obtain ⟨va, vc, rfl, v1, v2, _⟩ := hv
  have HR1 := Lib.hid hR1
  have HR2 := Lib.hid hR2
  have hm : xs.length ≤ 9223372036854775807 := by omega
  clear hR1 hR2
  go_enter Tryz.func152, Tryz.ntmps152
  go_wp2_with fail
  go_loopw [5, 8] (fun _ i wr => ∃ k : Nat, k ≤ xs.length ∧ i = .int .i64 k ∧ wr = w ∧ ∀ y ∈ xs.take k, (x == y) = false) (fun _ i _ => xs.length - (intOf i).toNat)
  case atStart => exact ⟨0, Nat.zero_le _, rfl, rfl, by simp⟩
  case round =>
    obtain ⟨k, hk, rfl, rfl, hno⟩ := hrel
    have HNO := Lib.hid hno
    clear hno
    by_cases hlt : k < xs.length
    · obtain ⟨y, hy⟩ : ∃ y, xs[k]? = some y := ⟨_, List.getElem?_eq_getElem hlt⟩
      obtain ⟨b, o, rfl, hb, e0⟩ := ints_at HV.out hy
      have hk2 : (k : Int) < (xs.length : Int) := by omega
      have HY := Lib.hid hy
      clear hy
      cases hxy : (x == y) with
      | true =>
        have HF := Lib.hid (HR1.out k (by rw [List.contains_iff_mem]; have := beq_iff_eq.1 hxy; subst this; exact List.mem_of_getElem? HY.out))
        go_wp2_with fail
        exact HF.out
      | false =>
        have HX := Lib.hid hxy
        go_wp2_with fail
        go_roundw
        case rel =>
          refine ⟨k + 1, by omega, by go_num, by first | trivial | rfl, fun z hz => ?_⟩
          rw [List.take_add_one, HY.out] at hz
          rcases List.mem_append.1 hz with hz | hz
          · exact HNO.out z hz
          · simp at hz; subst hz; exact HX.out
        case measure => simp [intOf]; omega
    · have hc : xs.contains x = false := by
        rw [← Bool.not_eq_true, List.contains_iff_mem]
        intro h
        have := HNO.out x (by rw [List.take_of_length_le (by omega)]; exact h)
        simp at this
      have HF := Lib.hid (HR2.out hc)
      clear hc
      go_wp2_with fail
      exact HF.out
set_option maxHeartbeats 1000000 in
theorem containsI_any (xs : List Int) (x : Int) (v : Value) (w : World) (hv : IntsAt w v xs) (R : Ending → World → Prop) (hR : R (.returned (.bool (xs.contains x))) w) :
    Calls Tryz.prog 115 #[v, .int .i64 x] w R := by
  have HR := Lib.hid hR
  have HV := Lib.hid hv
  obtain ⟨va, vc, rfl, v1, v2, _⟩ := hv
  clear hR
  go_enter Tryz.func115, Tryz.ntmps115
  go_wp2_with fail
  refine indexI_any xs x _ _ HV.out _ ?_ ?_
  · intro k hc
    have HF := HR.out
    rw [hc] at HF
    have HF2 := Lib.hid HF
    have hk : (k : Int) ≥ 0 := by omega
    clear HF HR
    go_wp2_with fail
    exact HF2.out
  · intro hc
    have HF := HR.out
    rw [hc] at HF
    have HF2 := Lib.hid HF
    clear HF HR
    go_wp2_with fail
    exact HF2.out

/-- The block g holds numbers, and they can be written. -/
def RowI (w : World) (g : Nat) (xs : List Int) : Prop := ∀ (j : Nat) (x : Int), xs[j]? = some x → w.cell? ⟨g, j, none⟩ = some (.int .i64 x) ∧ w.frozen? ⟨g, j, none⟩ = false
theorem RowI.grow {w w' : World} {g : Nat} {xs : List Int} (h : RowI w g xs) (hg : Grow w w') (hb : g < w.heap.size) : RowI w' g xs := fun j x hj => ⟨hg.cell (h j x hj).1, (hg.cellsB.2 g _ hb).trans (h j x hj).2⟩
theorem RowI.of_own {w : World} {base : Nat} {e : TypeId} {g n cap : Nat} {xs : List Int} (h : w.ownsRow base e 1 (.slice (some ⟨g, 0, none⟩) n cap) xs.length (xs.flatMap encI)) : RowI w g xs := by
  intro j x hj
  obtain ⟨_, _, e1, _, _, h4⟩ := slc_of_owns encI_len h
  cases e1
  rcases h4 with ⟨h4, _⟩ | ⟨b, o, e2, _, hc⟩
  · rw [h4] at hj; simp at hj
  · cases e2
    refine ⟨by have := hc j x hj 0 _ rfl; simpa using this, ?_⟩
    exact ownsRow_free h _
theorem RowI.set {w : World} {g : Nat} {xs : List Int} (h : RowI w g xs) {k : Nat} (hk : k < xs.length) (x : Int) : RowI (w.setCell ⟨g, k, none⟩ (.int .i64 x)) g (xs.set k x) := by
  intro j y hj
  rw [World.frozen?_setCell]
  by_cases e : j = k
  · subst e
    rw [List.getElem?_set_self hk] at hj
    cases hj
    obtain ⟨h1, h2⟩ := h j _ (List.getElem?_eq_getElem hk)
    exact ⟨World.cell?_setCell_same (h := h1) .., h2⟩
  · rw [List.getElem?_set_ne (fun e2 => e e2.symm)] at hj
    obtain ⟨h1, h2⟩ := h j y hj
    exact ⟨(World.cell?_setCell_other (h := by intro e3; cases e3; exact e rfl) ..).trans h1, h2⟩
theorem RowI.ints {w : World} {g c : Nat} {xs : List Int} (h : RowI w g xs) (hb : g < w.heap.size) (hc : xs.length ≤ c) (hm : c ≤ 9223372036854775807) : IntsAt w (.slice (some ⟨g, 0, none⟩) xs.length c) xs := by
  refine ⟨_, c, rfl, hc, hm, .inr ⟨g, 0, rfl, hb, fun j x hx i u hu => ?_⟩⟩
  have hi : i = 0 := by
    have := (List.getElem?_eq_some_iff.1 hu).1
    simp [encI] at this; exact this
  subst hi
  simp [encI] at hu
  subst hu
  simpa using (h j x hx).1
def zerosI (n : Nat) : List Value := (Builtin.zeroCells (Value.int .i64 0).cells n).toList
theorem zerosI_length (n : Nat) : (zerosI n).length = n := by
  unfold zerosI; rw [Array.length_toList, size_zeroCells]; simp [Value.cells]
theorem zerosI_one (n : Nat) : ∀ v ∈ zerosI n, v.oneCell' = true := by
  intro v hv
  unfold zerosI Builtin.zeroCells at hv
  rw [Array.toList_map, List.mem_map] at hv
  obtain ⟨i, _, rfl⟩ := hv
  have h1 : (Value.int .i64 0).cells.size = 1 := rfl
  rw [h1, Nat.mod_one]
  rfl
theorem run_clear_ints (w : World) (ty g o n c : Nat) (hn : 0 < n) (hc : ∀ j, j < n → (w.cell? ⟨g, o + j, none⟩).isSome = true) (hf : ∀ j, j < n → w.frozen? ⟨g, o + j, none⟩ = false) :
    (Builtin.clear_ #[35] ty #[.slice (some ⟨g, o, none⟩) n c]).run Tryz.prog w = .ok (.tuple #[]) (w.setCells g o (zerosI n)) := by
  have hst := run_storeCells_cells (P := Tryz.prog) g o (zerosI n) 0 w (by rw [zerosI_length]; simpa using hc) (by rw [zerosI_length]; simpa using hf) (zerosI_one n)
  simp only [Nat.add_zero] at hst
  obtain ⟨m, rfl⟩ : ∃ m, n = m + 1 := ⟨n - 1, by omega⟩
  unfold zerosI at hst ⊢
  simp [Builtin.clear_, run_underlying Tryz.underlying35, hst]
theorem RowI.cleared {w : World} {g : Nat} {ys : List Int} (h : RowI w g ys) (k n : Nat) : RowI (w.setCells g k (zerosI n)) g (ys.take k) := by
  intro j x hj
  rw [List.getElem?_take] at hj
  split at hj
  · next hjk =>
    obtain ⟨h1, h2⟩ := h j x hj
    rw [World.frozen?_setCells, World.cell?_setCells_out g (zerosI n) k w ⟨g, j, none⟩ (fun _ _ => .inl (by dsimp only; omega))]
    exact ⟨h1, h2⟩
  · cases hj
theorem RowI.isSome {w : World} {g : Nat} {ys : List Int} (h : RowI w g ys) {t : Nat} (ht : t < ys.length) : (w.cell? ⟨g, t, none⟩).isSome = true ∧ w.frozen? ⟨g, t, none⟩ = false := by
  obtain ⟨h1, h2⟩ := h t _ (List.getElem?_eq_getElem ht)
  exact ⟨by rw [h1]; rfl, h2⟩
def keepI (pr : Int → Bool) (xs : List Int) : List Int := xs.filter fun x => !pr x
theorem keepI_snoc {pr : Int → Bool} {xs : List Int} {k : Nat} {x : Int} (hx : xs[k]? = some x) : keepI pr (xs.take (k + 1)) = keepI pr (xs.take k) ++ (if pr x then [] else [x]) := by
  rw [List.take_add_one, hx]
  unfold keepI
  rw [List.filter_append]
  cases h : pr x <;> simp [h]
theorem keepI_all {pr : Int → Bool} {xs : List Int} (h : ∀ y ∈ xs, pr y = false) : keepI pr xs = xs := by
  unfold keepI
  rw [List.filter_eq_self]
  intro y hy
  rw [h y hy]; rfl
/-- A function value that answers pr on numbers, as long as Inv holds. -/
def PredW (g : Nat) (cb : Array Value) (pr : Int → Bool) (Inv : World → Prop) : Prop :=
  ∀ (x : Int) (W : World), Inv W → ∀ R : Ending → World → Prop, (∀ W', Grow W W' → R (.returned (.bool (pr x))) W') → Calls Tryz.prog g (#[.int .i64 x] ++ cb) W R

set_option maxHeartbeats 4000000 in
theorem indexFI_any (f : Nat) (cb : Array Value) (eg : Enters Tryz.prog f) (pr : Int → Bool) (Inv : World → Prop) (hI : ∀ W W', Inv W → Grow W W' → Inv W') (hp : PredW f cb pr Inv) (xs : List Int) (v : Value) (w : World) (hv : IntsAt w v xs) (hi : Inv w) (R : Ending → World → Prop)
    (hR1 : ∀ w' (k : Nat) x, Grow w w' → xs[k]? = some x → pr x = true → (∀ y ∈ xs.take k, pr y = false) → R (.returned (.int .i64 (k : Int))) w')
    (hR2 : ∀ w', Grow w w' → (∀ y ∈ xs, pr y = false) → R (.returned (.int .i64 (-1))) w') :
    Calls Tryz.prog 118 #[v, .func (.func f) #[] cb] w R := by
  have HV := Lib.hid hv
  have HI := Lib.hid hI
  have HP := Lib.hid hp
  have HI0 := Lib.hid hi
  have HR1 := Lib.hid hR1
  have HR2 := Lib.hid hR2
  obtain ⟨va, vc, rfl, v1, v2, _⟩ := hv
  have hm : xs.length ≤ 9223372036854775807 := by omega
  unfold Enters at eg
  clear hR1 hR2 hI hp hi
  go_enter Tryz.func118, Tryz.ntmps118
  go_wp2_with fail
  go_loopw [5, 8] (fun _ i wr => ∃ k : Nat, k ≤ xs.length ∧ i = .int .i64 k ∧ Grow w wr ∧ ∀ y ∈ xs.take k, pr y = false) (fun _ i _ => xs.length - (intOf i).toNat)
  case atStart => exact ⟨0, Nat.zero_le _, rfl, Grow.refl _, by simp⟩
  case round =>
    obtain ⟨k, hk, rfl, hg, hno⟩ := hrel
    have HG := Lib.hid hg
    have HNO := Lib.hid hno
    clear hg hno
    by_cases hlt : k < xs.length
    · obtain ⟨y, hy⟩ : ∃ y, xs[k]? = some y := ⟨_, List.getElem?_eq_getElem hlt⟩
      obtain ⟨b, o, rfl, hb, e0⟩ := ints_at (HV.out.grow HG.out) hy
      have hk2 : (k : Int) < (xs.length : Int) := by omega
      have HY := Lib.hid hy
      clear hy
      cases hpy : pr y with
      | true =>
        have HPY := Lib.hid hpy
        clear hpy
        go_wp2_with fail
        refine HP.out y _ (HI.out _ _ HI0.out HG.out) _ ?_
        intro w1 hg1
        rw [HPY.out]
        have HF := Lib.hid (HR1.out w1 k y (HG.out.trans hg1) HY.out HPY.out HNO.out)
        clear hg1
        go_wp2_with fail
        exact HF.out
      | false =>
        have HPY := Lib.hid hpy
        clear hpy
        go_wp2_with fail
        refine HP.out y _ (HI.out _ _ HI0.out HG.out) _ ?_
        intro w1 hg1
        rw [HPY.out]
        have HG1 := Lib.hid (HG.out.trans hg1)
        clear hg1
        go_wp2_with fail
        go_roundw
        case rel =>
          refine ⟨k + 1, by omega, by go_num, HG1.out, fun z hz => ?_⟩
          rw [List.take_add_one, HY.out] at hz
          rcases List.mem_append.1 hz with hz | hz
          · exact HNO.out z hz
          · simp at hz; subst hz; exact HPY.out
        case measure => simp [intOf]; omega
    · have HF := Lib.hid (HR2.out wr HG.out (fun y hy => HNO.out y (by rw [List.take_of_length_le (by omega)]; exact hy)))
      go_wp2_with fail
      exact HF.out

set_option maxRecDepth 100000 in
set_option maxHeartbeats 8000000 in
theorem deleteFI_any (f : Nat) (cb : Array Value) (eg : Enters Tryz.prog f) (pr : Int → Bool) (Inv : World → Prop) (hI : ∀ W W', Inv W → Grow W W' → Inv W') (hp : PredW f cb pr Inv) (xs : List Int) (g n cap B : Nat) (hS : ∀ W k v, Inv W → Inv (W.setCell ⟨g, k, none⟩ v)) (w : World) (hn : xs.length = n) (hcap : n ≤ cap) (hm : cap ≤ 9223372036854775807) (hrow : RowI w g xs) (hg : g < w.heap.size) (hB : B ≤ g) (hi : Inv w) (R : Ending → World → Prop)
    (hR : ∀ w', Below B w w' → g < w'.heap.size → RowI w' g (keepI pr xs) → R (.returned (.slice (some ⟨g, 0, none⟩) (keepI pr xs).length cap)) w') :
    Calls Tryz.prog 113 #[.slice (some ⟨g, 0, none⟩) n cap, .func (.func f) #[] cb] w R := by
  have HN := Lib.hid hn
  have HROW := Lib.hid hrow
  have HR := Lib.hid hR
  have HI := Lib.hid hI
  have HS := Lib.hid hS
  have HP := Lib.hid hp
  have HI0 := Lib.hid hi
  have hv := hrow.ints hg (by rw [hn]; exact hcap) hm
  rw [hn] at hv
  have HV := Lib.hid hv
  have EG := Lib.hid eg
  unfold Enters at eg
  clear hn hrow hR hI hS hp hi hv
  go_enter Tryz.func113, Tryz.ntmps113
  go_wp2_with fail
  refine indexFI_any f cb EG.out pr Inv HI.out HP.out xs _ _ HV.out HI0.out _ ?_ ?_
  · intro w1 k x hg1 hx hpx hno
    have hkn : k < n := by rw [← HN.out]; exact (List.getElem?_eq_some_iff.1 hx).1
    have hst : keepI pr (xs.take (k + 1)) = xs.take k := by
      rw [keepI_snoc hx, hpx, if_pos rfl, List.append_nil]; exact keepI_all hno
    have HST := Lib.hid hst
    have HG1 := Lib.hid hg1
    have hgw1 : g < w1.heap.size := by have := hg1.sz; omega
    have t1 : ((k : Int) == -1) = false := by simp
    have t2 : ((k : Int) != -1) = true := by simp
    clear hx hpx hno hst hg1
    go_wp2_with fail
    go_loopw [5, 6, 7] (fun iv jv _ wr => ∃ (m q : Nat) (ys : List Int), iv = .int .i64 m ∧ jv = .int .i64 q ∧ q ≤ n ∧ m < q ∧ Below B w wr ∧ g < wr.heap.size ∧ Inv wr ∧ RowI wr g ys ∧ ys.length = n ∧ ys.take m = keepI pr (xs.take q) ∧ (keepI pr (xs.take q)).length = m ∧ ys.drop q = xs.drop q) (fun _ jv _ _ => n - (intOf jv).toNat)
    case atStart =>
      refine ⟨k, k + 1, xs, rfl, by go_num, by omega, by omega, HG1.out.below (by omega), hgw1, HI.out _ _ HI0.out HG1.out, HROW.out.grow HG1.out hg, HN.out, HST.out.symm, ?_, rfl⟩
      rw [HST.out, List.length_take, HN.out]; omega
    case round =>
      obtain ⟨m, q, ys, rfl, rfl, hq, hmq, hb2, hgw2, hin, hrw2, hyl, htk, hml, hdr⟩ := hrel
      have HB2 := Lib.hid hb2
      have HIN := Lib.hid hin
      have HRW2 := Lib.hid hrw2
      have HYL := Lib.hid hyl
      have HTK := Lib.hid htk
      have HML := Lib.hid hml
      have HDR := Lib.hid hdr
      clear hb2 hin hrw2 hyl htk hml hdr t1 t2
      by_cases hql : q < n
      · have hqn : (q : Int) < (n : Int) := by omega
        have hmn : m < n := by omega
        have hmn2 : (m : Int) < (n : Int) := by omega
        obtain ⟨x, hx⟩ : ∃ x, xs[q]? = some x := ⟨_, List.getElem?_eq_getElem (by rw [HN.out]; exact hql)⟩
        have hy2 : ys[q]? = some x := by
          have h := congrArg (fun l => l[0]?) HDR.out
          simp only [List.getElem?_drop, Nat.add_zero] at h
          rw [h]; exact hx
        obtain ⟨c0, _⟩ := HRW2.out q x hy2
        have hsn := keepI_snoc (pr := pr) hx
        have HSN := Lib.hid hsn
        have hdr1 : ys.drop (q + 1) = xs.drop (q + 1) := by
          have h := congrArg (fun l => l.drop 1) HDR.out
          simp only [List.drop_drop] at h
          exact h
        have HDR1 := Lib.hid hdr1
        clear hx hy2 hsn hdr1
        cases hpx : pr x with
        | true =>
          have HPX := Lib.hid hpx
          clear hpx
          go_wp2_with fail
          refine HP.out x _ HIN.out _ ?_
          intro w2 hg2
          rw [HPX.out]
          have HG2 := Lib.hid hg2
          clear hg2
          go_wp2_with fail
          go_roundw
          case rel =>
            refine ⟨m, q + 1, ys, rfl, by go_num, by omega, by omega, Below.of_grow HB2.out HG2.out (by omega), by have := HG2.out.sz; omega, HI.out _ _ HIN.out HG2.out, HRW2.out.grow HG2.out hgw2, HYL.out, ?_, ?_, HDR1.out⟩
            · rw [HSN.out, HPX.out, if_pos rfl, List.append_nil]; exact HTK.out
            · rw [HSN.out, HPX.out, if_pos rfl, List.append_nil]; exact HML.out
          case measure => simp [intOf]; omega
        | false =>
          have HPX := Lib.hid hpx
          clear hpx
          go_wp2_with fail
          refine HP.out x _ HIN.out _ ?_
          intro w2 hg2
          rw [HPX.out]
          have HG2 := Lib.hid hg2
          have hrw3 := HRW2.out.grow HG2.out hgw2
          have hgw3 : g < w2.heap.size := by have := HG2.out.sz; omega
          obtain ⟨y, hmy⟩ : ∃ y, ys[m]? = some y := ⟨_, List.getElem?_eq_getElem (by rw [HYL.out]; exact hmn)⟩
          obtain ⟨m0, z0⟩ := hrw3 m y hmy
          have HRW3 := Lib.hid hrw3
          clear hg2 hrw3 hmy
          go_wp2_with fail
          go_roundw
          case rel =>
            have hrs := HRW3.out.set (k := m) (by rw [HYL.out]; exact hmn) x
            refine ⟨m + 1, q + 1, ys.set m x, by go_num, by go_num, by omega, by omega, Below.setCell (Below.of_grow HB2.out HG2.out (by omega)) hB _, ?_, HS.out _ _ _ (HI.out _ _ HIN.out HG2.out), hrs, by rw [List.length_set]; exact HYL.out, ?_, ?_, ?_⟩
            · simp only [World.size_setCell]; exact hgw3
            · rw [HSN.out, HPX.out, if_neg (by simp), ← HTK.out, List.take_add_one, List.take_set, List.getElem?_set_self (by rw [HYL.out]; exact hmn), List.set_eq_of_length_le (by simp; omega)]; rfl
            · rw [HSN.out, HPX.out, if_neg (by simp), List.length_append]; have := HML.out; simp; omega
            · rw [List.drop_set_of_lt (by omega)]; exact HDR1.out
          case measure => simp [intOf]; omega
      · have hqe : q = n := by omega
        subst hqe
        have hcl : ∀ ty, (Builtin.clear_ #[35] ty #[.slice (some ⟨g, m, none⟩) (q - m) (cap - m)]).run Tryz.prog wr = .ok (.tuple #[]) (wr.setCells g m (zerosI (q - m))) := fun ty =>
          run_clear_ints wr ty g m (q - m) (cap - m) (by omega) (fun t ht => (HRW2.out.isSome (by rw [HYL.out]; omega)).1) (fun t ht => (HRW2.out.isSome (by rw [HYL.out]; omega)).2)
        have hfin := HRW2.out.cleared m (q - m)
        rw [HTK.out] at hfin
        have hlen : m = (keepI pr (xs.take q)).length := by
          rw [← HTK.out, List.length_take, HYL.out]; omega
        have hall : keepI pr (xs.take q) = keepI pr xs := by rw [List.take_of_length_le (by rw [HN.out]; exact Nat.le_refl _)]
        rw [hall] at hfin hlen
        have hf := HR.out _ (below_setCells g hB _ _ _ HB2.out) (by rw [size_setCells']; exact hgw2) hfin
        rw [← hlen] at hf
        have HF := Lib.hid hf
        have hm2 : (m : Int) ≤ (q : Int) := by omega
        have hm4 : m ≤ q := by omega
        have hm5 : m ≤ cap := by omega
        clear hf hfin hlen hall
        go_wp2_with fail
        exact HF.out
  · intro w1 hg1 hno
    have hall := keepI_all hno
    have hf := HR.out w1 (hg1.below (by omega)) (by have := hg1.sz; omega) (by rw [hall]; exact HROW.out.grow hg1 hg)
    rw [hall, HN.out] at hf
    have HF := Lib.hid hf
    clear hf hall hno hg1
    go_wp2_with fail
    exact HF.out
end Go.Proofs.YtbccbokjecdaaaaGreat

namespace Go.Proofs.YtbccbokjecdaaaaGreat
open Go.RowKit

/-- The tests that a patch makes fail. -/
def brkM (p q : List Ln) (ts : List Tst) : List Int := whereL (fun t => !passM q t && passM p t) ts
theorem fmap_congr {f g : Nat → Option Int} : ∀ (l : List Nat), (∀ k ∈ l, f k = g k) → l.filterMap f = l.filterMap g
  | [], _ => rfl
  | k :: r, h => by rw [List.filterMap_cons, List.filterMap_cons, h k (by simp), fmap_congr r (fun j hj => h j (by simp [hj]))]
theorem where_and (f g : Tst → Bool) (ts : List Tst) : keepI (fun i => !(whereL g ts).contains i) (whereL f ts) = whereL (fun t => f t && g t) ts := by
  have h1 : ∀ h : Tst → Bool, whereL h ts = (List.range ts.length).filterMap fun k : Nat => match ts[k]? with | some t => if h t then some (k : Int) else none | none => none := fun h => by unfold whereL; refine congrArg (fun F => List.filterMap F _) (funext fun k => ?_); cases ts[k]? <;> rfl
  unfold keepI
  rw [h1 f, h1 (fun t => f t && g t), List.filter_filterMap]
  refine fmap_congr _ fun k hk => ?_
  have hlt : k < ts.length := List.mem_range.1 hk
  rw [List.getElem?_eq_getElem hlt]
  dsimp only
  have hc : (whereL g ts).contains (k : Int) = g ts[k] := by
    rw [Bool.eq_iff_iff, List.contains_iff_mem, mem_whereL]
    constructor
    · rintro ⟨k', t, hk', ht, hg⟩
      have : k = k' := by omega
      subst this
      rw [List.getElem?_eq_getElem hlt] at ht
      cases ht
      exact hg
    · intro hg
      exact ⟨k, _, rfl, List.getElem?_eq_getElem hlt, hg⟩
  cases hf : f ts[k] with
  | false => simp
  | true =>
    simp only [if_true, Bool.true_and]
    rw [Option.filter_some, hc, Bool.not_not]
def TInv (cb : Nat) (v : Value) (C : List Int) (X : World) : Prop := X.heap[cb]? = some (.cells #[v] 35 (0, 0)) ∧ IntsAt X v C
theorem own_blkI {base k : Nat} {α : Type} {enc : α → List Value} {w : World} {a : Option Addr} {n c : Nat} {xs : List α} (h : Own k enc base w (.slice a n c) xs) : ∀ b o s, a = some ⟨b, o, s⟩ → base ≤ b := by
  obtain ⟨e, h⟩ := h
  intro b o s ha
  subst ha
  rcases h.2 with ⟨hv, _⟩ | ⟨g, cap, cur, hv, hg, _⟩
  · cases hv
  · cases hv; exact hg
theorem slc_setCell {α : Type} {k : Nat} {enc : α → List Value} {w : World} {g j : Nat} {u : Value} {a : Option Addr} {n c : Nat} {xs : List α} (h : SlcAt k enc w (.slice a n c) xs) (hb : ∀ b o s, a = some ⟨b, o, s⟩ → b ≠ g) : SlcAt k enc (w.setCell ⟨g, j, none⟩ u) (.slice a n c) xs := by
  obtain ⟨a', c', hv, h1, h2, h3⟩ := h
  cases hv
  refine ⟨a, c, rfl, h1, h2, h3.imp id ?_⟩
  rintro ⟨b, o, rfl, hbl, hc⟩
  refine ⟨b, o, rfl, by rw [World.size_setCell]; exact hbl, fun j x hx i u hu => ?_⟩
  rw [World.cell?_setCell_far _ _ _ _ (fun h => hb b o none rfl h.symm)]
  exact hc j x hx i u hu

set_option maxHeartbeats 2000000 in
theorem turnF_any (x : Int) (ps : List Int) (v : Value) (cb : Nat) (w : World) (hv : IntsAt w v ps) (hb : w.heap[cb]? = some (.cells #[v] 35 (0, 0))) (R : Ending → World → Prop)
    (hR : ∀ w', Grow w w' → R (.returned (.bool (!ps.contains x))) w') :
    Calls Tryz.prog 114 #[.int .i64 x, .pointer (some ⟨cb, 0, none⟩)] w R := by
  have HV := Lib.hid hv
  have HR := Lib.hid hR
  obtain ⟨a, c, rfl, _⟩ := hv
  have e0 := box1 hb
  have hz := lt_of_block hb
  clear hR hb
  go_enter Tryz.func114, Tryz.ntmps114
  go_wp2_with fail
  refine containsI_any ps x _ _ HV.out _ ?_
  have HF := Lib.hid (HR.out w (Grow.refl w))
  generalize ps.contains x = b at HF ⊢
  clear HR
  go_wp2_with fail
  exact HF.out

set_option maxHeartbeats 2000000 in
theorem deleteFI_none (f : Nat) (cb : Array Value) (eg : Enters Tryz.prog f) (pr : Int → Bool) (Inv : World → Prop) (hI : ∀ W W', Inv W → Grow W W' → Inv W') (hp : PredW f cb pr Inv) (w : World) (hi : Inv w) (R : Ending → World → Prop) (hR : ∀ w', Grow w w' → R (.returned (.slice none 0 0)) w') :
    Calls Tryz.prog 113 #[.slice none 0 0, .func (.func f) #[] cb] w R := by
  have HR := Lib.hid hR
  have HI := Lib.hid hI
  have HP := Lib.hid hp
  have HI0 := Lib.hid hi
  have EG := Lib.hid eg
  unfold Enters at eg
  clear hR hI hp hi
  go_enter Tryz.func113, Tryz.ntmps113
  go_wp2_with fail
  refine indexFI_any f cb EG.out pr Inv HI.out HP.out [] _ _ (SlcAt.nil _ _ _) HI0.out _ ?_ ?_
  · intro w1 k x hg1 hx _ _
    simp at hx
  · intro w1 hg1 _
    have HF := Lib.hid (HR.out w1 hg1)
    clear hg1
    go_wp2_with fail
    exact HF.out

set_option maxRecDepth 100000 in
set_option maxHeartbeats 8000000 in
theorem turned_any (q p : List Ln) (ts : List Tst) (qv pv tv : Value) (w : World) (hq : LinesAt w qv q) (hp : LinesAt w pv p) (ht : TestsAt w tv ts) (h1 : chkT q ts = 0) (h2 : chkT p ts = 0) (R : Ending → World → Prop)
    (hR : ∀ w' v, Grow w w' → IntsAt w' v (brkM p q ts) → R (.returned v) w') :
    Calls Tryz.prog 67 #[qv, pv, tv] w R := by
  have HQ := Lib.hid hq
  have HP := Lib.hid hp
  have HT := Lib.hid ht
  have HR := Lib.hid hR
  have H1 := Lib.hid h1
  have H2 := Lib.hid h2
  obtain ⟨qa, qc, rfl, _⟩ := hq
  obtain ⟨pa, pc, rfl, _⟩ := hp
  obtain ⟨⟨ta, tc, rfl, _⟩, _⟩ := ht
  have eg : Enters Tryz.prog 114 := enters_of Tryz.func114 (by kernel_rfl) rfl
  have EG := Lib.hid eg
  obtain ⟨A, hA⟩ : ∃ A, whereL (fun t => !passM q t) ts = A := ⟨_, rfl⟩
  obtain ⟨C, hC⟩ : ∃ C, whereL (passM p) ts = C := ⟨_, rfl⟩
  have hbr : brkM p q ts = keepI (fun i => !C.contains i) A := by rw [← hA, ← hC, where_and]; rfl
  rw [hbr] at HR
  have HA := Lib.hid hA
  have HC := Lib.hid hC
  clear hR h1 h2 eg hA hC hbr
  go_enter Tryz.func67, Tryz.ntmps67
  go_wp2_with fail
  refine Failing_any q ts _ _ _ HQ.out HT.out _ ?_
  intro w1 x1 hg1 hx1
  rw [H1.out, ifOK_ok, HA.out] at hx1
  rw [H1.out]
  have HX1 := Lib.hid hx1
  obtain ⟨a1, c1, rfl, q11, q12, _⟩ := hx1.slc encI_len
  have HG1 := Lib.hid hg1
  clear hg1 hx1
  go_wp2_with fail
  refine Passing_any p ts _ _ _ (HP.out.grow HG1.out) (HT.out.grow HG1.out) _ ?_
  intro w2 x2 hg2 hx2
  rw [H2.out, ifOK_ok, show whereL (fun t => passM p t) ts = C from HC.out] at hx2
  rw [H2.out]
  have hs2 := hx2.slc encI_len
  have hbk2 : ∀ b o s, ∀ a c, x2 = .slice a C.length c → a = some ⟨b, o, s⟩ → w1.heap.size ≤ b := fun b o s a c h ha => own_blkI (h ▸ hx2) b o s ha
  obtain ⟨a2, c2, rfl, _⟩ := hs2
  have HS2 := Lib.hid (hx2.slc encI_len)
  have HB2 := Lib.hid (fun b o s h => hbk2 b o s a2 c2 rfl h)
  have HG2 := Lib.hid hg2
  have hz2 := hg2.sz
  clear hg2 hx2 hbk2
  go_wp2_with fail
  have hb := heap_alloc_new w2 (.cells #[.slice a2 C.length c2] 35)
  have hg := (Grow.refl w2).alloc (.cells #[.slice a2 C.length c2] 35)
  have hszW : (w2.alloc (.cells #[.slice a2 C.length c2] 35)).heap.size = w2.heap.size + 1 := by simp
  generalize w2.alloc (.cells #[.slice a2 C.length c2] 35) = W at hb hg hszW ⊢
  have hpred : PredW 114 #[.pointer (some ⟨w2.heap.size, 0, none⟩)] (fun i => !C.contains i) (TInv w2.heap.size (.slice a2 C.length c2) C) := fun x X hX R hR => turnF_any x C _ _ X hX.2 hX.1 R hR
  have hgrw : ∀ X X' : World, TInv w2.heap.size (.slice a2 C.length c2) C X → Grow X X' → TInv w2.heap.size (.slice a2 C.length c2) C X' := fun X X' h g => ⟨g.blk h.1, h.2.grow g⟩
  have hinv : TInv w2.heap.size (.slice a2 C.length c2) C W := ⟨hb, HS2.out.grow hg⟩
  have hst : ∀ g1 : Nat, g1 < w1.heap.size → ∀ (X : World) (k : Nat) (v : Value), TInv w2.heap.size (.slice a2 C.length c2) C X → TInv w2.heap.size (.slice a2 C.length c2) C (X.setCell ⟨g1, k, none⟩ v) := by
    intro g1 hg1 X k v hX
    refine ⟨?_, slc_setCell hX.2 (fun b o s h => by have := HB2.out b o s h; omega)⟩
    rw [Below.heap_setCell _ _ _ _ (by show w2.heap.size ≠ g1; omega)]
    exact hX.1
  have HX1' := HX1.out
  obtain ⟨e1, hrow1⟩ := HX1'
  rcases hrow1.2 with ⟨hv, h0⟩ | ⟨g1, cap1, cur1, hv, hbg, hh, _⟩
  · obtain ⟨rfl, _, rfl⟩ : a1 = none ∧ A.length = 0 ∧ c1 = 0 := by simpa using hv
    have hA0 : A = [] := List.length_eq_zero_iff.1 h0
    rw [h0]
    refine deleteFI_none 114 _ EG.out (fun i => !C.contains i) (TInv w2.heap.size (.slice a2 C.length c2) C) hgrw hpred _ hinv _ ?_
    intro w3 hg3
    have HF := Lib.hid (HR.out w3 (.slice none 0 0) (HG1.out.trans (HG2.out.trans (hg.trans hg3))) (by rw [hA0]; exact SlcAt.nil _ _ _))
    clear hg3 hpred hgrw hinv hst hb hg
    go_wp2_with fail
    exact HF.out
  · cases hv
    have hg1s : g1 < w1.heap.size := lt_of_block hh
    have hrowI := RowI.of_own hrow1
    have hrI := hrowI.grow (HG2.out.trans hg) hg1s
    have hgW : g1 < W.heap.size := by omega
    refine deleteFI_any 114 _ EG.out (fun i => !C.contains i) (TInv w2.heap.size (.slice a2 C.length c2) C) hgrw hpred A g1 A.length _ w.heap.size (hst g1 hg1s) W rfl q11 q12 hrI hgW hbg hinv _ ?_
    · intro w3 hb3 hg3 hr3
      have hle : (keepI (fun i => !C.contains i) A).length ≤ A.length := List.length_filter_le _ _
      have HF := Lib.hid (HR.out w3 _ (Below.trans (HG1.out.trans (HG2.out.trans hg)) hb3) (hr3.ints hg3 (Nat.le_trans hle q11) q12))
      clear hb3 hg3 hr3 hpred hgrw hinv hst hb hg hrI hgW
      generalize keepI (fun i => !C.contains i) A = Lk at HF ⊢
      go_wp2_with fail
      exact HF.out
end Go.Proofs.YtbccbokjecdaaaaGreat

namespace Go.Proofs.YtbccbokjecdaaaaGreat
open Go.RowKit

/-- What Breaks answers. -/
def brkO (p : List Ln) (x : List Ed) (ts : List Tst) : List Int := ifOK (chkX p x ts) (brkM p (doM p x) ts)
set_option maxHeartbeats 4000000 in
theorem Breaks_any (p : List Ln) (x : List Ed) (ts : List Tst) (pv xv tv : Value) (w : World) (hp : LinesAt w pv p) (hx : EditsAt w xv x) (ht : TestsAt w tv ts) (R : Ending → World → Prop)
    (hR : ∀ w' v, Grow w w' → IntsAt w' v (brkO p x ts) → R (.returned (.tuple #[v, .int .i64 (chkX p x ts)])) w') :
    Calls Tryz.prog 22 #[pv, xv, tv] w R := by
  have HP := Lib.hid hp
  have HX := Lib.hid hx
  have HT := Lib.hid ht
  rw [show brkO p x ts = ifOK (chkX p x ts) (brkM p (doM p x) ts) from rfl] at hR
  have HR := Lib.hid hR
  obtain ⟨e, he⟩ : ∃ e, chkX p x ts = e := ⟨_, rfl⟩
  have hok := fun h : e = 0 => chkX_ok.1 (he.trans h)
  rw [he] at HR
  have HE := Lib.hid he
  obtain ⟨pa, pc, rfl, _⟩ := hp
  obtain ⟨xa, xc, rfl, _⟩ := hx
  obtain ⟨⟨ta, tc, rfl, _⟩, _⟩ := ht
  clear hR he
  by_cases h0 : e = 0
  rotate_left
  · rw [ifOK_err h0] at HR
    have t1 : (e != 0) = true := by simpa using h0
    clear hok h0
    go_enter Tryz.func22, Tryz.ntmps22
    go_wp2_with fail
    refine checked_any p x ts _ _ _ _ HP.out HX.out HT.out _ ?_
    intro w1 hg1
    rw [HE.out]
    have HF := Lib.hid (HR.out w1 (.slice none 0 0) hg1 (SlcAt.nil _ _ _))
    clear hg1
    go_wp2_with fail
    exact HF.out
  obtain ⟨hv, hvx, hvt, hoff⟩ := hok h0
  subst h0
  rw [ifOK_ok] at HR
  have hxv := valX_ok.1 hvx
  have hp8 := (valP_ok.1 hv).1
  have HD1 := Lib.hid (chkT_ok.2 ⟨doM_ok (x := x) hv (fun e he => by
    obtain ⟨i, hi⟩ := List.getElem?_of_mem he
    exact (edsOK_at hxv.2 hi).2.2), hvt⟩)
  have HD2 := Lib.hid (chkT_ok.2 ⟨hv, hvt⟩)
  have HXV := Lib.hid hxv
  have HOFF := Lib.hid hoff
  obtain ⟨q, hq⟩ : ∃ q, doM p x = q := ⟨_, rfl⟩
  rw [hq] at HR HD1
  have HQ := Lib.hid hq
  clear hok hv hvx hvt hoff hxv hq
  go_enter Tryz.func22, Tryz.ntmps22
  go_wp2_with fail
  refine checked_any p x ts _ _ _ _ HP.out HX.out HT.out _ ?_
  intro w1 hg1
  rw [HE.out]
  have HG1 := Lib.hid hg1
  clear hg1
  go_wp2_with fail
  refine do_any p x _ _ _ (HP.out.grow HG1.out) (HX.out.grow HG1.out) hp8 HXV.out.2 HXV.out.1 HOFF.out _ ?_
  intro w2 v2 hg2 hv2
  rw [HQ.out] at hv2
  have HV2 := Lib.hid hv2
  obtain ⟨a2, c2, rfl, _⟩ := hv2
  have HG2 := Lib.hid (HG1.out.trans hg2)
  clear hg2
  go_wp2_with fail
  refine turned_any q p ts _ _ _ _ HV2.out (HP.out.grow HG2.out) (HT.out.grow HG2.out) HD1.out HD2.out _ ?_
  intro w3 v3 hg3 hv3
  have HF := Lib.hid (HR.out w3 v3 (HG2.out.trans hg3) hv3)
  clear hg3 hv3
  go_wp2_with fail
  exact HF.out

set_option maxHeartbeats 4000000 in
theorem kills_any (p : List Ln) (ts : List Tst) (t op d a b : Int) (pv tv : Value) (w : World) (hp : LinesAt w pv p) (ht : TestsAt w tv ts) (R : Ending → World → Prop)
    (hR : ∀ w' v, Grow w w' → IntsAt w' v (brkO p [⟨t, ⟨op, d, a, b⟩⟩] ts) → R (.returned v) w') :
    Calls Tryz.prog 61 #[pv, tv, .agg #[.int .i64 t, .int .i64 op, .int .i64 d, .int .i64 a, .int .i64 b]] w R := by
  have HP := Lib.hid hp
  have HT := Lib.hid ht
  have HR := Lib.hid hR
  obtain ⟨e, he⟩ : ∃ e, chkX p [⟨t, ⟨op, d, a, b⟩⟩] ts = e := ⟨_, rfl⟩
  have HE := Lib.hid he
  obtain ⟨pa, pc, rfl, _⟩ := hp
  obtain ⟨⟨ta, tc, rfl, _⟩, _⟩ := ht
  clear hR he
  go_enter Tryz.func61, Tryz.ntmps61
  go_wp2_with fail
  have hg := (Grow.refl w).alloc (.cells #[.int .i64 t, .int .i64 op, .int .i64 d, .int .i64 a, .int .i64 b] 27)
  have hsz : (w.alloc (.cells #[.int .i64 t, .int .i64 op, .int .i64 d, .int .i64 a, .int .i64 b] 27)).heap.size = w.heap.size + 1 := by simp
  generalize w.alloc (.cells #[.int .i64 t, .int .i64 op, .int .i64 d, .int .i64 a, .int .i64 b] 27) = W at hg hsz ⊢
  have hlit := edits_lit W t op d a b 27
  rw [hsz] at hlit
  refine Breaks_any p [⟨t, ⟨op, d, a, b⟩⟩] ts _ _ _ _ (HP.out.grow (hg.alloc _)) hlit (HT.out.grow (hg.alloc _)) _ ?_
  intro w1 v1 hg1 hv1
  rw [HE.out]
  have HF := Lib.hid (HR.out w1 v1 ((hg.alloc _).trans hg1) hv1)
  obtain ⟨a1, c1, rfl, _⟩ := hv1
  clear hg1 hlit hg hsz
  go_wp2_with fail
  exact HF.out

/-- The errors of Kills, and what it answers. -/
def kilE (p : List Ln) (ts : List Tst) (m : Ed) : Int := if chkT p ts = 0 then (if inB m.at_ 0 ((p.length : Int) - 1) then (if (tmpl (lineAt p m.at_)).contains m.l then 0 else 1) else 4) else chkT p ts
def kilO (p : List Ln) (ts : List Tst) (m : Ed) : List Int := ifOK (kilE p ts m) (brkM p (setAll p [m]) ts)
theorem kilE_ok {p : List Ln} {ts : List Tst} {m : Ed} : kilE p ts m = 0 ↔ (valP p = 0 ∧ valT ts = 0) ∧ (0 ≤ m.at_ ∧ m.at_ < p.length) ∧ m.l ∈ tmpl (lineAt p m.at_) := by
  unfold kilE
  rw [← chkT_ok]
  by_cases h1 : chkT p ts = 0
  · cases h2 : inB m.at_ 0 ((p.length : Int) - 1) with
    | false => have := inB_false.1 h2; simp [h1]; intro h3 h4; omega
    | true =>
      have := inB_true.1 h2
      cases h3 : (tmpl (lineAt p m.at_)).contains m.l with
      | false =>
        have h4 : ¬ m.l ∈ tmpl (lineAt p m.at_) := by rw [← List.contains_iff_mem, h3]; simp
        simp [h1, h4]
      | true =>
        have h4 : m.l ∈ tmpl (lineAt p m.at_) := List.contains_iff_mem.1 h3
        simp [h1, h4]; omega
  · simp [h1]
theorem brkO_kil {p : List Ln} {ts : List Tst} {m : Ed} (h : kilE p ts m = 0) : chkX p [m] ts = 0 ∧ brkO p [m] ts = brkM p (setAll p [m]) ts := by
  obtain ⟨⟨hv, hvt⟩, ⟨h0, h1⟩, h2⟩ := kilE_ok.1 h
  obtain ⟨t, l⟩ := m
  dsimp only at h0 h1 h2
  have hc := chkX_one hv hvt h0 h1 (tmpl_ok h2)
  have h8 := (valP_ok.1 hv).1
  refine ⟨hc, ?_⟩
  unfold brkO
  rw [hc, ifOK_ok, setAll_eq (edsOK_one h0 (by omega) (tmpl_ok h2))]

set_option maxRecDepth 100000 in
set_option maxHeartbeats 16000000 in
theorem Kills_any (p : List Ln) (ts : List Tst) (t op d a b : Int) (pv tv : Value) (w : World) (hp : LinesAt w pv p) (ht : TestsAt w tv ts) (R : Ending → World → Prop)
    (hR : ∀ w' v, Grow w w' → IntsAt w' v (kilO p ts ⟨t, ⟨op, d, a, b⟩⟩) → R (.returned (.tuple #[v, .int .i64 (kilE p ts ⟨t, ⟨op, d, a, b⟩⟩)])) w') :
    Calls Tryz.prog 18 #[pv, tv, .agg #[.int .i64 t, .int .i64 op, .int .i64 d, .int .i64 a, .int .i64 b]] w R := by
  have HP := Lib.hid hp
  have HT := Lib.hid ht
  have ho : kilO p ts ⟨t, ⟨op, d, a, b⟩⟩ = ifOK (kilE p ts ⟨t, ⟨op, d, a, b⟩⟩) (brkM p (setAll p [⟨t, ⟨op, d, a, b⟩⟩]) ts) := rfl
  have hk : kilE p ts ⟨t, ⟨op, d, a, b⟩⟩ = if chkT p ts = 0 then (if inB t 0 ((p.length : Int) - 1) then (if (tmpl (lineAt p t)).contains ⟨op, d, a, b⟩ then 0 else 1) else 4) else chkT p ts := rfl
  have hbk := fun h => (brkO_kil (p := p) (ts := ts) (m := ⟨t, ⟨op, d, a, b⟩⟩) h).2
  rw [ho] at hR
  obtain ⟨e, he⟩ : ∃ e, chkT p ts = e := ⟨_, rfl⟩
  obtain ⟨i, hi⟩ : ∃ i, inB t 0 ((p.length : Int) - 1) = i := ⟨_, rfl⟩
  obtain ⟨ke, hke⟩ : ∃ z, kilE p ts ⟨t, ⟨op, d, a, b⟩⟩ = z := ⟨_, rfl⟩
  rw [hke] at hR hbk hk
  rw [he, hi] at hk
  have hok := fun h : e = 0 => chkT_ok.1 (he.trans h)
  have HR := Lib.hid hR
  have HE := Lib.hid he
  have HI := Lib.hid hi
  obtain ⟨pa, pc, rfl, p1, p2, _⟩ := hp
  obtain ⟨⟨ta, tc, rfl, _⟩, _⟩ := ht
  have hw1 : IntKind.i64.wrap ((p.length : Int) - 1) = (p.length : Int) - 1 := IntWalk.i64_in _ (by omega)
  have HB := Lib.hid (heap_alloc_new w (.cells #[.int .i64 t, .int .i64 op, .int .i64 d, .int .i64 a, .int .i64 b] 27))
  have HG := Lib.hid ((Grow.refl w).alloc (.cells #[.int .i64 t, .int .i64 op, .int .i64 d, .int .i64 a, .int .i64 b] 27))
  clear hR ho he hi
  by_cases z1 : e = 0
  rotate_left
  · rw [if_neg z1] at hk
    subst hk
    rw [ifOK_err z1] at HR
    have t1 : (ke != 0) = true := by simpa using z1
    clear hok hbk z1
    go_enter Tryz.func18, Tryz.ntmps18
    go_wp2_with fail
    refine programs_any p ts _ _ _ (HP.out.grow HG.out) (HT.out.grow HG.out) _ ?_
    intro w1 hg1
    rw [HE.out]
    have HB1 := Lib.hid (hg1.blk HB.out)
    have HG1 := Lib.hid (HG.out.trans hg1)
    clear hg1
    obtain ⟨e0, e1, e2, e3, e4⟩ := box5 HB1.out
    have hz := lt_of_block HB1.out
    go_wp2_with fail
    exact HR.out w1 _ HG1.out (SlcAt.nil _ _ _)
  obtain ⟨hv, hvt⟩ := hok z1
  subst z1
  rw [if_pos rfl] at hk
  clear hok
  cases i with
  | false =>
    rw [if_neg (by decide)] at hk
    subst hk
    rw [ifOK_err (by decide)] at HR
    clear hbk hv hvt
    go_enter Tryz.func18, Tryz.ntmps18
    go_wp2_with fail
    refine programs_any p ts _ _ _ (HP.out.grow HG.out) (HT.out.grow HG.out) _ ?_
    intro w1 hg1
    rw [HE.out]
    have HB1 := Lib.hid (hg1.blk HB.out)
    have HG1 := Lib.hid (HG.out.trans hg1)
    clear hg1
    obtain ⟨e0, e1, e2, e3, e4⟩ := box5 HB1.out
    have hz := lt_of_block HB1.out
    go_wp2_with fail
    refine swithin_any _ _ _ _ _ ?_
    rw [HI.out]
    go_wp2_with fail
    exact HR.out w1 _ HG1.out (SlcAt.nil _ _ _)
  | true =>
    rw [if_pos rfl] at hk
    have hin := inB_true.1 HI.out
    obtain ⟨n, rfl⟩ : ∃ n : Nat, t = n := ⟨t.toNat, by omega⟩
    have hnp : n < p.length := by omega
    have hnp2 : (n : Int) < (p.length : Int) := by omega
    obtain ⟨⟨o1, d1, a1, b1⟩, hl⟩ : ∃ l, p[n]? = some l := ⟨_, List.getElem?_eq_getElem hnp⟩
    have hla : lineAt p (n : Int) = ⟨o1, d1, a1, b1⟩ := by unfold lineAt; rw [show ((n : Int)).toNat = n by omega, hl]; rfl
    rw [hla] at hk
    have HOK := Lib.hid (show vL o1 d1 a1 b1 = true from (valP_ok.1 hv).2 _ (List.mem_of_getElem? hl))
    have HL := Lib.hid hl
    obtain ⟨c, hc⟩ : ∃ c, (tmpl ⟨o1, d1, a1, b1⟩).contains ⟨op, d, a, b⟩ = c := ⟨_, rfl⟩
    rw [hc] at hk
    have HC := Lib.hid hc
    clear hv hvt hin hl hla hc
    go_enter Tryz.func18, Tryz.ntmps18
    go_wp2_with fail
    refine programs_any p ts _ _ _ (HP.out.grow HG.out) (HT.out.grow HG.out) _ ?_
    intro w1 hg1
    rw [HE.out]
    have HB1 := Lib.hid (hg1.blk HB.out)
    have HG1 := Lib.hid (HG.out.trans hg1)
    clear hg1
    obtain ⟨e0, e1, e2, e3, e4⟩ := box5 HB1.out
    have hz := lt_of_block HB1.out
    go_wp2_with fail
    refine swithin_any _ _ _ _ _ ?_
    rw [HI.out]
    go_wp2_with fail
    obtain ⟨g, o, rfl, hgp, y0, y1, y2, y3⟩ := lines_at (HP.out.grow HG1.out) HL.out
    refine wp_region_held_drew (S := fun X => X.cell? ⟨w.heap.size, 0, none⟩ = some (.int .i64 (n : Int)) ∧ X.cell? ⟨w.heap.size, 1, none⟩ = some (.int .i64 op) ∧ X.cell? ⟨w.heap.size, 2, none⟩ = some (.int .i64 d) ∧ X.cell? ⟨w.heap.size, 3, none⟩ = some (.int .i64 a) ∧ X.cell? ⟨w.heap.size, 4, none⟩ = some (.int .i64 b) ∧ X.cell? ⟨g, o + n * 4, none⟩ = some (.int .i64 o1) ∧ X.cell? ⟨g, o + n * 4 + 1, none⟩ = some (.int .i64 d1) ∧ X.cell? ⟨g, o + n * 4 + 2, none⟩ = some (.int .i64 a1) ∧ X.cell? ⟨g, o + n * 4 + 3, none⟩ = some (.int .i64 b1) ∧ Grow w1 X) (by kernel_rfl) ⟨e0, e1, e2, e3, e4, y0, y1, y2, y3, (Grow.refl w1).drew⟩ (fun hH => ?_)
    refine wpAnyH_take (i := 0) (v := .slice (some ⟨g, o, none⟩) p.length pc) rfl (by kernel_rfl) (by kernel_rfl) (by kernel_rfl) (fun _ _ _ h => h) (Or.inl ⟨by rfl, ?_⟩) hH ?_
    · intro w9 hw9
      obtain ⟨v0, v1, v2, v3, v4, v5, v6, v7, v8, vg⟩ := hw9
      go_simp
    simp only [List.getElem_toArray, List.getElem_cons_zero, Act.put, List.setIfInBounds_toArray, List.set_cons_zero, List.set_cons_succ]
    refine wpAnyH_take (i := 1) (v := .pointer (some ⟨w.heap.size, 0, none⟩)) rfl (by kernel_rfl) (by kernel_rfl) (by kernel_rfl) (fun _ _ _ h => h) (Or.inl ⟨by rfl, ?_⟩) hH ?_
    · intro w9 hw9
      obtain ⟨v0, v1, v2, v3, v4, v5, v6, v7, v8, vg⟩ := hw9
      go_simp
    simp only [List.getElem_toArray, List.getElem_cons_succ, List.getElem_cons_zero, Act.put, List.setIfInBounds_toArray, List.set_cons_zero, List.set_cons_succ]
    refine wpAnyH_take (i := 2) (v := .int .i64 n) rfl (by kernel_rfl) (by kernel_rfl) (by kernel_rfl) (fun _ _ _ h => h) (Or.inl ⟨by rfl, ?_⟩) hH ?_
    · intro w9 hw9
      obtain ⟨v0, v1, v2, v3, v4, v5, v6, v7, v8, vg⟩ := hw9
      go_simp
    simp only [List.getElem_toArray, List.getElem_cons_succ, List.getElem_cons_zero, Act.put, List.setIfInBounds_toArray, List.set_cons_zero, List.set_cons_succ]
    refine wpAnyH_take (i := 3) (v := .pointer (some ⟨g, o + n * 4, none⟩)) rfl (by kernel_rfl) (by kernel_rfl) (by kernel_rfl) (fun _ _ _ h => h) (Or.inl ⟨by rfl, ?_⟩) hH ?_
    · intro w9 hw9
      obtain ⟨v0, v1, v2, v3, v4, v5, v6, v7, v8, vg⟩ := hw9
      go_simp
    simp only [List.getElem_toArray, List.getElem_cons_succ, List.getElem_cons_zero, Act.put, List.setIfInBounds_toArray, List.set_cons_zero, List.set_cons_succ]
    refine wpAnyH_take (i := 4) (v := .agg #[.int .i64 o1, .int .i64 d1, .int .i64 a1, .int .i64 b1]) rfl (by kernel_rfl) (by kernel_rfl) (by kernel_rfl) (fun _ _ _ h => h) (Or.inl ⟨by rfl, ?_⟩) hH ?_
    · intro w9 hw9
      obtain ⟨v0, v1, v2, v3, v4, v5, v6, v7, v8, vg⟩ := hw9
      go_simp
    simp only [List.getElem_toArray, List.getElem_cons_succ, List.getElem_cons_zero, Act.put, List.setIfInBounds_toArray, List.set_cons_zero, List.set_cons_succ]
    refine wpAnyH_take (i := 6) (v := .pointer (some ⟨w.heap.size, 1, none⟩)) rfl (by kernel_rfl) (by kernel_rfl) (by kernel_rfl) (fun _ _ _ h => h) (Or.inl ⟨by rfl, ?_⟩) hH ?_
    · intro w9 hw9
      obtain ⟨v0, v1, v2, v3, v4, v5, v6, v7, v8, vg⟩ := hw9
      go_simp
    simp only [List.getElem_toArray, List.getElem_cons_succ, List.getElem_cons_zero, Act.put, List.setIfInBounds_toArray, List.set_cons_zero, List.set_cons_succ]
    refine wpAnyH_take (i := 7) (v := .agg #[.int .i64 op, .int .i64 d, .int .i64 a, .int .i64 b]) rfl (by kernel_rfl) (by kernel_rfl) (by kernel_rfl) (fun _ _ _ h => h) (Or.inl ⟨by rfl, ?_⟩) hH ?_
    · intro w9 hw9
      obtain ⟨v0, v1, v2, v3, v4, v5, v6, v7, v8, vg⟩ := hw9
      go_simp
    simp only [List.getElem_toArray, List.getElem_cons_succ, List.getElem_cons_zero, Act.put, List.setIfInBounds_toArray, List.set_cons_zero, List.set_cons_succ]
    refine wpAnyH_ready (rs := [5]) (by kernel_rfl) (by simp) ?_
    refine AllReadyH.cons rfl (fun K hK => ?_) AllReadyH.nil
    go_simp
    refine templates_any o1 d1 a1 b1 _ HOK.out _ ?_
    intro w8 v8 hg8 hv8
    have HV8 := Lib.hid hv8
    obtain ⟨a8, c8, rfl, _⟩ := hv8
    go_wp2_with fail
    refine hK.out _ _ (keep9 hg8 hH) (fun hH2 => ?_)
    clear hK K hH
    have hH := hH2
    clear hH2
    refine wpAnyH_ready (rs := [8]) (by kernel_rfl) (by simp) ?_
    refine AllReadyH.cons rfl (fun K hK => ?_) AllReadyH.nil
    go_simp
    refine contains_any _ op d a b _ _ HV8.out _ ?_
    intro w7 hg7
    rw [HC.out]
    go_wp2_with fail
    refine hK.out _ _ (keep9 hg7 hH) (fun hH2 => ?_)
    clear hK K hH
    have hH := hH2
    clear hH2
    refine wpAnyH_take (i := 9) (v := .bool (!c)) rfl (by kernel_rfl) (by kernel_rfl) (by kernel_rfl) (fun _ _ _ h => h) (Or.inl ⟨by rfl, ?_⟩) hH ?_
    · intro w9 hw9
      obtain ⟨v0, v1, v2, v3, v4, v5, v6, v7, v8, vg⟩ := hw9
      go_simp
    simp only [List.getElem_toArray, List.getElem_cons_succ, List.getElem_cons_zero, Act.put, List.setIfInBounds_toArray, List.set_cons_zero, List.set_cons_succ]
    refine wpAnyH_done (by kernel_rfl) ?_ _
    obtain ⟨f0, f1, f2, f3, f4, _, _, _, _, hgw⟩ := hH
    have hz7 : w.heap.size < w7.heap.size := Nat.lt_of_lt_of_le hz hgw.sz
    have HG7 := Lib.hid (HG1.out.trans hgw)
    clear hgw hg7 hg8 e0 e1 e2 e3 e4 y0 y1 y2 y3 hz
    cases c with
    | false =>
      rw [if_neg (by decide)] at hk
      subst hk
      rw [ifOK_err (by decide)] at HR
      go_wp2_with fail
      exact HR.out w7 _ HG7.out (SlcAt.nil _ _ _)
    | true =>
      rw [if_pos rfl] at hk
      subst hk
      rw [ifOK_ok, ← hbk rfl] at HR
      go_wp2_with fail
      refine kills_any p ts n op d a b _ _ _ (HP.out.grow HG7.out) (HT.out.grow HG7.out) _ ?_
      intro w6 v6 hg6 hv6
      have HF := Lib.hid (HR.out w6 v6 (HG7.out.trans hg6) hv6)
      clear hg6 hv6
      go_wp2_with fail
      exact HF.out
end Go.Proofs.YtbccbokjecdaaaaGreat
