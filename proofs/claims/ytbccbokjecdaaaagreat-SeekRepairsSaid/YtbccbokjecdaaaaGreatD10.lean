/-
Walks that the statements of chapter 05 share: same(), and which lists are too long for a statement.
The walks of Templates of both sides, and of the document's Near.
-/
import Derived.Test.YtbccbokjecdaaaaGreatD08
import Derived.Test.YtbccbokjecdaaaaGreatD00
import Derived.Test.YtbccbokjecdaaaaGreatD09
namespace Go.Proofs.YtbccbokjecdaaaaGreat
open Go.RowKit

theorem sm_is : nearB ⟨1, 0, 3, 0⟩ ⟨1, 2, 3, 0⟩ = true ∧ nearE ⟨1, 0, 3, 0⟩ ⟨1, 2, 3, 0⟩ = 0 := by decide +kernel
theorem sm_not : nearB ⟨1, 0, 3, 0⟩ ⟨1, 0, 5, 0⟩ = false ∧ nearE ⟨1, 0, 3, 0⟩ ⟨1, 0, 5, 0⟩ = 0 := by decide +kernel
set_option maxRecDepth 100000 in
set_option maxHeartbeats 4000000 in
theorem ssame_any (w : World) (R : Ending → World → Prop) (hR : ∀ w', Grow w w' → R (.returned (.bool true)) w') :
    Calls Tryz.prog 15 #[] w R := by
  have HR := Lib.hid hR
  clear hR
  go_enter Tryz.func15, Tryz.ntmps15
  go_wp2_with fail
  refine near_any 1 0 3 0 1 2 3 0 _ _ ?_
  intro w1 hg1
  rw [sm_is.1, sm_is.2]
  have HG1 := Lib.hid hg1
  clear hg1
  go_wp2_with fail
  refine near_any 1 0 3 0 1 0 5 0 _ _ ?_
  intro w2 hg2
  rw [sm_not.1, sm_not.2]
  have HF := Lib.hid (HR.out w2 (HG1.out.trans hg2))
  clear hg2
  go_wp2_with fail
  exact HF.out

theorem long4_any (p : List Ln) (v : Value) (w : World) (hp : LinesAt w v p) (R : Ending → World → Prop) (hR : R (.returned (.bool (decide (100 < p.length)))) w) :
    Calls Tryz.prog 13 #[v, .slice none 0 0] w R := by
  obtain ⟨a, c, rfl, h1, h2, _⟩ := hp
  by_cases h : 100 < p.length
  · rw [decide_eq_true h] at hR
    have t1 : (p.length : Int) > 100 := by omega
    go_enter Tryz.func13, Tryz.ntmps13
    go_wp2
    simpa using hR
  · rw [decide_eq_false h] at hR
    have t1 : ¬ (p.length : Int) > 100 := by omega
    go_enter Tryz.func13, Tryz.ntmps13
    go_wp2
    simpa using hR

def shortB (t : Tst) : Bool := !decide (50 < t.xs.length)
/-- The tests are too long for a statement. -/
def manyB (ts : List Tst) : Bool := !ts.all shortB || decide (50 < ts.length)

set_option maxHeartbeats 4000000 in
theorem many_any (ts : List Tst) (v : Value) (w : World) (hx : TestsAt w v ts) (R : Ending → World → Prop) (hR : ∀ w', Grow w w' → R (.returned (.bool (manyB ts))) w') :
    Calls Tryz.prog 14 #[v] w R := by
  have HX := Lib.hid hx
  have hm : manyB ts = (!ts.all shortB || decide (50 < ts.length)) := rfl
  rw [hm] at hR
  have HR := Lib.hid hR
  obtain ⟨⟨a, c, rfl, h1, h2, _⟩, _⟩ := hx
  clear hR hm
  go_enter Tryz.func14, Tryz.ntmps14
  go_wp2_with fail
  go_loopw [3] (fun i wr => ∃ k : Nat, k ≤ ts.length ∧ i = .int .i64 k ∧ Grow w wr ∧ ∀ y ∈ ts.take k, shortB y = true) (fun i _ => ts.length - (intOf i).toNat)
  case atStart => exact ⟨0, Nat.zero_le _, rfl, Grow.refl _, by simp⟩
  case round =>
    obtain ⟨k, hk, rfl, hg, hall⟩ := hrel
    have HALL := Lib.hid hall
    have HG := Lib.hid hg
    clear hall hg
    by_cases hlt : k < ts.length
    · obtain ⟨⟨v, xs, o', wt⟩, ht⟩ : ∃ x, ts[k]? = some x := ⟨_, List.getElem?_eq_getElem hlt⟩
      obtain ⟨b, o, rfl, hb, e0, _, _⟩ := tests_at (HX.out.at_.grow HG.out) ht
      obtain ⟨sa, sc, hv, _⟩ := HX.out.ins _ (List.mem_of_getElem? ht)
      dsimp only at hv e0
      subst hv
      have HT := Lib.hid ht
      have hlt2 : (k : Int) < (ts.length : Int) := by omega
      clear ht
      by_cases hs : 50 < xs.length
      · have HF0 := HR.out _ HG.out
        rw [rall_false_at (f := shortB) HT.out (by unfold shortB; dsimp only; rw [decide_eq_true hs]; rfl)] at HF0
        have HF := Lib.hid HF0
        have t1 : (xs.length : Int) > 50 := by omega
        clear HF0
        go_wp2_with fail
        exact HF.out
      · have HV := Lib.hid (show shortB ⟨.slice sa xs.length sc, xs, o', wt⟩ = true by unfold shortB; dsimp only; rw [decide_eq_false hs]; rfl)
        have t1 : ¬ (xs.length : Int) > 50 := by omega
        go_wp2_with fail
        go_roundw
        case rel => exact ⟨k + 1, by omega, by go_num, HG.out, rall_take_succ HALL.out HT.out HV.out⟩
        case measure => simp [intOf]; omega
    · have HF0 := HR.out _ HG.out
      rw [rall_of_take HALL.out (by omega), Bool.not_true, Bool.false_or] at HF0
      have HF := Lib.hid HF0
      clear HF0
      have hn : k = ts.length := by omega
      by_cases hs : 50 < ts.length
      · have t1 : (ts.length : Int) > 50 := by omega
        rw [decide_eq_true hs] at HF
        go_wp2_with fail
        exact HF.out
      · have t1 : ¬ (ts.length : Int) > 50 := by omega
        rw [decide_eq_false hs] at HF
        go_wp2_with fail
        exact HF.out

end Go.Proofs.YtbccbokjecdaaaaGreat

namespace Go.Proofs.YtbccbokjecdaaaaGreat
open Go.RowKit

set_option maxHeartbeats 2000000 in
theorem Templates_any (op d a b : Int) (w : World) (R : Ending → World → Prop)
    (hR : ∀ w' v, Grow w w' → LinesAt w' v (if vL op d a b then tmpl ⟨op, d, a, b⟩ else []) → R (.returned (.tuple #[v, .int .i64 (errB (vL op d a b))])) w') :
    Calls Tryz.prog 43 #[.agg #[.int .i64 op, .int .i64 d, .int .i64 a, .int .i64 b]] w R := by
  have HR := Lib.hid hR
  clear hR
  go_enter Tryz.func43, Tryz.ntmps43
  go_wp2_with fail
  have hb := heap_alloc_new w (.cells #[.int .i64 op, .int .i64 d, .int .i64 a, .int .i64 b] 25)
  have hg := (Grow.refl w).alloc (.cells #[.int .i64 op, .int .i64 d, .int .i64 a, .int .i64 b] 25)
  refine validateLine_any op d a b _ _ ?_
  intro w1 hg1
  have HG := Lib.hid (hg.trans hg1)
  have hb1 := hg1.blk hb
  obtain ⟨e0, e1, e2, e3⟩ := box4 hb1
  have hz := lt_of_block hb1
  clear hb hg hg1 hb1
  cases hv : vL op d a b with
  | false =>
    have HF := HR.out w1 (.slice none 0 0) HG.out
    rw [hv, if_neg (by decide)] at HF
    have HF2 := Lib.hid (HF (SlcAt.nil _ _ _))
    rw [errB_false] at HF2 ⊢
    clear HF hv
    go_wp2_with fail
    exact HF2.out
  | true =>
    have HV := Lib.hid hv
    rw [hv, if_pos rfl] at HR
    rw [errB_true] at HR ⊢
    clear hv
    go_wp2_with fail
    refine templates_any op d a b _ HV.out _ ?_
    intro w2 v2 hg2 hv2
    have HF := Lib.hid (HR.out w2 v2 (HG.out.trans hg2) hv2)
    clear hg2 hv2
    go_wp2_with fail
    exact HF.out

set_option maxRecDepth 100000 in
set_option maxHeartbeats 16000000 in
theorem rtemplates_any (op d a b : Int) (w : World) (hok : vL op d a b = true) (R : Ending → World → Prop)
    (hR : ∀ w' v, Grow w w' → LinesAt w' v (tmpl ⟨op, d, a, b⟩) → R (.returned v) w') :
    Calls Tryz.prog 92 #[.agg #[.int .i64 op, .int .i64 d, .int .i64 a, .int .i64 b]] w R := by
  rw [tmpl_filter (show (⟨op, d, a, b⟩ : Ln).ok = true from hok)] at hR
  have HR := Lib.hid hR
  have HOK := Lib.hid hok
  obtain ⟨F, hF⟩ : ∃ F, (fun x => rnearB ⟨op, d, a, b⟩ x) = F := ⟨_, rfl⟩
  rw [hF] at HR
  have HFF := Lib.hid hF
  obtain ⟨N, hN⟩ : ∃ N, allR.length = N := ⟨_, rfl⟩
  have HN := Lib.hid hN
  have hNb : N ≤ 1000 := by rw [← hN]; decide +kernel
  clear hR hok hF hN
  go_enter Tryz.func92, Tryz.ntmps92
  go_wp2_with fail
  have hb := heap_alloc_new w (.cells #[.int .i64 op, .int .i64 d, .int .i64 a, .int .i64 b] 25)
  have hg := (Grow.refl w).alloc (.cells #[.int .i64 op, .int .i64 d, .int .i64 a, .int .i64 b] 25)
  generalize w.alloc (.cells #[.int .i64 op, .int .i64 d, .int .i64 a, .int .i64 b] 25) = W at hb hg ⊢
  refine rAll_any _ _ ?_
  intro w1 x1 hg1 hx1
  have HX1 := Lib.hid hx1
  obtain ⟨aA, cA, rfl, q1, q2, _⟩ := hx1
  have HB := Lib.hid (hg1.blk hb)
  have HG1 := Lib.hid (hg.trans hg1)
  have hz1 := (hg.trans hg1).sz
  rw [HN.out] at q1 ⊢
  clear hg1 hb hg
  go_wp2_with fail
  go_loopw [4, 5] (fun out i wr => ∃ k : Nat, k ≤ N ∧ i = .int .i64 k ∧ Grow w1 wr ∧ wr.ownsRow w1.heap.size 25 4 out ((allR.take k).filter F).length (((allR.take k).filter F).flatMap encL)) (fun _ i _ => N - (intOf i).toNat)
  case atStart => exact ⟨0, Nat.zero_le _, rfl, Grow.refl _, World.ownsRow_nil _ _ _ _⟩
  case round =>
    obtain ⟨k, hk, rfl, hg, how⟩ := hrel
    have HG := Lib.hid hg
    have HOW := Lib.hid how
    have hzw := hg.sz
    clear hg how
    by_cases hlt : k < N
    · obtain ⟨⟨op2, d2, a2, b2⟩, hx⟩ : ∃ x, allR[k]? = some x := ⟨_, List.getElem?_eq_getElem (by rw [HN.out]; exact hlt)⟩
      have hx1' := HX1.out.grow HG.out
      rw [HN.out] at hx1'
      obtain ⟨gA, oA, rfl, hgA, f0, f1, f2, f3⟩ := lines_at hx1' hx
      obtain ⟨e0, e1, e2, e3⟩ := box4 (HG.out.blk HB.out)
      have hzb := lt_of_block (HG.out.blk HB.out)
      have hlt2 : (k : Int) < (N : Int) := by omega
      have HS := Lib.hid (filter_take_succ (F := F) hx)
      have HLB := Lib.hid (show ((allR.take k).filter F).length < 100000000000 by have := filter_take_len F allR k; have := HN.out; omega)
      have HOK2 := Lib.hid (mem_allR.1 (List.mem_of_getElem? hx))
      obtain ⟨c, hc⟩ : ∃ c, rnearB ⟨op, d, a, b⟩ ⟨op2, d2, a2, b2⟩ = c := ⟨_, rfl⟩
      have HF := Lib.hid (show F ⟨op2, d2, a2, b2⟩ = c by rw [← HFF.out]; exact hc)
      have HCB := Lib.hid hc
      clear hx hx1' hc
      go_wp2_with fail
      go_region_held3 (fun X => X.cell? ⟨w.heap.size, 0, none⟩ = some (.int .i64 op) ∧ X.cell? ⟨w.heap.size, 1, none⟩ = some (.int .i64 d) ∧ X.cell? ⟨w.heap.size, 2, none⟩ = some (.int .i64 a) ∧ X.cell? ⟨w.heap.size, 3, none⟩ = some (.int .i64 b) ∧ X.cell? ⟨gA, oA + k * 4, none⟩ = some (.int .i64 op2) ∧ X.cell? ⟨gA, oA + k * 4 + 1, none⟩ = some (.int .i64 d2) ∧ X.cell? ⟨gA, oA + k * 4 + 2, none⟩ = some (.int .i64 a2) ∧ X.cell? ⟨gA, oA + k * 4 + 3, none⟩ = some (.int .i64 b2) ∧ Grow wr X)
        (first | exact ⟨e0, e1, e2, e3, f0, f1, f2, f3, (Grow.refl wr).drew⟩ | exact ⟨e0, e1, e2, e3, f0, f1, f2, f3, Grow.refl wr⟩ | exact keep8 hg8 (by assumption))
        (first | (go_at_call 64; refine rnear_any op d a b op2 d2 a2 b2 _ HOK.out HOK2.out _ ?_; intro w8 hg8; rw [HCB.out]))
      rename_i hS
      obtain ⟨_, _, _, _, y0, y1, y2, y3, hgr⟩ := hS
      have HG8 := Lib.hid hgr
      have hgA8 : gA < w8.heap.size := Nat.lt_of_lt_of_le hgA hgr.sz
      clear hgr hg8 e0 e1 e2 e3 f0 f1 f2 f3
      cases c with
      | false =>
        go_wp2_with fail
        go_roundw
        case rel => exact ⟨k + 1, by omega, by go_num, HG.out.trans HG8.out, by rw [HS.out, HF.out, if_neg (by decide), List.append_nil]; exact HG8.out.owns HOW.out⟩
        case measure => simp [intOf]; omega
      | true =>
        go_wp2_with (at_builtin; refine wpList_app _ rfl (.tmp 19) (.tmp 24) 22 rfl w1.heap.size 25 Tryz.underlying22 info_ln rfl (by decide) (by decide) encL encL_len encL_one _ ((allR.take k).filter F) rfl ((HG8.out.alloc _).owns HOW.out) _ (⟨op2, d2, a2, b2⟩ : Ln) 1 rfl (news_gen _ _ (by simp) (encL ⟨op2, d2, a2, b2⟩) _) HLB.out (by have := HG.out.sz; have := HG8.out.sz; simp; omega) ?_; intro out2 w3 hown2 hgr2)
        have HG3 := Lib.hid (show Grow w1 w3 from grown_below HOW.out hgr2 (Nat.le_refl _) (by have := HG.out.sz; have := HG8.out.sz; simp; omega) (HG.out.trans (HG8.out.alloc _)))
        have HO2 := Lib.hid hown2
        clear hown2 hgr2
        go_roundw
        case rel => exact ⟨k + 1, by omega, by go_num, HG3.out, by rw [HS.out, HF.out, if_pos rfl]; exact HO2.out⟩
        case measure => simp [intOf]; omega
    · have hkn : k = allR.length := by rw [HN.out]; omega
      have HO2 := HOW.out
      rw [hkn, List.take_length] at HO2
      have HF := Lib.hid (HR.out _ _ (HG1.out.trans HG.out) (slc_of_owns encL_len HO2))
      clear HO2 hkn
      go_wp2_with fail
      exact HF.out


set_option maxHeartbeats 2000000 in
theorem rTemplates_any (op d a b : Int) (w : World) (R : Ending → World → Prop)
    (hR : ∀ w' v, Grow w w' → LinesAt w' v (if vL op d a b then tmpl ⟨op, d, a, b⟩ else []) → R (.returned (.tuple #[v, .int .i64 (errB (vL op d a b))])) w') :
    Calls Tryz.prog 44 #[.agg #[.int .i64 op, .int .i64 d, .int .i64 a, .int .i64 b]] w R := by
  have HR := Lib.hid hR
  clear hR
  go_enter Tryz.func44, Tryz.ntmps44
  go_wp2_with fail
  have hb := heap_alloc_new w (.cells #[.int .i64 op, .int .i64 d, .int .i64 a, .int .i64 b] 25)
  have hg := (Grow.refl w).alloc (.cells #[.int .i64 op, .int .i64 d, .int .i64 a, .int .i64 b] 25)
  refine rValidateLine_any op d a b _ _ ?_
  intro w1 hg1
  have HG := Lib.hid (hg.trans hg1)
  have hb1 := hg1.blk hb
  obtain ⟨e0, e1, e2, e3⟩ := box4 hb1
  have hz := lt_of_block hb1
  clear hb hg hg1 hb1
  cases hv : vL op d a b with
  | false =>
    have HF := HR.out w1 (.slice none 0 0) HG.out
    rw [hv, if_neg (by decide)] at HF
    have HF2 := Lib.hid (HF (SlcAt.nil _ _ _))
    rw [errB_false] at HF2 ⊢
    clear HF hv
    go_wp2_with fail
    exact HF2.out
  | true =>
    have HV := Lib.hid hv
    rw [hv, if_pos rfl] at HR
    rw [errB_true] at HR ⊢
    clear hv
    go_wp2_with fail
    refine rtemplates_any op d a b _ HV.out _ ?_
    intro w2 v2 hg2 hv2
    have HF := Lib.hid (HR.out w2 v2 (HG.out.trans hg2) hv2)
    clear hg2 hv2
    go_wp2_with fail
    exact HF.out


theorem nearE_false {l m : Ln} (h : (l.ok && m.ok) = false) : nearE l m = 1 ∧ nearB l m = false := by
  unfold nearE nearB; rw [h]; exact ⟨rfl, rfl⟩
set_option maxHeartbeats 2000000 in
theorem rNear_any (op d a b op' d' a' b' : Int) (w : World) (R : Ending → World → Prop)
    (hR : ∀ w', Grow w w' → R (.returned (.tuple #[.bool (nearB ⟨op, d, a, b⟩ ⟨op', d', a', b'⟩), .int .i64 (nearE ⟨op, d, a, b⟩ ⟨op', d', a', b'⟩)])) w') :
    Calls Tryz.prog 46 #[.agg #[.int .i64 op, .int .i64 d, .int .i64 a, .int .i64 b], .agg #[.int .i64 op', .int .i64 d', .int .i64 a', .int .i64 b']] w R := by
  have HR := Lib.hid hR
  clear hR
  have HB1 := Lib.hid (heap_two0 w (.cells #[.int .i64 op, .int .i64 d, .int .i64 a, .int .i64 b] 25) (.cells #[.int .i64 op', .int .i64 d', .int .i64 a', .int .i64 b'] 25))
  have HB2 := Lib.hid (heap_two1 w (.cells #[.int .i64 op, .int .i64 d, .int .i64 a, .int .i64 b] 25) (.cells #[.int .i64 op', .int .i64 d', .int .i64 a', .int .i64 b'] 25))
  have HG0 := Lib.hid (((Grow.refl w).alloc (.cells #[.int .i64 op, .int .i64 d, .int .i64 a, .int .i64 b] 25)).alloc (.cells #[.int .i64 op', .int .i64 d', .int .i64 a', .int .i64 b'] 25))
  cases h1 : vL op d a b with
  | false =>
    obtain ⟨n1, n2⟩ := nearE_false (l := ⟨op, d, a, b⟩) (m := ⟨op', d', a', b'⟩) (by unfold Ln.ok; dsimp only; rw [h1]; rfl)
    rw [n1, n2] at HR
    have H1 := Lib.hid h1
    clear h1 n1 n2
    go_enter Tryz.func46, Tryz.ntmps46
    go_wp2_with fail
    refine rValidateLine_any op d a b _ _ ?_
    intro w1 hg1
    rw [H1.out, errB_false]
    have HF := Lib.hid (HR.out w1 (HG0.out.trans hg1))
    clear hg1
    go_wp2_with fail
    exact HF.out
  | true =>
    have H1 := Lib.hid h1
    cases h2 : vL op' d' a' b' with
    | false =>
      obtain ⟨n1, n2⟩ := nearE_false (l := ⟨op, d, a, b⟩) (m := ⟨op', d', a', b'⟩) (by unfold Ln.ok; dsimp only; rw [h2, Bool.and_false])
      rw [n1, n2] at HR
      have H2 := Lib.hid h2
      clear h1 h2 n1 n2
      go_enter Tryz.func46, Tryz.ntmps46
      go_wp2_with fail
      refine rValidateLine_any op d a b _ _ ?_
      intro w1 hg1
      rw [H1.out, errB_true]
      obtain ⟨e0, e1, e2, e3⟩ := box4 (hg1.blk HB2.out)
      have hz := lt_of_block (hg1.blk HB2.out)
      have HG1 := Lib.hid (HG0.out.trans hg1)
      clear hg1
      go_wp2_with fail
      refine rValidateLine_any op' d' a' b' _ _ ?_
      intro w2 hg2
      rw [H2.out, errB_false]
      have HF := Lib.hid (HR.out w2 (HG1.out.trans hg2))
      clear hg2
      go_wp2_with fail
      exact HF.out
    | true =>
      have H2 := Lib.hid h2
      have hb : rnearB ⟨op, d, a, b⟩ ⟨op', d', a', b'⟩ = nearB ⟨op, d, a, b⟩ ⟨op', d', a', b'⟩ := rnear_eq (l := ⟨op, d, a, b⟩) (m := ⟨op', d', a', b'⟩) h1 h2
      have he : nearE ⟨op, d, a, b⟩ ⟨op', d', a', b'⟩ = 0 := by unfold nearE Ln.ok; dsimp only; rw [h1, h2]; rfl
      rw [he, ← hb] at HR
      obtain ⟨c, hc⟩ : ∃ c, rnearB ⟨op, d, a, b⟩ ⟨op', d', a', b'⟩ = c := ⟨_, rfl⟩
      rw [hc] at HR
      have HC := Lib.hid hc
      clear h1 h2 hb he hc
      go_enter Tryz.func46, Tryz.ntmps46
      go_wp2_with fail
      refine rValidateLine_any op d a b _ _ ?_
      intro w1 hg1
      rw [H1.out, errB_true]
      have HB12 := Lib.hid (hg1.blk HB1.out)
      have HB22 := Lib.hid (hg1.blk HB2.out)
      obtain ⟨e0, e1, e2, e3⟩ := box4 HB22.out
      have hz := lt_of_block HB22.out
      have HG1 := Lib.hid (HG0.out.trans hg1)
      clear hg1
      go_wp2_with fail
      refine rValidateLine_any op' d' a' b' _ _ ?_
      intro w2 hg2
      rw [H2.out, errB_true]
      clear e0 e1 e2 e3 hz
      obtain ⟨e0, e1, e2, e3⟩ := box4 (hg2.blk HB22.out)
      obtain ⟨f0, f1, f2, f3⟩ := box4 (hg2.blk HB12.out)
      have hz := lt_of_block (hg2.blk HB22.out)
      have hz2 := lt_of_block (hg2.blk HB12.out)
      have HG2 := Lib.hid (HG1.out.trans hg2)
      clear hg2
      go_wp2_with fail
      refine rnear_any op d a b op' d' a' b' _ H1.out H2.out _ ?_
      intro w3 hg3
      rw [HC.out]
      have HF := Lib.hid (HR.out w3 (HG2.out.trans hg3))
      clear hg3
      go_wp2_with fail
      exact HF.out

end Go.Proofs.YtbccbokjecdaaaaGreat
