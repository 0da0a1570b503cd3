/- The walks of the document's answer to layer 1: what a line reads and writes. -/
import Derived.Test.YtmaphlbmmemgcaaRefA
namespace Go.Proofs.Ytmaphlbmmemgcaa
open Go.RowKit

set_option maxRecDepth 100000 in
set_option maxHeartbeats 2000000 in
theorem rreads_any (op d a b : Int) (w : World) (h2 : 2 ≤ op → 0 ≤ a ∧ a ≤ 3) (h3 : 3 ≤ op → 0 ≤ b ∧ b ≤ 3) (R : Ending → World → Prop)
    (hR : ∀ w', Grow w w' → w'.heap[w.heap.size + 1]? = some (.cells (arrM (rdM op a b)) 4 (0, 0)) → R (.returned (.slice (some ⟨w.heap.size + 1, 0, none⟩) 4 4)) w') :
    Calls Try.prog 70 #[.agg #[.int .i64 op, .int .i64 d, .int .i64 a, .int .i64 b]] w R := by
  have HR := Lib.hid hR
  clear hR
  have hmk : ∀ W, (Instr.makeSlice 88 (.int .i64 4) (.int .i64 4)).run Try.prog W = .ok (.slice (some ⟨W.heap.size, 0, none⟩) 4 4) (W.alloc (.cells #[.bool false, .bool false, .bool false, .bool false] 4)) := fun W => by kernel_rfl
  by_cases g2 : 2 ≤ op
  · obtain ⟨a0, a3⟩ := h2 g2
    have a4 : a < 4 := by omega
    by_cases g3 : 3 ≤ op
    · obtain ⟨b0, b3⟩ := h3 g3
      have b4 : b < 4 := by omega
      go_enter Try.func70, Try.ntmps70
      go_wp2_with fail
      refine HR.out _ (((Grow.refl w).alloc _).alloc _) ((heap_two1 w _ _).trans ?_)
      have e2 : rdM op a b = (Ms.set ⟨false, false, false, false⟩ a true).set b true := by unfold rdM; rw [if_pos g3, if_pos g2]
      rw [e2]
      have ha : a = 0 ∨ a = 1 ∨ a = 2 ∨ a = 3 := by omega
      have hb : b = 0 ∨ b = 1 ∨ b = 2 ∨ b = 3 := by omega
      rcases ha with rfl | rfl | rfl | rfl <;> rcases hb with rfl | rfl | rfl | rfl <;> rfl
    · go_enter Try.func70, Try.ntmps70
      go_wp2_with fail
      refine HR.out _ (((Grow.refl w).alloc _).alloc _) ((heap_two1 w _ _).trans ?_)
      have e2 : rdM op a b = Ms.set ⟨false, false, false, false⟩ a true := by unfold rdM; rw [if_neg (by omega), if_pos g2]
      rw [e2]
      have ha : a = 0 ∨ a = 1 ∨ a = 2 ∨ a = 3 := by omega
      rcases ha with rfl | rfl | rfl | rfl <;> rfl
  · have g3 : ¬ 3 ≤ op := by omega
    go_enter Try.func70, Try.ntmps70
    go_wp2_with fail
    refine HR.out _ (((Grow.refl w).alloc _).alloc _) ((heap_two1 w _ _).trans ?_)
    have e2 : rdM op a b = ⟨false, false, false, false⟩ := by unfold rdM; rw [if_neg (by omega), if_neg (by omega)]
    rw [e2]
    rfl

theorem bools_of_block {w : World} {b : Nat} {m : Ms} {e : TypeId} (h : w.heap[b]? = some (.cells (arrM m) e (0, 0))) : BoolsAt w (.slice (some ⟨b, 0, none⟩) 4 4) m.toL := by
  refine ⟨_, 4, rfl, by simp [Ms.toL], by decide, .inr ⟨b, 0, rfl, lt_of_block h, ?_⟩⟩
  intro j x hj i u hu
  have hi : i = 0 := by
    have := (List.getElem?_eq_some_iff.1 hu).1
    simp [encT] at this; exact this
  subst hi
  simp [encT] at hu
  subst hu
  match j, hj with
  | 0, hj => simp [Ms.toL] at hj; subst hj; simp [World.cell?, h, arrM]
  | 1, hj => simp [Ms.toL] at hj; subst hj; simp [World.cell?, h, arrM]
  | 2, hj => simp [Ms.toL] at hj; subst hj; simp [World.cell?, h, arrM]
  | 3, hj => simp [Ms.toL] at hj; subst hj; simp [World.cell?, h, arrM]
  | n + 4, hj => simp [Ms.toL] at hj

set_option maxHeartbeats 2000000 in
theorem rset_any (bs : List Bool) (v : Value) (w : World) (hb : BoolsAt w v bs) (hlen : bs.length < 100000000) (R : Ending → World → Prop) (hR : ∀ w' x, Grow w w' → OwnI w.heap.size w' x (setL bs) → R (.returned x) w') :
    Calls Try.prog 71 #[v] w R := by
  have HR := Lib.hid hR
  clear hR
  obtain ⟨a, c, rfl, h1, h2, h3⟩ := hb
  go_enter Try.func71, Try.ntmps71
  go_wp2_with fail
  go_loopw [3, 4] (fun out i wr => ∃ k : Nat, k ≤ bs.length ∧ i = .int .i64 k ∧ wr.ownsRow w.heap.size 3 1 out (setN bs k).length ((setN bs k).flatMap encI) ∧ Grow w wr) (fun _ i _ => bs.length - (intOf i).toNat)
  case atStart => exact ⟨0, Nat.zero_le _, rfl, World.ownsRow_nil _ _ _ _, Grow.refl _⟩
  case round =>
    obtain ⟨k, hk, rfl, hown, hg⟩ := hrel
    by_cases hlt : k < bs.length
    · replace h3 := h3.resolve_left (by intro h; simp [h.1] at hlt)
      obtain ⟨b, o, rfl, hb, hc⟩ := h3
      obtain ⟨x, hx⟩ : ∃ l, bs[k]? = some l := ⟨_, List.getElem?_eq_getElem hlt⟩
      have e0 := hg.cell (bools_cell hc k x hx)
      have hsz := hg.sz
      have HG := Lib.hid hg
      have HX := Lib.hid hx
      have HO := Lib.hid hown
      have hn1 : (setN bs k).length < 100000000000 := by have := setN_len bs k; omega
      clear hc hx hg hown
      cases x with
      | true =>
        go_wp2_with (at_builtin; refine wpList_app _ rfl (.tmp 15) (.tmp 17) 23 rfl w.heap.size 3 Try.underlying23 info_int rfl (by decide) (by decide) encI encI_len encI_one _ (setN bs k) rfl (HO.out.alloc _) ⟨wr.heap.size, 0, none⟩ (k : Int) 1 rfl (news_one _ (encI k) _) hn1 (by simp; omega) ?_; intro out1 w5 hown1 hgr1)
        have hg5 : Grow w w5 := grown_below HO.out hgr1 (Nat.le_refl _) (by simp; omega) (HG.out.alloc _)
        rw [← setN_true HX.out] at hown1
        go_roundw
        case rel => exact ⟨k + 1, by omega, by go_num, hown1, hg5⟩
        case measure => simp [intOf]; omega
      | false =>
        go_wp2_with fail
        go_roundw
        case rel => exact ⟨k + 1, by omega, by go_num, by rw [setN_false HX.out]; exact HO.out, HG.out⟩
        case measure => simp [intOf]; omega
    · have hke : k = bs.length := by omega
      subst hke
      have HO := Lib.hid hown
      have HG := Lib.hid hg
      clear hown hg
      go_wp2_with fail
      exact HR.out _ _ HG.out ⟨_, HO.out⟩

set_option maxHeartbeats 1000000 in
theorem rReads_any (op d a b : Int) (w : World) (R : Ending → World → Prop)
    (hR : ∀ w' x, Grow w w' → IntsAt w' x (ifOK (errB (vL op d a b)) (rdL op a b)) → R (.returned (.tuple #[x, .int .i64 (errB (vL op d a b))])) w') :
    Calls Try.prog 30 #[.agg #[.int .i64 op, .int .i64 d, .int .i64 a, .int .i64 b]] w R := by
  have HR := Lib.hid hR
  clear hR
  cases hv : vL op d a b with
  | true =>
    have HRR := HR.out
    rw [hv, errB_true, ifOK_ok] at HRR
    have HR2 := Lib.hid HRR
    have HV := Lib.hid hv
    obtain ⟨o2, o3⟩ := ok_args hv
    clear HRR HR hv
    go_enter Try.func30, Try.ntmps30
    go_wp2_with fail
    refine risLine_any op d a b _ _ ?_
    intro w1 hg1
    rw [HV.out]
    have e0 := hg1.cell (a := ⟨w.heap.size, 0, none⟩) (v := .int .i64 op) (by simp)
    have e1 := hg1.cell (a := ⟨w.heap.size, 1, none⟩) (v := .int .i64 d) (by simp)
    have e2 := hg1.cell (a := ⟨w.heap.size, 2, none⟩) (v := .int .i64 a) (by simp)
    have e3 := hg1.cell (a := ⟨w.heap.size, 3, none⟩) (v := .int .i64 b) (by simp)
    have hz : w.heap.size < w1.heap.size := by have := hg1.sz; simp at this; omega
    have HG := Lib.hid hg1
    clear hg1
    go_wp2_with fail
    refine rreads_any op d a b _ o2 o3 _ ?_
    intro w2 hg2 hi
    have hbs := bools_of_block hi
    have HB := Lib.hid hbs
    have HG2 := Lib.hid hg2
    clear hg2 hi hbs
    go_wp2_with fail
    refine rset_any _ _ _ HB.out (by simp [Ms.toL]) _ ?_
    intro w3 x hg3 hown
    have hi := hown.slc encI_len
    rw [set_rdM op a b o2 o3] at hi
    have HF := Lib.hid (HR2.out w3 x (((Grow.refl w).alloc _).trans (HG.out.trans (HG2.out.trans hg3))) hi)
    clear hi hown hg3
    go_wp2_with fail
    exact HF.out
  | false =>
    have HRR := HR.out
    rw [hv, errB_false, ifOK_err (by decide)] at HRR
    have HR2 := Lib.hid HRR
    have HV := Lib.hid hv
    clear HRR HR hv
    go_enter Try.func30, Try.ntmps30
    go_wp2_with fail
    refine risLine_any op d a b _ _ ?_
    intro w1 hg1
    rw [HV.out]
    go_wp2_with fail
    exact HR2.out _ _ (((Grow.refl w).alloc _).trans hg1) (SlcAt.nil _ _ _)

set_option maxHeartbeats 1000000 in
theorem rWrites_any (op d a b : Int) (w : World) (R : Ending → World → Prop)
    (hR : ∀ w', Grow w w' → R (.returned (.tuple #[.int .i64 (wrO op d a b), .bool (wrI op d a b), .int .i64 (errB (vL op d a b))])) w') :
    Calls Try.prog 32 #[.agg #[.int .i64 op, .int .i64 d, .int .i64 a, .int .i64 b]] w R := by
  have HR := Lib.hid hR
  clear hR
  cases hv : vL op d a b with
  | true =>
    have HRR := HR.out
    rw [wrO, wrI, hv, errB_true, if_pos rfl, Bool.true_and] at HRR
    have HV := Lib.hid hv
    have hw := wrB_of_ok hv
    have HR2 := Lib.hid HRR
    clear HRR HR hv
    go_enter Try.func32, Try.ntmps32
    go_wp2_with fail
    refine risLine_any op d a b _ _ ?_
    intro w1 hg1
    rw [HV.out]
    have e0 := hg1.cell (a := ⟨w.heap.size, 0, none⟩) (v := .int .i64 op) (by simp)
    have e1 := hg1.cell (a := ⟨w.heap.size, 1, none⟩) (v := .int .i64 d) (by simp)
    have e2 := hg1.cell (a := ⟨w.heap.size, 2, none⟩) (v := .int .i64 a) (by simp)
    have e3 := hg1.cell (a := ⟨w.heap.size, 3, none⟩) (v := .int .i64 b) (by simp)
    have hz : w.heap.size < w1.heap.size := by have := hg1.sz; simp at this; omega
    have HG := Lib.hid hg1
    clear hg1
    go_wp2_with fail
    refine rwrites_any op d a b _ _ ?_
    intro w2 hg2
    rw [hw]
    have f1 := hg2.cell e1
    have hz2 := hg2.sz
    cases hwb : wrB op with
    | true =>
      have hf := HR2.out w2 (((Grow.refl w).alloc _).trans (HG.out.trans hg2))
      rw [show wrT op d = d by simp [wrT, hwb], hwb] at hf
      have HF := Lib.hid hf
      clear hf hg2 hw
      go_wp2_with fail
      go_ret3
      exact HF.out
    | false =>
      have hf := HR2.out w2 (((Grow.refl w).alloc _).trans (HG.out.trans hg2))
      rw [show wrT op d = 0 by simp [wrT, hwb], hwb] at hf
      have HF := Lib.hid hf
      clear hf hg2 hw
      go_wp2_with fail
      go_ret3
      exact HF.out
  | false =>
    have HRR := HR.out
    rw [wrO, wrI, hv, errB_false, if_neg (by simp), Bool.false_and] at HRR
    have HR2 := Lib.hid HRR
    have HV := Lib.hid hv
    clear HRR HR hv
    go_enter Try.func32, Try.ntmps32
    go_wp2_with fail
    refine risLine_any op d a b _ _ ?_
    intro w1 hg1
    rw [HV.out]
    go_wp2_with fail
    go_ret3
    exact HR2.out _ (((Grow.refl w).alloc _).trans hg1)
end Go.Proofs.Ytmaphlbmmemgcaa
