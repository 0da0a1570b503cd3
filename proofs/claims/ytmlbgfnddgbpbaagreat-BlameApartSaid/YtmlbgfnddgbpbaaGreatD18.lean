/-
The walks of package blame: lists, Blocker, Least, CheckBlocker, first, Smallest and First.
The walks of package blame: CheckBlocker, first, Smallest and First.
-/
import Derived.Test.YtmlbgfnddgbpbaaGreatD15
import Derived.Test.YtmlbgfnddgbpbaaGreatD17
import Derived.Test.YtmlbgfnddgbpbaaGreatD14
import Derived.Test.YtmlbgfnddgbpbaaGreatD02
namespace Go.Proofs.YtmlbgfnddgbpbaaGreat
open Go.RowKit
open Mk Bm

theorem lists_take {F : List Nat} {k x : Nat} (h : F[k]? = some x) : (F.take (k + 1)).map lst = (F.take k).map lst ++ [lst x] := by rw [List.take_add_one, h, List.map_append]; rfl
set_option maxRecDepth 100000 in
set_option maxHeartbeats 4000000 in
theorem lists_any (F : List Nat) (hF : ∀ x ∈ F, x < 256) (hnd : F.Nodup) (hlen : F.length ≤ 1000) (v : Value) (w : World) (hv : IntsAt w v (nI F)) (R : Ending → World → Prop) (hR : ∀ w' v, Grow w w' → FamNew w.heap.size w' v (Ls.ord F) → R (.returned v) w') :
    Calls Tryz.prog 61 #[v] w R := by
  have HV := Lib.hid hv
  have HFL := Lib.hid hF
  have HND := Lib.hid (Ls.map_nodup hnd hF)
  have HR := Lib.hid hR
  obtain ⟨a, c, rfl, h1, h2, _⟩ := hv
  rw [nI_len] at h1 ⊢
  clear hR hF hnd
  go_enter Tryz.func61, Tryz.ntmps61
  go_wp2_with fail
  go_loopw [3, 5, 8] (fun out _ i wr => ∃ (k : Nat) (L : List (Lo Int)), k ≤ F.length ∧ i = .int .i64 k ∧ Grow w wr ∧ LoOwn w.heap.size 29 1 encI wr out L ∧ FreeL w.heap.size wr L ∧ L.map Lo.x = (F.take k).map lst) (fun _ _ i _ => F.length - (intOf i).toNat)
  case atStart => exact ⟨0, [], Nat.zero_le _, rfl, Grow.refl _, LoOwn.nil _ _ _ _ _, FreeL.nil _ _, rfl⟩
  case round =>
    obtain ⟨k, L, hk, rfl, hg, how, hfr, hmp⟩ := hrel
    have HG := Lib.hid hg
    have HO := Lib.hid how
    have HFR := Lib.hid hfr
    have HMP := Lib.hid hmp
    have hzj := hg.sz
    have hLk : L.length = k := by have := congrArg List.length hmp; rw [List.length_map, List.length_map, List.length_take] at this; omega
    have HLE := Lib.hid (show L.length < 100000000000 by omega)
    have HLK := Lib.hid hLk
    clear hg how hfr hmp hLk
    by_cases hlt : k < F.length
    · obtain ⟨x, hx⟩ : ∃ x, F[k]? = some x := ⟨_, List.getElem?_eq_getElem hlt⟩
      have hv := HV.out.grow HG.out
      obtain ⟨b, o, rfl, hb, e0⟩ := ints_at hv (nI_at hx)
      have hlt2 : (k : Int) < (F.length : Int) := by omega
      have hx256 := HFL.out x (List.mem_of_getElem? hx)
      have HTK := Lib.hid (lists_take hx)
      clear hx hv
      go_wp2_with fail
      refine members_any x hx256 _ _ ?_
      intro w3 v3 hg3 hv3
      have hx3 := hv3.slc encI_len
      obtain ⟨a3, c3, hve, q1, q2, jk⟩ := hx3
      subst hve
      have HX3 := Lib.hid (show IntsAt w3 (.slice a3 (lst x).length c3) (lst x) from ⟨a3, c3, rfl, q1, q2, jk⟩)
      have HOF := Lib.hid (HO.out.new hv3)
      have HFO := Lib.hid (free_of_own hv3)
      have HO3 := Lib.hid (HO.out.grow hg3)
      have HFR3 := Lib.hid (HFR.out.grow hg3)
      have HG3 := Lib.hid (HG.out.trans hg3)
      have hz3 := hg3.sz
      clear jk hv3 hg3
      go_wp2_with (at_builtin; refine wpList_appAt _ rfl (.tmp 12) (.tmp 15) 22 rfl w.heap.size 29 Tryz.underlying22 info_sli rfl (by decide) (by decide) encLo encLo_len encLo_one _ L rfl (((Grow.refl w3).alloc _).owns HO3.out.row) _ (⟨a3, (lst x).length, c3, lst x⟩ : Lo Int) 1 rfl (newsG _ _ (by simp) (encLo (⟨a3, (lst x).length, c3, lst x⟩ : Lo Int)) _) HLE.out (by simp; omega) ?_; intro out2 w5 hown5 hgr5 hat5)
      have hgA := (Grow.refl w3).alloc (.cells #[.slice a3 (lst x).length c3] 29)
      have HG5 := Lib.hid (show Grow w w5 from grown_below HO3.out.row hgr5 (Nat.le_refl _) (by simp; omega) (HG3.out.alloc _))
      have hoff : ∀ b o s, a3 = some ⟨b, o, s⟩ → u3.ownBlock ≠ some b ∧ b < (w3.alloc (.cells #[.slice a3 (lst x).length c3] 29)).heap.size := fun b o s h => ⟨(HOF.out b o s h).1, by have := (HOF.out b o s h).2; simp; omega⟩
      have HO5 := Lib.hid ((HO3.out.grow hgA).app (t := ⟨a3, (lst x).length, c3, lst x⟩) hgr5 hown5 hat5 (HX3.out.grow hgA) hoff)
      have hfa : FreeL w.heap.size (w3.alloc (.cells #[.slice a3 (lst x).length c3] 29)) (L ++ [⟨a3, (lst x).length, c3, lst x⟩]) := (HFR3.out.grow hgA).app fun b o s h => by
        obtain ⟨k1, k2, k3⟩ := HFO.out b o s h
        exact ⟨by omega, by simp; omega, fun i => (hgA.cellsB.2 b i k2).trans (k3 i)⟩
      have HFR5 := Lib.hid (hfa.kept hgr5 fun t ht b o s h => by
        rcases List.mem_append.1 ht with ht | ht
        · exact (HO3.out.off t ht b o s h).1
        · simp at ht; subst ht; exact (HOF.out b o s h).1)
      clear hown5 hgr5 hat5 hoff hfa hgA
      go_roundw
      case rel => exact ⟨k + 1, L ++ [⟨a3, (lst x).length, c3, lst x⟩], by omega, by go_num, HG5.out, HO5.out, HFR5.out, by rw [List.map_append, HMP.out, HTK.out]; rfl⟩
      case measure => simp [intOf]; omega
    · have hkn : k = F.length := by omega
      have hmp := HMP.out
      rw [hkn, List.take_length] at hmp
      have HMP2 := Lib.hid hmp
      obtain ⟨oa, oc, hoe, _⟩ := HO.out.at_
      subst hoe
      clear hkn hmp
      go_wp2_with fail
      refine sortLs_any L _ _ _ _ HO.out HFR.out (by rw [HMP2.out]; exact HND.out) (by have := HLK.out; omega) _ ?_
      intro w6 hb6 hf6
      rw [HMP2.out] at hf6
      have hg6 : Grow w w6 := Below.trans HG.out hb6
      have HF := Lib.hid (HR.out w6 _ hg6 hf6)
      clear hb6 hf6 hg6
      go_wp2_with fail
      exact HF.out
theorem blkI_ord {F L : List Nat} (h : BlkI F L) : Ls.ord L = Ls.ord (blk F) ∧ (∀ x ∈ L, x < 256) ∧ L.length ≤ 256 := by
  have hl : ∀ x ∈ L, x < 256 := fun x hx => (mem_blk.1 ((h.2 x).1 hx)).1
  exact ⟨Ls.ord_ext h.1 (blk_nodup F) h.2 hl, hl, nodup_below 256 L h.1 hl⟩
set_option maxHeartbeats 2000000 in
theorem bkAll_any (f : List (List Int)) (hval : valF f = 0) (v : Value) (w : World) (hf : IntsAt w v (nI (f.map mask))) (R : Ending → World → Prop) (hR : ∀ w' v L, Grow w w' → BlkI (f.map mask) L → OwnI w.heap.size w' v (nI L) → R (.returned v) w') :
    Calls Tryz.prog 62 #[v] w R := blocker_any (f.map mask) (masks_lt hval) v w hf R hR
set_option maxHeartbeats 4000000 in
theorem Blocker_any (f : List (List Int)) (v : Value) (w : World) (hf : FamAt w v f) (R : Ending → World → Prop) (hR : ∀ w' v, Grow w w' → FamNew w.heap.size w' v (bkO f) → R (.returned (.tuple #[v, .int .i64 (valF f)])) w') :
    Calls Tryz.prog 19 #[v] w R := by
  have HFM := Lib.hid hf
  unfold bkO at hR
  have HR := Lib.hid hR
  obtain ⟨e, he⟩ : ∃ e, valF f = e := ⟨_, rfl⟩
  rw [he] at HR
  have HE := Lib.hid he
  obtain ⟨a, c, rfl, h1, h2⟩ := hf.out
  clear hR hf
  by_cases h0 : e = 0
  · subst h0
    have HML := Lib.hid (masks_lt he)
    obtain ⟨hl70, hall⟩ := valF_ok.1 he
    have HALL := Lib.hid hall
    clear he hall
    go_enter Tryz.func19, Tryz.ntmps19
    go_wp2_with fail
    refine bValidate_any f _ _ HFM.out _ ?_
    intro w1 hg1
    rw [HE.out]
    have HG1 := Lib.hid hg1
    clear hg1
    go_wp2_with fail
    refine all_any f _ _ (HFM.out.grow HG1.out) HALL.out hl70 _ ?_
    intro w3 v3 hg3 hv3
    have hv4 := hv3.slc encI_len
    rw [mskI_eq] at hv4
    have HV4 := Lib.hid hv4
    have HG3 := Lib.hid (HG1.out.trans hg3)
    obtain ⟨a3, c3, rfl, _⟩ := hv4
    clear hg3 hv3
    go_wp2_with fail
    refine blocker_any (f.map mask) HML.out _ _ HV4.out _ ?_
    intro w4 v4 L hg4 hL hv4
    obtain ⟨ho, hl, hln⟩ := blkI_ord hL
    have HOR := Lib.hid ho
    have HLL := Lib.hid hl
    have HLN := Lib.hid hL.1
    have hx4 := hv4.slc encI_len
    have HX4 := Lib.hid hx4
    have HG4 := Lib.hid (HG3.out.trans hg4)
    obtain ⟨a4, c4, rfl, _⟩ := hx4
    clear hg4 hL hv4 ho hl
    go_wp2_with fail
    refine lists_any L HLL.out HLN.out (by omega) _ _ HX4.out _ ?_
    rw [HOR.out]
    intro w5 v5 hg5 hv5
    have hG5 := HG4.out.trans hg5
    have hz5 := HG4.out.sz
    have HF := Lib.hid (HR.out w5 v5 hG5 (by rw [ifOK_ok]; exact hv5.mono hz5))
    clear hg5 hv5 hG5 hz5
    go_wp2_with fail
    exact HF.out
  · have t1 : (e != 0) = true := by simpa using h0
    have HF := Lib.hid (fun w' h => HR.out w' (.slice none 0 0) h (by rw [ifOK_err h0]; exact FamNew.nil _ _))
    clear h0 he
    go_enter Tryz.func19, Tryz.ntmps19
    go_wp2_with fail
    refine bValidate_any f _ _ HFM.out _ ?_
    intro w1 hg1
    rw [HE.out]
    have HF2 := Lib.hid (HF.out w1 hg1)
    clear hg1
    go_wp2_with fail
    exact HF2.out

set_option maxHeartbeats 4000000 in
theorem Least_any (f : List (List Int)) (v : Value) (w : World) (hf : FamAt w v f) (R : Ending → World → Prop) (hR : ∀ w' v, Grow w w' → FamNew w.heap.size w' v (leO f) → R (.returned (.tuple #[v, .int .i64 (valF f)])) w') :
    Calls Tryz.prog 22 #[v] w R := by
  have HFM := Lib.hid hf
  unfold leO at hR
  have HR := Lib.hid hR
  obtain ⟨e, he⟩ : ∃ e, valF f = e := ⟨_, rfl⟩
  rw [he] at HR
  have HE := Lib.hid he
  obtain ⟨a, c, rfl, h1, h2⟩ := hf.out
  clear hR hf
  by_cases h0 : e = 0
  · subst h0
    have HML := Lib.hid (masks_lt he)
    obtain ⟨hl70, hall⟩ := valF_ok.1 he
    have HALL := Lib.hid hall
    clear he hall
    go_enter Tryz.func22, Tryz.ntmps22
    go_wp2_with fail
    refine bValidate_any f _ _ HFM.out _ ?_
    intro w1 hg1
    rw [HE.out]
    have HG1 := Lib.hid hg1
    clear hg1
    go_wp2_with fail
    refine all_any f _ _ (HFM.out.grow HG1.out) HALL.out hl70 _ ?_
    intro w3 v3 hg3 hv3
    have hv4 := hv3.slc encI_len
    rw [mskI_eq] at hv4
    have HV4 := Lib.hid hv4
    have HG3 := Lib.hid (HG1.out.trans hg3)
    obtain ⟨a3, c3, rfl, _⟩ := hv4
    clear hg3 hv3
    go_wp2_with fail
    refine least_any (f.map mask) HML.out (by rw [List.length_map]; omega) _ _ HV4.out _ ?_
    intro w4 v4 hg4 hv4
    have hx4 := hv4.slc encI_len
    have HX4 := Lib.hid hx4
    have HG4 := Lib.hid (HG3.out.trans hg4)
    obtain ⟨a4, c4, rfl, _⟩ := hx4
    clear hg4 hv4
    go_wp2_with fail
    refine lists_any (lsP (f.map mask)) (fun x hx => HML.out x (mem_lsP.1 hx).1) (lsP_nodup _) (by have := lsP_len (f.map mask); rw [List.length_map] at this; omega) _ _ HX4.out _ ?_
    intro w5 v5 hg5 hv5
    have hG5 := HG4.out.trans hg5
    have hz5 := HG4.out.sz
    have HF := Lib.hid (HR.out w5 v5 hG5 (by rw [ifOK_ok]; exact hv5.mono hz5))
    clear hg5 hv5 hG5 hz5
    go_wp2_with fail
    exact HF.out
  · have t1 : (e != 0) = true := by simpa using h0
    have HF := Lib.hid (fun w' h => HR.out w' (.slice none 0 0) h (by rw [ifOK_err h0]; exact FamNew.nil _ _))
    clear h0 he
    go_enter Tryz.func22, Tryz.ntmps22
    go_wp2_with fail
    refine bValidate_any f _ _ HFM.out _ ?_
    intro w1 hg1
    rw [HE.out]
    have HF2 := Lib.hid (HF.out w1 hg1)
    clear hg1
    go_wp2_with fail
    exact HF2.out

end Go.Proofs.YtmlbgfnddgbpbaaGreat

namespace Go.Proofs.YtmlbgfnddgbpbaaGreat
open Go.RowKit
open Mk Bm

set_option maxHeartbeats 4000000 in
theorem equalI_any (xs ys : List Int) (v u : Value) (w : World) (hx : IntsAt w v xs) (hy : IntsAt w u ys) (R : Ending → World → Prop) (hR : ∀ w', Grow w w' → R (.returned (.bool (decide (xs = ys)))) w') :
    Calls Tryz.prog 101 #[v, u] w R := by
  have HX := Lib.hid hx
  have HY := Lib.hid hy
  have HR := Lib.hid hR
  obtain ⟨a, c, rfl, h1, h2, _⟩ := hx
  obtain ⟨a', c', rfl, h1', h2', _⟩ := hy
  clear hR
  by_cases hl : xs.length = ys.length
  · have t2 : ((xs.length : Int) != ys.length) = false := by rw [hl]; simp
    have HL := Lib.hid hl
    rw [← hl] at h1' t2 ⊢
    clear hl
    go_enter Tryz.func101, Tryz.ntmps101
    go_wp2_with fail
    go_loopw [5, 13] (fun _ i wr => ∃ k : Nat, k ≤ xs.length ∧ i = .int .i64 k ∧ xs.take k = ys.take k ∧ Grow w wr) (fun _ i _ => xs.length - (intOf i).toNat)
    case atStart => exact ⟨0, Nat.zero_le _, rfl, rfl, Grow.refl _⟩
    case round =>
      obtain ⟨k, hk, rfl, hs, hg⟩ := hrel
      have HG := Lib.hid hg
      have HS := Lib.hid hs
      clear hg hs
      by_cases hlt : k < xs.length
      · obtain ⟨x, hx⟩ : ∃ l, xs[k]? = some l := ⟨_, List.getElem?_eq_getElem hlt⟩
        obtain ⟨y, hy⟩ : ∃ l, ys[k]? = some l := ⟨_, List.getElem?_eq_getElem (by have := HL.out; omega)⟩
        obtain ⟨b, o, rfl, hb, e0⟩ := ints_at (HX.out.grow HG.out) hx
        have hyy := HY.out.grow HG.out
        obtain ⟨b', o', rfl, hb', e1⟩ := ints_at hyy hy
        have hk2 : (k : Int) < (xs.length : Int) := by omega
        have hk3 : (0 : Int) ≤ (k : Int) := by omega
        have HXX := Lib.hid hx
        have HYY := Lib.hid hy
        clear hx hy hyy
        by_cases hxy : x = y
        · subst hxy
          have t3 : (x != x) = false := by simp
          go_wp2_with (go_quiet (fail))
          go_roundw
          case rel => exact ⟨k + 1, by omega, by go_num, take_succ_eq HS.out HXX.out HYY.out, HG.out.drewN _⟩
          case measure => simp [intOf]; omega
        · have t2 : (x != y) = true := by simpa using hxy
          have hne : decide (xs = ys) = false := by
            simp only [decide_eq_false_iff_not]; intro e; have h := HXX.out; rw [e, HYY.out] at h; exact hxy (Option.some.inj h).symm
          have HF := Lib.hid (fun n => show R (.returned (.bool false)) (wr.drewN n) from by have := HR.out _ (HG.out.drewN n); rw [hne] at this; exact this)
          clear hne
          go_wp2_with (go_quiet (fail))
          exact HF.out _
      · have ht := sameInts_loop k HL.out HS.out (by omega)
        have HF := Lib.hid (show R (.returned (.bool true)) wr from by have := HR.out _ HG.out; rw [ht] at this; exact this)
        clear ht
        go_wp2_with fail
        exact HF.out
  · have hne : decide (xs = ys) = false := by
      simp only [decide_eq_false_iff_not]; intro e; exact hl (by rw [e])
    have hl2 : (xs.length : Int) ≠ ys.length := by omega
    have t2 : ((xs.length : Int) != ys.length) = true := bne_iff_ne.2 hl2
    have HF := Lib.hid (show R (.returned (.bool false)) w from by have := HR.out _ (Grow.refl w); rw [hne] at this; exact this)
    clear hne hl hl2
    go_enter Tryz.func101, Tryz.ntmps101
    go_wp2_with fail
    exact HF.out

theorem fam_loop {xs ys : List (List Int)} (k : Nat) (hl : xs.length = ys.length) (h : xs.take k = ys.take k) (hk : xs.length ≤ k) : decide (xs = ys) = true := by
  rw [List.take_of_length_le hk, List.take_of_length_le (by omega)] at h
  simp [h]
set_option maxHeartbeats 4000000 in
theorem equalF_any (xs ys : List (List Int)) (v u : Value) (w : World) (hx : FamAt w v xs) (hy : FamAt w u ys) (R : Ending → World → Prop) (hR : ∀ w', Grow w w' → R (.returned (.bool (decide (xs = ys)))) w') :
    Calls Tryz.prog 100 #[v, u, .func (.func 101) #[] #[]] w R := by
  have HX := Lib.hid hx
  have HY := Lib.hid hy
  have HR := Lib.hid hR
  obtain ⟨a, c, rfl, h1, h2⟩ := hx.out
  obtain ⟨a', c', rfl, h1', h2'⟩ := hy.out
  have eg : ∀ args w, (callFunc 101 args).run Tryz.prog w = .ok (.enter 101 args) w := enters_of Tryz.func101 (by kernel_rfl) rfl
  clear hR hx hy
  by_cases hl : xs.length = ys.length
  · have t2 : ((xs.length : Int) != ys.length) = false := by rw [hl]; simp
    have HL := Lib.hid hl
    rw [← hl] at h1' t2 ⊢
    clear hl
    go_enter Tryz.func100, Tryz.ntmps100
    go_wp2_with fail
    go_loopw [7, 8, 9, 17] (fun _ _ _ i wr => ∃ k : Nat, k ≤ xs.length ∧ i = .int .i64 k ∧ xs.take k = ys.take k ∧ Grow w wr) (fun _ _ _ i _ => xs.length - (intOf i).toNat)
    case atStart => exact ⟨0, Nat.zero_le _, rfl, rfl, Grow.refl _⟩
    case round =>
      obtain ⟨k, hk, rfl, hs, hg⟩ := hrel
      have HG := Lib.hid hg
      have HS := Lib.hid hs
      clear hg hs
      by_cases hlt : k < xs.length
      · obtain ⟨x, hx⟩ : ∃ l, xs[k]? = some l := ⟨_, List.getElem?_eq_getElem hlt⟩
        obtain ⟨y, hy⟩ : ∃ l, ys[k]? = some l := ⟨_, List.getElem?_eq_getElem (by have := HL.out; omega)⟩
        obtain ⟨b, o, ta, tc, rfl, hb, e0, hi⟩ := fam_at (HX.out.grow HG.out) hx
        have hyy := HY.out.grow HG.out
        obtain ⟨b', o', ta', tc', rfl, hb', e1, hi'⟩ := fam_at hyy hy
        have hk2 : (k : Int) < (xs.length : Int) := by omega
        have HXX := Lib.hid hx
        have HYY := Lib.hid hy
        have HI := Lib.hid hi
        have HI' := Lib.hid hi'
        clear hx hy hyy hi hi'
        go_wp2_with fail
        refine equalI_any x y _ _ _ HI.out HI'.out _ ?_
        intro w1 hg1
        have HG1 := Lib.hid (HG.out.trans hg1)
        clear hg1
        by_cases hxy : x = y
        · subst hxy
          rw [show decide (x = x) = true from decide_eq_true rfl]
          go_wp2_with fail
          go_roundw
          case rel => exact ⟨k + 1, by omega, by go_num, take_succ_eq HS.out HXX.out HYY.out, HG1.out⟩
          case measure => simp [intOf]; omega
        · rw [show decide (x = y) = false from decide_eq_false hxy]
          have hne : decide (xs = ys) = false := by
            simp only [decide_eq_false_iff_not]; intro e; have h := HXX.out; rw [e, HYY.out] at h; exact hxy (Option.some.inj h).symm
          have HF := Lib.hid (show R (.returned (.bool false)) w1 from by have := HR.out _ HG1.out; rw [hne] at this; exact this)
          clear hne
          go_wp2_with fail
          exact HF.out
      · have ht := fam_loop k HL.out HS.out (by omega)
        have HF := Lib.hid (show R (.returned (.bool true)) wr from by have := HR.out _ HG.out; rw [ht] at this; exact this)
        clear ht
        go_wp2_with fail
        exact HF.out
  · have hne : decide (xs = ys) = false := by
      simp only [decide_eq_false_iff_not]; intro e; exact hl (by rw [e])
    have hl2 : (xs.length : Int) ≠ ys.length := by omega
    have t2 : ((xs.length : Int) != ys.length) = true := bne_iff_ne.2 hl2
    have HF := Lib.hid (show R (.returned (.bool false)) w from by have := HR.out _ (Grow.refl w); rw [hne] at this; exact this)
    clear hne hl hl2
    go_enter Tryz.func100, Tryz.ntmps100
    go_wp2_with fail
    exact HF.out

set_option maxHeartbeats 4000000 in
theorem CheckBlocker_any (f g : List (List Int)) (v u : Value) (w : World) (hf : FamAt w v f) (hg : FamAt w u g) (R : Ending → World → Prop) (hR : ∀ w', Grow w w' → R (.returned (.int .i64 (cbE f g))) w') :
    Calls Tryz.prog 46 #[v, u] w R := by
  have HFM := Lib.hid hf
  have HGM := Lib.hid hg
  unfold cbE at hR
  have HR := Lib.hid hR
  obtain ⟨e, he⟩ : ∃ e, valF f = e := ⟨_, rfl⟩
  obtain ⟨e', he'⟩ : ∃ e, valF g = e := ⟨_, rfl⟩
  rw [he, he'] at HR
  have HE := Lib.hid he
  have HE' := Lib.hid he'
  obtain ⟨a, c, rfl, h1, h2⟩ := hf.out
  obtain ⟨a', c', rfl, h1', h2'⟩ := hg.out
  clear hR hf hg he'
  by_cases h0 : e = 0
  · subst h0
    rw [if_pos rfl] at HR
    have HML := Lib.hid (masks_lt he)
    obtain ⟨hl70, hall⟩ := valF_ok.1 he
    have HALL := Lib.hid hall
    clear he hall
    by_cases h0' : e' = 0
    · subst h0'
      rw [if_pos rfl] at HR
      go_enter Tryz.func46, Tryz.ntmps46
      go_wp2_with fail
      refine bValidate_any f _ _ HFM.out _ ?_
      intro w0 hg0
      rw [HE.out]
      have HG0 := Lib.hid hg0
      clear hg0
      go_wp2_with fail
      refine bValidate_any g _ _ (HGM.out.grow HG0.out) _ ?_
      intro w1 hg1
      rw [HE'.out]
      have HG1 := Lib.hid (HG0.out.trans hg1)
      clear hg1
      go_wp2_with fail
      refine all_any f _ _ (HFM.out.grow HG1.out) HALL.out hl70 _ ?_
      intro w3 v3 hg3 hv3
      have hv4 := hv3.slc encI_len
      rw [mskI_eq] at hv4
      have HV4 := Lib.hid hv4
      have HG3 := Lib.hid (HG1.out.trans hg3)
      obtain ⟨a3, c3, rfl, _⟩ := hv4
      clear hg3 hv3
      go_wp2_with fail
      refine blocker_any (f.map mask) HML.out _ _ HV4.out _ ?_
      intro w4 v4 L hg4 hL hv4
      obtain ⟨ho, hl, hln⟩ := blkI_ord hL
      have HOR := Lib.hid ho
      have HLL := Lib.hid hl
      have HLN := Lib.hid hL.1
      have hx4 := hv4.slc encI_len
      have HX4 := Lib.hid hx4
      have HG4 := Lib.hid (HG3.out.trans hg4)
      obtain ⟨a4, c4, rfl, _⟩ := hx4
      clear hg4 hL hv4 ho hl
      go_wp2_with fail
      refine lists_any L HLL.out HLN.out (by omega) _ _ HX4.out _ ?_
      rw [HOR.out]
      intro w5 v5 hg5 hv5
      have HG5 := Lib.hid (HG4.out.trans hg5)
      have hf5 : FamAt w5 v5 (bkM f) := hv5.fam
      have HF5 := Lib.hid hf5
      obtain ⟨a5, c5, rfl, q51, q52⟩ := hf5.out
      clear hg5 hv5 hf5
      go_wp2_with fail
      refine equalF_any (bkM f) g _ _ _ HF5.out (HGM.out.grow HG5.out) _ ?_
      intro w6 hg6
      have HF := Lib.hid (HR.out w6 (HG5.out.trans hg6))
      clear hg6
      generalize decide (bkM f = g) = q at HF ⊢
      cases q <;> (go_wp2_with fail; exact HF.out)
    · rw [if_neg h0'] at HR
      have t1 : (e' != 0) = true := by simpa using h0'
      clear h0'
      go_enter Tryz.func46, Tryz.ntmps46
      go_wp2_with fail
      refine bValidate_any f _ _ HFM.out _ ?_
      intro w0 hg0
      rw [HE.out]
      have HG0 := Lib.hid hg0
      clear hg0
      go_wp2_with fail
      refine bValidate_any g _ _ (HGM.out.grow HG0.out) _ ?_
      intro w1 hg1
      rw [HE'.out]
      have HF := Lib.hid (HR.out w1 (HG0.out.trans hg1))
      clear hg1
      go_wp2_with fail
      exact HF.out
  · rw [if_neg h0] at HR
    have t1 : (e != 0) = true := by simpa using h0
    clear h0 he
    go_enter Tryz.func46, Tryz.ntmps46
    go_wp2_with fail
    refine bValidate_any f _ _ HFM.out _ ?_
    intro w1 hg1
    rw [HE.out]
    have HF := Lib.hid (HR.out w1 hg1)
    clear hg1
    go_wp2_with fail
    exact HF.out

/-! ### The first one of the smallest -/
theorem first1_any (xs ys : List Int) (v u : Value) (w : World) (hx : IntsAt w v xs) (hy : IntsAt w u ys) (R : Ending → World → Prop) (hR : R (.returned (.int .i64 ((xs.length : Int) - (ys.length : Int)))) w) :
    Calls Tryz.prog 147 #[v, u] w R := by
  obtain ⟨a, c, rfl, h1, h2, _⟩ := hx
  obtain ⟨a', c', rfl, h1', h2', _⟩ := hy
  have b1 : (xs.length : Int) ≤ 9223372036854775807 := by omega
  have b2 : (ys.length : Int) ≤ 9223372036854775807 := by omega
  have HR := Lib.hid hR
  clear hR
  go_enter Tryz.func147, Tryz.ntmps147
  go_wp2_with fail
  exact HR.out
set_option maxHeartbeats 4000000 in
theorem minFuncF_any (f : List (List Int)) (v : Value) (w : World) (hf : FamAt w v f) (h0 : 0 < f.length) (R : Ending → World → Prop)
    (hR : ∀ w' v, Grow w w' → IntsAt w' v (mnF f) → R (.returned v) w') :
    Calls Tryz.prog 146 #[v, .func (.func 147) #[] #[]] w R := by
  have HFM := Lib.hid hf
  have HR := Lib.hid hR
  obtain ⟨a, c, rfl, h1, h2⟩ := hf.out
  have hm : f.length ≤ 9223372036854775807 := by omega
  obtain ⟨x, hx⟩ : ∃ t, f[0]? = some t := ⟨_, List.getElem?_eq_getElem h0⟩
  obtain ⟨b, o, ta, tc, rfl, hb, e0, hi⟩ := fam_at HFM.out hx
  simp only [Nat.add_zero] at e0
  have HX := Lib.hid hx
  have HI := Lib.hid hi
  have hl1 : ¬ (f.length : Int) < 1 := by omega
  have hl2 : (0 : Int) < (f.length : Int) := by omega
  have eg : ∀ args w, (callFunc 147 args).run Tryz.prog w = .ok (.enter 147 args) w := enters_of Tryz.func147 (by kernel_rfl) rfl
  clear hR hx hi hf
  go_enter Tryz.func146, Tryz.ntmps146
  go_wp2_with fail
  go_loopw [5, 6] (fun m i wr => ∃ (k : Nat) (t : Lo Int), 1 ≤ k ∧ k ≤ f.length ∧ i = .int .i64 k ∧ m = .slice t.a t.n t.c ∧ IntsAt wr t.v t.x ∧ t.x = mnF (f.take k) ∧ Grow w wr) (fun _ i _ => f.length - (intOf i).toNat)
  case atStart => exact ⟨1, ⟨ta, x.length, tc, x⟩, by omega, by omega, rfl, rfl, HI.out, (mn_one HX.out).symm, Grow.refl _⟩
  case round =>
    obtain ⟨k, ⟨ma, mn, mc, mx⟩, hk1, hk, rfl, rfl, hj, hfm, hg⟩ := hrel
    have hmn := (slc_n hj).1
    dsimp only at hmn hj hfm
    subst hmn
    have HJ := Lib.hid hj
    have HMN := Lib.hid hfm
    have HG := Lib.hid hg
    clear hj hfm hg e0
    by_cases hlt : k < f.length
    · obtain ⟨y, hy⟩ : ∃ t, f[k]? = some t := ⟨_, List.getElem?_eq_getElem hlt⟩
      obtain ⟨_, _, ua, uc, e, hb2, e1, hiu⟩ := fam_at (HFM.out.grow HG.out) hy
      cases e
      have hk2 : (k : Int) < (f.length : Int) := by omega
      have HST := Lib.hid (mn_step hk1 hy)
      have HIU := Lib.hid hiu
      clear hy hiu
      go_wp2_with fail
      refine first1_any y mx _ _ _ HIU.out HJ.out _ ?_
      by_cases hq : y.length < mx.length
      · have HS2 := Lib.hid (show y = mnF (f.take (k + 1)) by rw [HST.out, ← HMN.out, if_pos hq])
        have t1 : (y.length : Int) - (mx.length : Int) < 0 := by omega
        go_wp2_with fail
        go_roundw
        case rel => exact ⟨k + 1, ⟨ua, y.length, uc, y⟩, by omega, by omega, by go_num, rfl, HIU.out, HS2.out, HG.out⟩
        case measure => simp [intOf]; omega
      · have HS2 := Lib.hid (show mx = mnF (f.take (k + 1)) by rw [HST.out, ← HMN.out, if_neg hq])
        have t1 : ¬ (y.length : Int) - (mx.length : Int) < 0 := by omega
        go_wp2_with fail
        go_roundw
        case rel => exact ⟨k + 1, ⟨ma, mx.length, mc, mx⟩, by omega, by omega, by go_num, rfl, HJ.out, HS2.out, HG.out⟩
        case measure => simp [intOf]; omega
    · have hkn : k = f.length := by omega
      have hfm := HMN.out
      rw [hkn, List.take_length] at hfm
      have HF := Lib.hid (HR.out wr _ HG.out (show IntsAt wr (.slice ma mx.length mc) (mnF f) from by rw [← hfm]; exact HJ.out))
      clear hfm hkn
      go_wp2_with fail
      exact HF.out
set_option maxHeartbeats 4000000 in
theorem first_any (f : List (List Int)) (v : Value) (w : World) (hf : FamAt w v f) (hval : valF f = 0) (R : Ending → World → Prop) (hR : ∀ w' v, Grow w w' → IntsAt w' v (mnF (bkM f)) → R (.returned (.tuple #[v, .bool (decide (0 < (bkM f).length))])) w') :
    Calls Tryz.prog 104 #[v] w R := by
  have HFM := Lib.hid hf
  have HR := Lib.hid hR
  have HML := Lib.hid (masks_lt hval)
  obtain ⟨hl70, hall⟩ := valF_ok.1 hval
  have HALL := Lib.hid hall
  have HG1 := Lib.hid (Grow.refl w)
  clear hval hall hR hf
  obtain ⟨a, c, rfl, h1, h2⟩ := HFM.out.out
  go_enter Tryz.func104, Tryz.ntmps104
  go_wp2_with fail
  refine all_any f _ _ (HFM.out.grow HG1.out) HALL.out hl70 _ ?_
  intro w3 v3 hg3 hv3
  have hv4 := hv3.slc encI_len
  rw [mskI_eq] at hv4
  have HV4 := Lib.hid hv4
  have HG3 := Lib.hid (HG1.out.trans hg3)
  obtain ⟨a3, c3, rfl, _⟩ := hv4
  clear hg3 hv3
  go_wp2_with fail
  refine blocker_any (f.map mask) HML.out _ _ HV4.out _ ?_
  intro w4 v4 L hg4 hL hv4
  obtain ⟨ho, hl, hln⟩ := blkI_ord hL
  have HOR := Lib.hid ho
  have HLL := Lib.hid hl
  have HLN := Lib.hid hL.1
  have hx4 := hv4.slc encI_len
  have HX4 := Lib.hid hx4
  have HG4 := Lib.hid (HG3.out.trans hg4)
  obtain ⟨a4, c4, rfl, _⟩ := hx4
  clear hg4 hL hv4 ho hl
  go_wp2_with fail
  refine lists_any L HLL.out HLN.out (by omega) _ _ HX4.out _ ?_
  rw [HOR.out]
  intro w5 v5 hg5 hv5
  have HG5 := Lib.hid (HG4.out.trans hg5)
  have hf5 : FamAt w5 v5 (bkM f) := hv5.fam
  have HF5 := Lib.hid hf5
  obtain ⟨a5, c5, rfl, q51, q52⟩ := hf5.out
  clear hg5 hv5 hf5
  by_cases hb : (bkM f).length = 0
  · have hnil : bkM f = [] := List.eq_nil_of_length_eq_zero hb
    have HF := Lib.hid (show R (.returned (.tuple #[.slice none 0 0, .bool false])) w5 from by
      have := HR.out w5 (.slice none 0 0) HG5.out (by rw [hnil]; exact SlcAt.nil _ _ _)
      rw [hb] at this; exact this)
    rw [hb]
    clear hnil hb
    go_wp2_with fail
    exact HF.out
  · have hb2 : 0 < (bkM f).length := by omega
    have t1 : (((bkM f).length : Int) == 0) = false := beq_eq_false_iff_ne.2 (by omega)
    have t2 : ¬ ((bkM f).length : Int) = 0 := by omega
    have hR2 := HR.out
    rw [decide_eq_true hb2] at hR2
    have HR2 := Lib.hid hR2
    clear hR2 hb
    go_wp2_with fail
    refine minFuncF_any (bkM f) _ _ HF5.out hb2 _ ?_
    intro w6 v6 hg6 hv6
    have HF := Lib.hid (HR2.out w6 v6 (HG5.out.trans hg6) hv6)
    clear hg6 hv6
    go_wp2_with fail
    exact HF.out
set_option maxHeartbeats 4000000 in
theorem First_any (f : List (List Int)) (v : Value) (w : World) (hf : FamAt w v f) (R : Ending → World → Prop) (hR : ∀ w' v, Grow w w' → IntsAt w' v (fsO f) → R (.returned (.tuple #[v, .bool (fsB f), .int .i64 (valF f)])) w') :
    Calls Tryz.prog 52 #[v] w R := by
  have HFM := Lib.hid hf
  unfold fsO fsB at hR
  have HR := Lib.hid hR
  obtain ⟨e, he⟩ : ∃ e, valF f = e := ⟨_, rfl⟩
  rw [he] at HR
  have HE := Lib.hid he
  obtain ⟨a, c, rfl, h1, h2⟩ := hf.out
  clear hR hf he
  by_cases h0 : e = 0
  · subst h0
    go_enter Tryz.func52, Tryz.ntmps52
    go_wp2_with fail
    refine bValidate_any f _ _ HFM.out _ ?_
    intro w1 hg1
    rw [HE.out]
    have HG1 := Lib.hid hg1
    clear hg1
    go_wp2_with fail
    refine first_any f _ _ (HFM.out.grow HG1.out) HE.out _ ?_
    intro w3 v3 hg3 hv3
    have HF := Lib.hid (show R (.returned (.tuple #[v3, .bool (decide (0 < (bkM f).length)), .int .i64 0])) w3 from HR.out w3 v3 (HG1.out.trans hg3) hv3)
    clear hv3
    clear hg3
    go_wp2_with fail
    exact bodyPost_ret (by simp [results, Tryz.results52, go_sem]) rfl HF.out
  · have t1 : (e != 0) = true := by simpa using h0
    have hd : decide (e = 0) = false := decide_eq_false h0
    have HF := Lib.hid (fun w' h => show R (.returned (.tuple #[.slice none 0 0, .bool false, .int .i64 e])) w' from by have := HR.out w' (.slice none 0 0) h (by rw [ifOK_err h0]; exact SlcAt.nil _ _ _); rw [hd] at this; exact this)
    clear h0 hd
    go_enter Tryz.func52, Tryz.ntmps52
    go_wp2_with fail
    refine bValidate_any f _ _ HFM.out _ ?_
    intro w1 hg1
    rw [HE.out]
    have HF2 := Lib.hid (HF.out w1 hg1)
    clear hg1
    go_wp2_with fail
    exact bodyPost_ret (by simp [results, Tryz.results52, go_sem]) rfl HF2.out

set_option maxHeartbeats 4000000 in
theorem Smallest_any (f : List (List Int)) (v : Value) (w : World) (hf : FamAt w v f) (R : Ending → World → Prop) (hR : ∀ w', Grow w w' → R (.returned (.tuple #[.int .i64 ((fsO f).length : Int), .bool (fsB f), .int .i64 (valF f)])) w') :
    Calls Tryz.prog 50 #[v] w R := by
  have HFM := Lib.hid hf
  unfold fsO fsB at hR
  have HR := Lib.hid hR
  obtain ⟨e, he⟩ : ∃ e, valF f = e := ⟨_, rfl⟩
  rw [he] at HR
  have HE := Lib.hid he
  obtain ⟨a, c, rfl, h1, h2⟩ := hf.out
  clear hR hf he
  by_cases h0 : e = 0
  · subst h0
    go_enter Tryz.func50, Tryz.ntmps50
    go_wp2_with fail
    refine bValidate_any f _ _ HFM.out _ ?_
    intro w1 hg1
    rw [HE.out]
    have HG1 := Lib.hid hg1
    clear hg1
    go_wp2_with fail
    refine first_any f _ _ (HFM.out.grow HG1.out) HE.out _ ?_
    intro w3 v3 hg3 hv3
    have HF := Lib.hid (show R (.returned (.tuple #[.int .i64 ((mnF (bkM f)).length : Int), .bool (decide (0 < (bkM f).length)), .int .i64 0])) w3 from HR.out w3 (HG1.out.trans hg3))
    obtain ⟨a3, c3, rfl, _⟩ := hv3
    clear hg3
    go_wp2_with fail
    exact bodyPost_ret (by simp [results, Tryz.results50, go_sem]) rfl HF.out
  · have t1 : (e != 0) = true := by simpa using h0
    have hd : decide (e = 0) = false := decide_eq_false h0
    have HF := Lib.hid (fun w' h => show R (.returned (.tuple #[.int .i64 0, .bool false, .int .i64 e])) w' from by have := HR.out w' h; rw [hd, ifOK_err h0] at this; exact this)
    clear h0 hd
    go_enter Tryz.func50, Tryz.ntmps50
    go_wp2_with fail
    refine bValidate_any f _ _ HFM.out _ ?_
    intro w1 hg1
    rw [HE.out]
    have HF2 := Lib.hid (HF.out w1 hg1)
    clear hg1
    go_wp2_with fail
    exact bodyPost_ret (by simp [results, Tryz.results50, go_sem]) rfl HF2.out

end Go.Proofs.YtmlbgfnddgbpbaaGreat
