/- The walks of package blame: Without. -/
import Derived.Test.YtmlbgfnddgbpbaaGreatD06
import Derived.Test.YtmlbgfnddgbpbaaGreatD13
import Derived.Test.YtmlbgfnddgbpbaaGreatD02
import Derived.Test.YtmlbgfnddgbpbaaGreatD25
namespace Go.Proofs.YtmlbgfnddgbpbaaGreat
open Go.RowKit
open Mk Bm

theorem without1_any (x n : Int) (b : Nat) (w : World) (hb : w.heap[b]? = some (.cells #[.int .i64 n] 3 (0, 0))) (R : Ending → World → Prop) (hR : R (.returned (.bool (decide (x = n)))) w) :
    Calls Tryz.prog 98 #[.int .i64 x, .pointer (some ⟨b, 0, none⟩)] w R := by
  have e0 := box1 hb
  have hz := lt_of_block hb
  by_cases h : x = n
  · rw [decide_eq_true h] at hR
    have t1 : (x == n) = true := by simpa using h
    have HR := Lib.hid hR
    clear hR hb h
    go_enter Tryz.func98, Tryz.ntmps98
    go_wp2_with fail
    exact HR.out
  · rw [decide_eq_false h] at hR
    have t1 : (x == n) = false := by simpa using h
    have HR := Lib.hid hR
    clear hR hb h
    go_enter Tryz.func98, Tryz.ntmps98
    go_wp2_with fail
    exact HR.out
theorem deleteNil_any (f : Nat) (cb : Array Value) (eg : Enters Tryz.prog f) (pr : Int → Bool) (Inv : World → Prop) (hI : ∀ W W', Inv W → Grow W W' → Inv W') (hp : PredW f cb pr Inv) (w : World) (hi : Inv w) (R : Ending → World → Prop)
    (hR : ∀ w', Grow w w' → R (.returned (.slice none 0 0)) w') :
    Calls Tryz.prog 97 #[.slice none 0 0, .func (.func f) #[] cb] w R := by
  have HR := Lib.hid hR
  have HI := Lib.hid hI
  have HP := Lib.hid hp
  have HI0 := Lib.hid hi
  have EG := Lib.hid eg
  unfold Enters at eg
  clear hR hI hp hi
  go_enter Tryz.func97, Tryz.ntmps97
  go_wp2_with fail
  refine indexFI_any f cb EG.out pr Inv HI.out HP.out [] _ _ (SlcAt.nil _ _ _) HI0.out _ ?_ ?_
  · intro w1 k x _ hx
    simp at hx
  · intro w1 hg1 _
    have HF := Lib.hid (HR.out w1 hg1)
    clear hg1
    go_wp2_with fail
    exact HF.out
theorem keep_without (n : Int) (l : List Int) : keepI (fun x => decide (x = n)) l = without n l := rfl
theorem without_len (n : Int) (l : List Int) : (without n l).length ≤ l.length := List.length_filter_le _ _
set_option maxRecDepth 100000 in
set_option maxHeartbeats 16000000 in
theorem Without_any (f : List (List Int)) (n : Int) (v : Value) (w : World) (hf : FamAt w v f) (R : Ending → World → Prop) (hR : ∀ w' v, Grow w w' → FamAt w' v (wlO f n) → R (.returned (.tuple #[v, .int .i64 (wlE f n)])) w') :
    Calls Tryz.prog 38 #[v, .int .i64 n] w R := by
  have HFM := Lib.hid hf
  unfold wlO wlE at hR
  have HR := Lib.hid hR
  obtain ⟨e, he⟩ : ∃ e, valF f = e := ⟨_, rfl⟩
  rw [he] at HR
  have HE := Lib.hid he
  obtain ⟨a, c, rfl, h1, h2⟩ := hf.out
  have heg : Enters Tryz.prog 98 := enters_of Tryz.func98 (by kernel_rfl) rfl
  have HEG := Lib.hid heg
  clear hR hf heg
  by_cases h0 : e = 0
  rotate_left
  · rw [if_neg h0] at HR
    have t1 : (e != 0) = true := by simpa using h0
    have HF := Lib.hid (fun w' h => HR.out w' (.slice none 0 0) h (by rw [ifOK_err h0]; exact FamAt.nil _))
    clear h0 he
    go_enter Tryz.func38, Tryz.ntmps38
    go_wp2_with fail
    have hg := (Grow.refl w).alloc (.cells #[.int .i64 n] 3)
    have hb := heap_alloc_new w (.cells #[.int .i64 n] 3)
    generalize w.alloc (.cells #[.int .i64 n] 3) = W at hg hb ⊢
    obtain ⟨bn, hbn⟩ : ∃ b, w.heap.size = b := ⟨_, rfl⟩
    rw [hbn] at hb ⊢
    have HG := Lib.hid hg
    have HB := Lib.hid hb
    clear hg hb hbn
    refine bValidate_any f _ _ (HFM.out.grow HG.out) _ ?_
    intro w1 hg1
    rw [HE.out]
    have HF2 := Lib.hid (HF.out w1 (HG.out.trans hg1))
    clear hg1
    go_wp2_with fail
    exact HF2.out
  subst h0
  rw [if_pos rfl] at HR
  obtain ⟨hl70, hall⟩ := valF_ok.1 he
  have HALL := Lib.hid hall
  clear he hall
  obtain ⟨q, hq⟩ : ∃ q, inB n 0 7 = q := ⟨_, rfl⟩
  rw [hq] at HR
  have HIN := Lib.hid hq
  clear hq
  cases q with
  | false =>
    rw [if_neg (by decide)] at HR
    have HF := Lib.hid (fun w' h => HR.out w' (.slice none 0 0) h (by rw [ifOK_err (by decide)]; exact FamAt.nil _))
    go_enter Tryz.func38, Tryz.ntmps38
    go_wp2_with fail
    have hg := (Grow.refl w).alloc (.cells #[.int .i64 n] 3)
    have hb := heap_alloc_new w (.cells #[.int .i64 n] 3)
    generalize w.alloc (.cells #[.int .i64 n] 3) = W at hg hb ⊢
    obtain ⟨bn, hbn⟩ : ∃ b, w.heap.size = b := ⟨_, rfl⟩
    rw [hbn] at hb ⊢
    have HG := Lib.hid hg
    have HB := Lib.hid hb
    clear hg hb hbn
    refine bValidate_any f _ _ (HFM.out.grow HG.out) _ ?_
    intro w1 hg1
    rw [HE.out]
    have HG1 := Lib.hid (HG.out.trans hg1)
    have HB1 := Lib.hid (hg1.blk HB.out)
    have d0 := box1 HB1.out
    have dz := lt_of_block HB1.out
    clear hg1
    go_wp2_with fail
    refine bwithin_any _ _ _ _ _ ?_
    rw [HIN.out]
    clear d0
    have HF2 := Lib.hid (HF.out w1 HG1.out)
    go_wp2_with fail
    exact HF2.out
  | true =>
    rw [if_pos rfl] at HR
    go_enter Tryz.func38, Tryz.ntmps38
    go_wp2_with fail
    have hg := (Grow.refl w).alloc (.cells #[.int .i64 n] 3)
    have hb := heap_alloc_new w (.cells #[.int .i64 n] 3)
    generalize w.alloc (.cells #[.int .i64 n] 3) = W at hg hb ⊢
    obtain ⟨bn, hbn⟩ : ∃ b, w.heap.size = b := ⟨_, rfl⟩
    rw [hbn] at hb ⊢
    have HG := Lib.hid hg
    have HB := Lib.hid hb
    clear hg hb hbn
    refine bValidate_any f _ _ (HFM.out.grow HG.out) _ ?_
    intro w1 hg1
    rw [HE.out]
    have HG1 := Lib.hid (HG.out.trans hg1)
    have HB1 := Lib.hid (hg1.blk HB.out)
    have d0 := box1 HB1.out
    have dz := lt_of_block HB1.out
    clear hg1
    go_wp2_with fail
    refine bwithin_any _ _ _ _ _ ?_
    rw [HIN.out]
    clear d0
    go_wp2_with fail
    go_loopw [7, 9, 20] (fun out _ i wr => ∃ (k : Nat) (L : List (Lo Int)), k ≤ f.length ∧ i = .int .i64 k ∧ Grow w1 wr ∧ LoOwn w1.heap.size 29 1 encI wr out L ∧ L.map Lo.x = (f.take k).map (without n)) (fun _ _ i _ => f.length - (intOf i).toNat)
    case atStart => exact ⟨0, [], Nat.zero_le _, rfl, Grow.refl _, LoOwn.nil _ _ _ _ _, rfl⟩
    case round =>
      obtain ⟨k, L, hk, rfl, hg, how, hmp⟩ := hrel
      have HGR := Lib.hid hg
      have HO := Lib.hid how
      have HMP := Lib.hid hmp
      have hzj := hg.sz
      have HLE := Lib.hid (show L.length < 100000000000 by have := congrArg List.length hmp; rw [List.length_map, List.length_map, List.length_take] at this; omega)
      have HBW := Lib.hid (hg.blk HB1.out)
      clear hg how hmp
      by_cases hlt : k < f.length
      · obtain ⟨l, hl⟩ : ∃ x, f[k]? = some x := ⟨_, List.getElem?_eq_getElem hlt⟩
        obtain ⟨b, o, ta, tc, rfl, hb, e0, hi⟩ := fam_at (HFM.out.grow (HG1.out.trans HGR.out)) hl
        have hlt2 : (k : Int) < (f.length : Int) := by omega
        have HI := Lib.hid hi
        have HTK := Lib.hid (without_take (n := n) hl)
        have hs := (setB_iff.1 (HALL.out l (List.mem_of_getElem? hl))).1
        have hl8 : l.length < 10000000000 := by
          have h := (set_mask (HALL.out l (List.mem_of_getElem? hl))).2
          rw [← h]; have h9 : (lst (mask l)).length ≤ 8 := mem_len 8 _; omega
        clear hl hi hs
        go_wp2_with fail
        refine cloneR_any l _ _ HI.out hl8 _ ?_
        intro w5 v5 hg5 hown5
        have HBX := Lib.hid (hg5.blk HBW.out)
        have hz5 := hg5.sz
        have hbw := lt_of_block HBW.out
        have hprd : PredW 98 (#[] ++ #[.pointer (some ⟨bn, 0, none⟩)]) (fun x => decide (x = n)) (fun X => X.heap[bn]? = some (.cells #[.int .i64 n] 3 (0, 0))) := fun x X hX R hR => without1_any x n bn X hX R (hR X (Grow.refl _))
        rw [show (#[] ++ #[Value.pointer (some ⟨bn, 0, none⟩)] : Array Value) = #[.pointer (some ⟨bn, 0, none⟩)] from rfl] at hprd
        have HPR := Lib.hid hprd
        have hz1 := HGR.out.sz
        clear hprd e0
        rcases hown5.2 with ⟨hv, hl0⟩ | ⟨g, cap, cur, hv, hge, hh, hn, hm, hcs, htake⟩
        · subst hv
          have hle : l = [] := List.eq_nil_of_length_eq_zero hl0
          subst hle
          have HG5 := Lib.hid hg5
          clear hown5 hg5 hl0
          go_wp2_with fail
          refine deleteNil_any 98 _ HEG.out _ _ (fun X X' h g => g.blk h) HPR.out w5 HBX.out _ ?_
          intro w6 hg6
          have HG6 := Lib.hid (HG5.out.trans hg6)
          have HX6 := Lib.hid (show IntsAt w6 (.slice none 0 0) (without n []) from SlcAt.nil _ _ _)
          have HOF := Lib.hid (show ∀ b o s, (none : Option Addr) = some ⟨b, o, s⟩ → u7.ownBlock ≠ some b ∧ b < w6.heap.size from fun b o s h => by cases h)
          clear hg6
          have HO6 := Lib.hid (HO.out.grow HG6.out)
          have hz6 := HG6.out.sz
          have HGL := Lib.hid (HGR.out.trans HG6.out)
          go_wp2_with (at_builtin; refine Classical.byContradiction (fun hcon => ?_))
          refine hcon ?_
          clear hcon
          refine wpList_appAt _ rfl (.tmp 24) (.tmp 29) 22 rfl w1.heap.size 29 Tryz.underlying22 info_sli rfl (by decide) (by decide) encLo encLo_len encLo_one _ L rfl (((Grow.refl w6).alloc _).owns HO6.out.row) _ (⟨none, 0, 0, without n []⟩ : Lo Int) 1 rfl (newsG w6 _ rfl (encLo (⟨none, 0, 0, without n []⟩ : Lo Int)) 29) HLE.out (by simp; omega) ?_
          intro out2 w8 hown8 hgr8 hat8
          have hgA := (Grow.refl w6).alloc (.cells #[.slice none 0 0] 29)
          have HG8 := Lib.hid (show Grow w1 w8 from grown_below HO6.out.row hgr8 (Nat.le_refl _) (by simp; omega) (HGL.out.alloc _))
          have HO8 := Lib.hid ((HO6.out.grow hgA).app (t := (⟨none, 0, 0, without n []⟩ : Lo Int)) hgr8 hown8 hat8 (HX6.out.grow hgA) (fun b o s h => ⟨(HOF.out b o s h).1, by have := (HOF.out b o s h).2; simp; omega⟩))
          clear hown8 hgr8 hat8 hgA
          go_wp2_with fail
          go_roundw
          case rel => exact ⟨k + 1, L ++ [(⟨none, 0, 0, without n []⟩ : Lo Int)], by omega, by go_num, HG8.out, HO8.out, by rw [List.map_append, HMP.out, HTK.out]; rfl⟩
          case measure => simp [intOf]; omega
        · subst hv
          have hrow := RowI.of_own hown5
          have hgl := lt_of_block hh
          have HG5 := Lib.hid hg5
          have hm2 : cap ≤ 9223372036854775807 := by simpa [maxLen] using hm
          clear hown5 hg5 hcs htake hh hm
          go_wp2_with fail
          refine deleteFI_any 98 _ HEG.out _ _ (fun X X' h g => g.blk h) HPR.out l g l.length cap wr.heap.size (fun X i u h => (Below.heap_setCell _ _ _ _ (by simp; omega)).trans h) w5 rfl hn hm2 hrow hgl hge HBX.out _ ?_
          intro w6 hb6 hg6 hr6
          rw [keep_without] at hr6 ⊢
          have HG6 := Lib.hid (show Grow wr w6 from Below.trans HG5.out hb6)
          obtain ⟨m, hm⟩ : ∃ m, (without n l).length = m := ⟨_, rfl⟩
          have hwl := without_len n l
          have hx6 := hr6.ints hg6 (show (without n l).length ≤ cap by omega) hm2
          rw [hm] at hx6 ⊢
          have HX6 := Lib.hid hx6
          have HOF := Lib.hid (show ∀ b o s, some (⟨g, 0, none⟩ : Addr) = some ⟨b, o, s⟩ → u7.ownBlock ≠ some b ∧ b < w6.heap.size from fun b o s h => by
            cases h
            exact ⟨fun he => by have := HO.out.lt he; omega, hg6⟩)
          clear hb6 hr6 hx6 hrow hm hwl
          have HO6 := Lib.hid (HO.out.grow HG6.out)
          have hz6 := HG6.out.sz
          have HGL := Lib.hid (HGR.out.trans HG6.out)
          go_wp2_with (at_builtin; refine Classical.byContradiction (fun hcon => ?_))
          refine hcon ?_
          clear hcon
          refine wpList_appAt _ rfl (.tmp 24) (.tmp 29) 22 rfl w1.heap.size 29 Tryz.underlying22 info_sli rfl (by decide) (by decide) encLo encLo_len encLo_one _ L rfl (((Grow.refl w6).alloc _).owns HO6.out.row) _ (⟨some ⟨g, 0, none⟩, m, cap, without n l⟩ : Lo Int) 1 rfl (newsG w6 _ rfl (encLo (⟨some ⟨g, 0, none⟩, m, cap, without n l⟩ : Lo Int)) 29) HLE.out (by simp; omega) ?_
          intro out2 w8 hown8 hgr8 hat8
          have hgA := (Grow.refl w6).alloc (.cells #[.slice (some ⟨g, 0, none⟩) m cap] 29)
          have HG8 := Lib.hid (show Grow w1 w8 from grown_below HO6.out.row hgr8 (Nat.le_refl _) (by simp; omega) (HGL.out.alloc _))
          have HO8 := Lib.hid ((HO6.out.grow hgA).app (t := (⟨some ⟨g, 0, none⟩, m, cap, without n l⟩ : Lo Int)) hgr8 hown8 hat8 (HX6.out.grow hgA) (fun b o s h => ⟨(HOF.out b o s h).1, by have := (HOF.out b o s h).2; simp; omega⟩))
          clear hown8 hgr8 hat8 hgA
          go_wp2_with fail
          go_roundw
          case rel => exact ⟨k + 1, L ++ [(⟨some ⟨g, 0, none⟩, m, cap, without n l⟩ : Lo Int)], by omega, by go_num, HG8.out, HO8.out, by rw [List.map_append, HMP.out, HTK.out]; rfl⟩
          case measure => simp [intOf]; omega
      · have hkn : k = f.length := by omega
        have hmp := HMP.out
        rw [hkn, List.take_length] at hmp
        have HF := Lib.hid (HR.out wr _ (HG1.out.trans HGR.out) (by rw [ifOK_ok]; exact ⟨L, HO.out.at_, HO.out.ins, hmp⟩))
        clear hkn hmp
        go_wp2_with fail
        exact HF.out
end Go.Proofs.YtmlbgfnddgbpbaaGreat
