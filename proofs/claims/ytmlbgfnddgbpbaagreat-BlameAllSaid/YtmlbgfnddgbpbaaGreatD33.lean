/- The walks of the document's answer to layer 3: all sets of lines that are to blame. -/
import Derived.Test.YtmlbgfnddgbpbaaGreatD28
namespace Go.Proofs.YtmlbgfnddgbpbaaGreat
open Go.RowKit
open Mk Bm

def bmC (p : List Ln) (ts : List Tst) (k m : Nat) : Bool := decide ((lst m).length = k) && decide (lnE p (lst m) = 0) && blm p ts (lst m)
def bmN (p : List Ln) (ts : List Tst) (k j : Nat) : List Nat := (List.range j).filter (bmC p ts k)
theorem bmN_all (p : List Ln) (ts : List Tst) (k : Nat) : bmN p ts k 256 = bmdN p ts k := rfl
theorem bmN_succ (p : List Ln) (ts : List Tst) (k j : Nat) : bmN p ts k (j + 1) = bmN p ts k j ++ if bmC p ts k j then [j] else [] := by
  unfold bmN; rw [List.range_succ, List.filter_append]; cases h : bmC p ts k j <;> simp [h]
theorem bmN_len (p : List Ln) (ts : List Tst) (k j : Nat) : (bmN p ts k j).length ≤ j := by unfold bmN; have := List.length_filter_le (bmC p ts k) (List.range j); simpa using this
set_option maxRecDepth 100000 in
set_option maxHeartbeats 16000000 in
theorem r3Blamed_any (p : List Ln) (ts : List Tst) (n : Int) (pv tv : Value) (w : World) (hp : LinesAt w pv p) (ht : TestsAt w tv ts) (R : Ending → World → Prop)
    (hR : ∀ w' v, Grow w w' → FamAt w' v (bdO p ts n) → R (.returned (.tuple #[v, .int .i64 (bdE p ts n)])) w') :
    Calls Tryz.prog 34 #[pv, tv, .int .i64 n] w R := by
  have HP := Lib.hid hp
  have HT := Lib.hid ht
  unfold bdO at hR
  obtain ⟨e, he⟩ : ∃ e, chkT p ts = e := ⟨_, rfl⟩
  have hE : bdE p ts n = if e = 0 then (if inB n 1 2 then 0 else 1) else e := by unfold bdE; rw [he]
  rw [hE] at hR
  have HR := Lib.hid hR
  have HE := Lib.hid he
  obtain ⟨pa, pc, rfl, _⟩ := hp
  obtain ⟨⟨ta, tc, rfl, _⟩, _⟩ := ht
  clear hR he hE
  by_cases h0 : e = 0
  rotate_left
  · rw [if_neg h0] at HR
    have t1 : (e != 0) = true := by simpa using h0
    have HF := Lib.hid (fun w' h => HR.out w' (.slice none 0 0) h (by rw [ifOK_err h0]; exact FamAt.nil _))
    clear h0
    go_enter Tryz.func34, Tryz.ntmps34
    go_wp2_with fail
    refine r3tested_any p ts _ _ _ HP.out HT.out _ ?_
    intro w1 hg1
    rw [HE.out]
    have HF2 := Lib.hid (HF.out w1 hg1)
    clear hg1
    go_wp2_with fail
    exact HF2.out
  subst h0
  rw [if_pos rfl] at HR
  cases hin : inB n 1 2 with
  | false =>
    rw [hin, if_neg (by decide)] at HR
    have HIN := Lib.hid hin
    have HF := Lib.hid (fun w' h => HR.out w' (.slice none 0 0) h (by rw [ifOK_err (by decide)]; exact FamAt.nil _))
    clear hin
    go_enter Tryz.func34, Tryz.ntmps34
    go_wp2_with fail
    refine r3tested_any p ts _ _ _ HP.out HT.out _ ?_
    intro w1 hg1
    rw [HE.out]
    have HF2 := Lib.hid (HF.out w1 hg1)
    clear hg1
    go_wp2_with fail
    refine r3within_any _ _ _ _ _ ?_
    rw [HIN.out]
    go_wp2_with fail
    exact HF2.out
  | true =>
    rw [hin, if_pos rfl] at HR
    obtain ⟨i0, i1⟩ := inB_true.1 hin
    obtain ⟨k, rfl⟩ : ∃ k : Nat, n = k := ⟨n.toNat, by omega⟩
    have hk2 : k ≤ 2 := by omega
    have HIN := Lib.hid hin
    have HVAL := Lib.hid (chkT_ok.1 HE.out).1
    clear hin i0 i1
    go_enter Tryz.func34, Tryz.ntmps34
    go_wp2_with fail
    refine r3tested_any p ts _ _ _ HP.out HT.out _ ?_
    intro w1 hg1
    rw [HE.out]
    have HG1 := Lib.hid hg1
    clear hg1
    go_wp2_with fail
    refine r3within_any _ _ _ _ _ ?_
    rw [HIN.out]
    go_wp2_with fail
    refine picks_any k hk2 _ _ ?_
    intro w3 v3 hg3 hv3
    have HV3 := Lib.hid hv3
    have HG3 := Lib.hid (HG1.out.trans hg3)
    obtain ⟨ma, mc, hmv, _⟩ := hv3.out
    obtain ⟨mn, hmn⟩ : ∃ z, (pk k).length = z := ⟨_, rfl⟩
    rw [hmn] at hmv
    subst hmv
    clear hg3 hv3 hmn
    go_wp2_with fail
    go_loopw [10, 11, 12] (fun out i _ wr => ∃ j : Nat, j ≤ 256 ∧ i = .int .i64 j ∧ Grow w3 wr ∧ wr.ownsRow w3.heap.size 3 1 out (nI (bmN p ts k j)).length ((nI (bmN p ts k j)).flatMap encI)) (fun _ i _ _ => 256 - (intOf i).toNat)
    case atStart => exact ⟨0, by omega, rfl, Grow.refl _, World.ownsRow_nil _ _ _ _⟩
    case round =>
      obtain ⟨j, hj, rfl, hg, how⟩ := hrel
      have HG := Lib.hid hg
      have HO := Lib.hid how
      have hzj := hg.sz
      clear hg how
      by_cases hlt : j < 256
      · have hlt2 : (j : Int) < 256 := by omega
        have HBS := Lib.hid (bmN_succ p ts k j)
        have HLB := Lib.hid (show (nI (bmN p ts k j)).length < 100000000000 by rw [nI_len]; have := bmN_len p ts k j; omega)
        have HBC := Lib.hid (show bmC p ts k j = (decide ((lst j).length = k) && decide (lnE p (lst j) = 0) && blm p ts (lst j)) from rfl)
        go_wp2_with fail
        refine r3list_any j hlt _ _ ?_
        intro w5 v5 hg5 hv5
        have hx5 := hv5.slc encI_len
        have HG5 := Lib.hid (HG.out.trans hg5)
        have HO5 := Lib.hid (hg5.owns HO.out)
        have hz5 := hg5.sz
        obtain ⟨ll, hll⟩ : ∃ z, lst j = z := ⟨_, rfl⟩
        rw [hll] at hx5 HBC
        have HX5 := Lib.hid hx5
        obtain ⟨a5, c5, rfl, _⟩ := hx5
        clear hv5 hg5 hll
        by_cases hlk : ll.length = k
        rotate_left
        · have t1 : ((ll.length : Int) == (k : Int)) = false := beq_eq_false_iff_ne.2 (by omega)
          rw [decide_eq_false hlk, Bool.false_and, Bool.false_and] at HBC
          have HBE := Lib.hid (show bmN p ts k (j + 1) = bmN p ts k j by rw [HBS.out, HBC.out]; simp)
          go_wp2_with fail
          go_roundw
          case rel => exact ⟨j + 1, by omega, by go_num, HG5.out, by rw [HBE.out]; exact HO5.out⟩
          case measure => simp [intOf]; omega
        have t1 : ((ll.length : Int) == (k : Int)) = true := by rw [hlk]; simp
        rw [decide_eq_true hlk, Bool.true_and] at HBC
        obtain ⟨e5, he5⟩ : ∃ z, lnE p ll = z := ⟨_, rfl⟩
        rw [he5] at HBC
        have HE5 := Lib.hid he5
        have HLK := Lib.hid hlk
        clear he5 hlk
        go_wp2_with fail
        refine lined_any p ll _ _ _ (HP.out.grow (HG3.out.trans HG5.out)) HX5.out HVAL.out _ ?_
        intro w6 hg6
        rw [HE5.out]
        have HG6 := Lib.hid (HG5.out.trans hg6)
        have HO6 := Lib.hid (hg6.owns HO5.out)
        have HX6 := Lib.hid (HX5.out.grow hg6)
        have hz6 := hg6.sz
        clear hg6
        by_cases h5 : e5 = 0
        rotate_left
        · have t2 : (e5 == 0) = false := by simpa using h5
          rw [decide_eq_false h5, Bool.false_and] at HBC
          have HBE := Lib.hid (show bmN p ts k (j + 1) = bmN p ts k j by rw [HBS.out, HBC.out]; simp)
          go_wp2_with fail
          go_roundw
          case rel => exact ⟨j + 1, by omega, by go_num, HG6.out, by rw [HBE.out]; exact HO6.out⟩
          case measure => simp [intOf]; omega
        subst h5
        rw [decide_eq_true rfl, Bool.true_and] at HBC
        obtain ⟨b, hb⟩ : ∃ z, blm p ts ll = z := ⟨_, rfl⟩
        rw [hb] at HBC
        have HB := Lib.hid hb
        clear hb
        go_wp2_with fail
        refine r3isToBlame_any p ts ll _ _ _ _ _ (HP.out.grow (HG3.out.trans HG6.out)) (HT.out.grow (HG3.out.trans HG6.out)) HX6.out (by rw [HLK.out]; exact HV3.out.grow HG6.out) HE.out HE5.out _ ?_
        intro w7 hg7
        rw [HB.out]
        have HG7 := Lib.hid (HG6.out.trans hg7)
        have HO7 := Lib.hid (hg7.owns HO6.out)
        have hz7 := hg7.sz
        clear hg7
        cases b with
        | false =>
          have HBE := Lib.hid (show bmN p ts k (j + 1) = bmN p ts k j by rw [HBS.out, HBC.out]; simp)
          go_wp2_with fail
          go_roundw
          case rel => exact ⟨j + 1, by omega, by go_num, HG7.out, by rw [HBE.out]; exact HO7.out⟩
          case measure => simp [intOf]; omega
        | true =>
          have HBE := Lib.hid (show nI (bmN p ts k (j + 1)) = nI (bmN p ts k j) ++ [(j : Int)] by rw [HBS.out, HBC.out, if_pos rfl, nI_snoc])
          go_wp2_with (at_builtin; refine wpList_app _ rfl (.tmp 47) (.tmp 49) 29 rfl w3.heap.size 3 Tryz.underlying29 info_int rfl (by decide) (by decide) encI encI_len encI_one _ (nI (bmN p ts k j)) rfl (((Grow.refl _).alloc _).owns HO7.out) _ (j : Int) 1 rfl (newsG _ _ (by simp) (encI (j : Int)) _) HLB.out (by simp; omega) ?_; intro out2 w8 hown8 hgr8)
          have HG8 := Lib.hid (show Grow w3 w8 from grown_below HO7.out hgr8 (Nat.le_refl _) (by simp; omega) (HG7.out.alloc _))
          have HO8 := Lib.hid hown8
          clear hown8 hgr8
          go_roundw
          case rel => exact ⟨j + 1, by omega, by go_num, HG8.out, by rw [HBE.out]; exact HO8.out⟩
          case measure => simp [intOf]; omega
      · obtain rfl : j = 256 := by omega
        have ho := HO.out
        rw [bmN_all] at ho
        have hsl := slc_of_owns encI_len ho
        have HSL := Lib.hid hsl
        have HBO := Lib.hid (bmd_ord (ts := ts) HVAL.out hk2)
        have hbl := bmN_len p ts k 256
        rw [bmN_all] at hbl
        have HBL := Lib.hid hbl
        obtain ⟨a6, c6, hve, _⟩ := hsl
        subst hve
        clear ho hbl
        go_wp2_with fail
        refine r3ordered_any (bmdN p ts k) bmdN_lt (by have := HBL.out; omega) _ _ HSL.out _ ?_
        intro w9 v9 hg9 hv9
        rw [← HBO.out] at hv9
        have HF := Lib.hid (HR.out w9 v9 ((HG3.out.trans HG.out).trans hg9) (by rw [ifOK_ok, Int.toNat_natCast]; exact hv9))
        clear hg9 hv9
        go_wp2_with fail
        exact HF.out
end Go.Proofs.YtmlbgfnddgbpbaaGreat
