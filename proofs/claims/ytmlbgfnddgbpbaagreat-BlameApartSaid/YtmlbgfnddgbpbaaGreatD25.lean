/- The walks of the document's answer to layer 3: Without; and of the program's. -/
import Derived.Test.YtmlbgfnddgbpbaaGreatD14
import Derived.Test.YtmlbgfnddgbpbaaGreatD13
namespace Go.Proofs.YtmlbgfnddgbpbaaGreat
open Go.RowKit
open Mk Bm

theorem andnot_pow : ∀ a : Nat, a < 256 → ∀ i : Nat, i < 8 → bits .andNot .i64 (a : Int) ((2 ^ i : Nat) : Int) = ((a &&& (255 ^^^ 2 ^ i) : Nat) : Int) := by decide +kernel
theorem andnot_lt {a : Nat} (h : a < 256) (i : Nat) : a &&& (255 ^^^ 2 ^ i) < 256 := Nat.lt_of_le_of_lt Nat.and_le_left h
def wlE (f : List (List Int)) (n : Int) : Int := if valF f = 0 then (if inB n 0 7 then 0 else 1) else valF f
def without (n : Int) (l : List Int) : List Int := l.filter fun x => !decide (x = n)
def wlO (f : List (List Int)) (n : Int) : List (List Int) := ifOK (wlE f n) (f.map (without n))
theorem without_take {f : List (List Int)} {k : Nat} {l : List Int} {n : Int} (h : f[k]? = some l) : (f.take (k + 1)).map (without n) = (f.take k).map (without n) ++ [without n l] := by rw [List.take_add_one, h, List.map_append]; rfl
theorem without_bits {l : List Int} {k : Nat} (h : setB l = true) (hk : k < 8) : lst (mask l &&& (255 ^^^ 2 ^ k)) = without (k : Int) l := wo_lst h hk
theorem wrap_pow {i : Nat} (h : i ≤ 8) : wrap64 ((2 : Int) ^ i) = ((2 ^ i : Nat) : Int) := by
  have h1 := bwrap_pow h
  rw [IntWalk.i64_left, Int.one_mul] at h1
  exact h1
set_option maxRecDepth 100000 in
set_option maxHeartbeats 8000000 in
theorem r3Without_any (f : List (List Int)) (n : Int) (v : Value) (w : World) (hf : FamAt w v f) (R : Ending → World → Prop) (hR : ∀ w' v, Grow w w' → FamAt w' v (wlO f n) → R (.returned (.tuple #[v, .int .i64 (wlE f n)])) w') :
    Calls Tryz.prog 39 #[v, .int .i64 n] w R := by
  have HFM := Lib.hid hf
  unfold wlO wlE at hR
  have HR := Lib.hid hR
  obtain ⟨e, he⟩ : ∃ e, valF f = e := ⟨_, rfl⟩
  rw [he] at HR
  have HE := Lib.hid he
  obtain ⟨a, c, rfl, h1, h2⟩ := hf.out
  clear hR hf
  by_cases h0 : e = 0
  rotate_left
  · rw [if_neg h0] at HR
    have t1 : (e != 0) = true := by simpa using h0
    have HF := Lib.hid (fun w' h => HR.out w' (.slice none 0 0) h (by rw [ifOK_err h0]; exact FamAt.nil _))
    clear h0 he
    go_enter Tryz.func39, Tryz.ntmps39
    go_wp2_with fail
    refine r3Validate_any f _ _ HFM.out _ ?_
    intro w1 hg1
    rw [HE.out]
    have HF2 := Lib.hid (HF.out w1 hg1)
    clear hg1
    go_wp2_with fail
    exact HF2.out
  subst h0
  rw [if_pos rfl] at HR
  obtain ⟨hl70, hall⟩ := valF_ok.1 he
  have HML := Lib.hid (masks_lt he)
  have HALL := Lib.hid hall
  clear he hall
  cases hin : inB n 0 7 with
  | false =>
    rw [hin, if_neg (by decide)] at HR
    have HIN := Lib.hid hin
    have HF := Lib.hid (fun w' h => HR.out w' (.slice none 0 0) h (by rw [ifOK_err (by decide)]; exact FamAt.nil _))
    clear hin
    go_enter Tryz.func39, Tryz.ntmps39
    go_wp2_with fail
    refine r3Validate_any f _ _ HFM.out _ ?_
    intro w1 hg1
    rw [HE.out]
    have HF2 := Lib.hid (HF.out w1 hg1)
    clear hg1
    go_wp2_with fail
    refine r3within_any _ _ _ _ _ ?_
    rw [HIN.out]
    go_wp2_with fail
    exact HF2.out
  | true =>
    rw [hin, if_pos rfl] at HR
    obtain ⟨i0, i1⟩ := inB_true.1 hin
    obtain ⟨q, rfl⟩ : ∃ q : Nat, n = q := ⟨n.toNat, by omega⟩
    have hq8 : q < 8 := by omega
    have HIN := Lib.hid hin
    clear hin
    go_enter Tryz.func39, Tryz.ntmps39
    go_wp2_with fail
    refine r3Validate_any f _ _ HFM.out _ ?_
    intro w1 hg1
    rw [HE.out]
    have HG1 := Lib.hid hg1
    clear hg1
    go_wp2_with fail
    refine r3within_any _ _ _ _ _ ?_
    rw [HIN.out]
    go_wp2_with fail
    refine r3masks_any f _ _ (HFM.out.grow HG1.out) HALL.out hl70 _ ?_
    intro w3 v3 hg3 hv3
    have hv4 := hv3.slc encI_len
    have HG3 := Lib.hid (HG1.out.trans hg3)
    obtain ⟨a3, c3, rfl, jq⟩ := hv4
    have hnl : (nI (f.map mask)).length = f.length := by rw [nI_len, List.length_map]
    have HV4 := Lib.hid (show IntsAt w3 (.slice a3 (nI (f.map mask)).length c3) (nI (f.map mask)) from ⟨a3, c3, rfl, jq⟩)
    rw [hnl] at HV4 ⊢
    have HWP := Lib.hid (wrap_pow (i := q) (by omega))
    have z1 : (0 : Int) ≤ (q : Int) := by omega
    have z2 : (q : Int) ≤ 64 := by omega
    have z3 : IntKind.u64.wrap (q : Int) = (q : Int) := IntWalk.u64_in _ (by omega)
    clear hg3 hv3 jq hnl i0 i1
    go_wp2_with fail
    go_loopw [7, 9] (fun out i wr => ∃ (k : Nat) (L : List (Lo Int)), k ≤ f.length ∧ i = .int .i64 k ∧ Grow w3 wr ∧ LoOwn w3.heap.size 29 1 encI wr out L ∧ L.map Lo.x = (f.take k).map (without (q : Int))) (fun _ i _ => f.length - (intOf i).toNat)
    case atStart => exact ⟨0, [], Nat.zero_le _, rfl, Grow.refl _, LoOwn.nil _ _ _ _ _, rfl⟩
    case round =>
      obtain ⟨k, L, hk, rfl, hg, how, hmp⟩ := hrel
      have HG := Lib.hid hg
      have HO := Lib.hid how
      have HMP := Lib.hid hmp
      have hzj := hg.sz
      have HLE := Lib.hid (show L.length < 100000000000 by have := congrArg List.length hmp; rw [List.length_map, List.length_map, List.length_take] at this; omega)
      clear hg how hmp
      by_cases hlt : k < f.length
      · obtain ⟨l, hl⟩ : ∃ x, f[k]? = some x := ⟨_, List.getElem?_eq_getElem hlt⟩
        have hmx : (f.map mask)[k]? = some (mask l) := by rw [List.getElem?_map, hl]; rfl
        obtain ⟨b, o, rfl, hb, e0⟩ := ints_at (HV4.out.grow HG.out) (nI_at hmx)
        have hlt2 : (k : Int) < (f.length : Int) := by omega
        have hm256 := HML.out (mask l) (List.mem_of_getElem? hmx)
        have HWO := Lib.hid (without_bits (HALL.out l (List.mem_of_getElem? hl)) hq8)
        have HTK := Lib.hid (without_take (n := (q : Int)) hl)
        have HAN := Lib.hid (andnot_pow (mask l) hm256 q hq8)
        obtain ⟨m, hm⟩ : ∃ m, mask l = m := ⟨_, rfl⟩
        rw [hm] at HWO HAN hm256 e0
        have hml := andnot_lt hm256 q
        clear hl hmx hm
        go_wp2_with fail
        rw [HWP.out, HAN.out]
        refine r3list_any (m &&& (255 ^^^ 2 ^ q)) hml _ _ ?_
        intro w5 v5 hg5 hv5
        rw [HWO.out] at hv5
        have hx5 := hv5.slc encI_len
        obtain ⟨a5, c5, hve, q1, q2, jk⟩ := hx5
        subst hve
        have HX5 := Lib.hid (show IntsAt w5 (.slice a5 (without (q : Int) l).length c5) (without (q : Int) l) from ⟨a5, c5, rfl, q1, q2, jk⟩)
        have HOF := Lib.hid (HO.out.new hv5)
        have HO5 := Lib.hid (HO.out.grow hg5)
        have HG5 := Lib.hid (HG.out.trans hg5)
        have hz5 := hg5.sz
        clear jk hv5 hg5 e0
        go_wp2_with (at_builtin; refine wpList_appAt _ rfl (.tmp 26) (.tmp 36) 22 rfl w3.heap.size 29 Tryz.underlying22 info_sli rfl (by decide) (by decide) encLo encLo_len encLo_one _ L rfl (((Grow.refl w5).alloc _).owns HO5.out.row) _ (⟨a5, (without (q : Int) l).length, c5, without (q : Int) l⟩ : Lo Int) 1 rfl (newsG _ _ (by simp) (encLo (⟨a5, (without (q : Int) l).length, c5, without (q : Int) l⟩ : Lo Int)) _) HLE.out (by simp; omega) ?_; intro out2 w7 hown7 hgr7 hat7)
        have hgA := (Grow.refl w5).alloc (.cells #[.slice a5 (without (q : Int) l).length c5] 29)
        have HG7 := Lib.hid (show Grow w3 w7 from grown_below HO5.out.row hgr7 (Nat.le_refl _) (by simp; omega) (HG5.out.alloc _))
        have hoff : ∀ b o s, a5 = some ⟨b, o, s⟩ → u7.ownBlock ≠ some b ∧ b < (w5.alloc (.cells #[.slice a5 (without (q : Int) l).length c5] 29)).heap.size := fun b o s h => ⟨(HOF.out b o s h).1, by have := (HOF.out b o s h).2; simp; omega⟩
        have HO7 := Lib.hid ((HO5.out.grow hgA).app (t := ⟨a5, (without (q : Int) l).length, c5, without (q : Int) l⟩) hgr7 hown7 hat7 (HX5.out.grow hgA) hoff)
        clear hown7 hgr7 hat7 hoff hgA
        go_roundw
        case rel => exact ⟨k + 1, L ++ [⟨a5, (without (q : Int) l).length, c5, without (q : Int) l⟩], by omega, by go_num, HG7.out, HO7.out, by rw [List.map_append, HMP.out, HTK.out]; rfl⟩
        case measure => simp [intOf]; omega
      · have hkn : k = f.length := by omega
        have hmp := HMP.out
        rw [hkn, List.take_length] at hmp
        have HF := Lib.hid (HR.out wr _ (HG3.out.trans HG.out) (by rw [ifOK_ok]; exact ⟨L, HO.out.at_, HO.out.ins, hmp⟩))
        clear hkn hmp
        go_wp2_with fail
        exact HF.out
end Go.Proofs.YtmlbgfnddgbpbaaGreat
