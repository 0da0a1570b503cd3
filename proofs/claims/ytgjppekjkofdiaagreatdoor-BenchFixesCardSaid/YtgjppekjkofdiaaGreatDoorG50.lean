/- The law BenchFixes: an order to fix puts in the repair that is proposed. -/
import Derived.Test.YtgjppekjkofdiaaGreatDoorG41
import Derived.Test.YtgjppekjkofdiaaGreatDoorG48
import Derived.Test.YtgjppekjkofdiaaGreatDoorG20
import Derived.Test.YtgjppekjkofdiaaGreatDoorG49
namespace Go.Proofs.YtgjppekjkofdiaaGreatDoor
open Go.RowKit

set_option maxRecDepth 100000 in
set_option maxHeartbeats 8000000 in
theorem benchFixes_any (p : List Ln) (l : List ByteArray) (w : World) (v0 v1 : Value) (hg : Glob w) (hp : LinesAt w v0 p) (hl : TextsAt w v1 l) (R : Ending → World → Prop) (hR : ∀ w', Grow w w' → R (.returned (.bool true)) w') :
    Calls Tryz.prog 3 #[v0, v1] w R := by
  have HR := Lib.hid hR
  have HG := Lib.hid hg
  have HP := Lib.hid hp
  have HL := Lib.hid hl
  have hgs := hg.size
  clear hR hg hp hl
  go_enter Tryz.func3, Tryz.ntmps3
  go_wp2_with fail
  refine long49_any p _ _ HP.out _ ?_
  cases hlg : decide (100 < p.length) with
  | true =>
    go_wp2_with fail
    refine sane_any _ HG.out _ ?_
    intro w2 hg2
    have HF := Lib.hid (HR.out w2 hg2)
    clear hg2
    go_wp2_with fail
    exact HF.out
  | false =>
  have hpl : p.length ≤ 100 := by have := of_decide_eq_false hlg; omega
  clear hlg
  go_wp2_with fail
  refine Long9_any l _ _ HL.out _ ?_
  intro w1 hg1
  have HG1 := Lib.hid hg1
  clear hg1
  cases hlg : lngT l with
  | true =>
    go_wp2_with fail
    refine sane_any _ (HG.out.grow HG1.out) _ ?_
    intro w2 hg2
    have HF := Lib.hid (HR.out w2 (HG1.out.trans hg2))
    clear hg2
    go_wp2_with fail
    exact HF.out
  | false =>
  obtain ⟨hsz, hlen⟩ := lngT_no hlg
  have HSZ := Lib.hid hsz
  clear hlg hsz
  go_wp2_with fail
  refine Begin_any p _ _ (HP.out.grow HG1.out) (by omega) _ ?_ ?_
  · intro h0 w2 hg2
    have HG2 := Lib.hid (HG1.out.trans hg2)
    have H0 := Lib.hid h0
    clear hg2 h0
    go_wp2_with fail
    refine failed9_any p _ _ (HG.out.grow HG2.out) (HP.out.grow HG2.out) (by omega) H0.out _ ?_
    intro w3 hg3
    have HF := Lib.hid (HR.out w3 (HG2.out.trans hg3))
    clear hg3
    go_wp2_with fail
    exact HF.out
  intro h0 w2 B ra hg2 hB hb
  have HG2 := Lib.hid (HG1.out.trans hg2)
  have HB2 := Lib.hid hb
  have H0 := Lib.hid h0
  have hwB : w.heap.size ≤ B := Nat.le_trans HG1.out.sz hB
  have hBl := hb.hid.bd B (by simp)
  have HLT := Lib.hid hBl
  clear hg2 hb hB h0
  go_wp2_with fail
  refine few_any l _ _ (HL.out.grow HG2.out) _ ?_
  intro w3 v3 hg3 ht3 hv3
  have hoff := texts_off HL.out hwB ht3 hv3 hBl
  obtain ⟨ls, hls⟩ : ∃ z, l.take 24 = z := ⟨_, rfl⟩
  have hlsz : ∀ t ∈ ls, t.size < 4294967281 := fun t ht => by
    rw [← hls] at ht
    have := HSZ.out t (List.mem_of_mem_take ht)
    omega
  rw [hls] at ht3 hoff
  have HLS := Lib.hid hlsz
  have HLL := Lib.hid (show ls.length ≤ 24 by rw [← hls, List.length_take]; omega)
  have HT := Lib.hid hoff
  have HG3 := Lib.hid (HG2.out.trans hg3)
  have HB3 := Lib.hid (HB2.out.grow hg3)
  obtain ⟨va, vc, rfl, a1, a2, jk⟩ := ht3
  have hB4 : 4 < B := by omega
  have HN0 := Lib.hid (OkB.new H0.out)
  clear hg3 hv3 hoff hlsz jk hls HB2
  go_wp2_with fail
  go_loopw [8] (fun s8 wr => ∃ k : Nat, k ≤ ls.length ∧ s8 = .int .i64 k ∧ Chg B w3 wr ∧ BnAt (fun k => k == B) B wr (dosB (newB p) (ls.take k))) (fun s8 _ => ls.length - (intOf s8).toNat)
  case atStart => exact ⟨0, Nat.zero_le _, rfl, chg_refl B w3, HB3.out⟩
  case round =>
  obtain ⟨k, hk, rfl, hc, hbn⟩ := hrel
  have HC := Lib.hid hc
  have HBN := Lib.hid hbn
  have HGW := Lib.hid (chg_grow HG3.out hc hwB)
  clear hc hbn
  by_cases hlt : k < ls.length
  · have hltz : (k : Int) < (ls.length : Int) := by omega
    obtain ⟨u, hu⟩ : ∃ u, ls[k]? = some u := ⟨_, List.getElem?_eq_getElem hlt⟩
    obtain ⟨b, o, rfl, hbl, y0⟩ := texts_at (show TextsAt wr _ ls from (HT.out.grow HC.out).unhide) hu
    have hus := HLS.out u (List.mem_of_getElem? hu)
    have HU := Lib.hid hu
    clear hu
    go_wp2_with fail
    refine bDo_any (fun k => k == B) B u hus (dosB (newB p) (ls.take k)) _ (HG.out.grow HGW.out) HBN.out (HN0.out.dos _) hB4 _ ?_
    intro w5 hc5 hb5
    have HC5 := Lib.hid (HC.out.trans hc5)
    have HB5 := Lib.hid (show BnAt (fun k => k == B) B w5 (dosB (newB p) (ls.take (k + 1))) by rw [dos_snoc HU.out]; exact hb5)
    obtain ⟨e, he⟩ : ∃ e, (doB (dosB (newB p) (ls.take k)) u).1 = e := ⟨_, rfl⟩
    rw [he]
    clear he hc5 hb5
    go_wp2_with fail
    go_roundw
    case rel => exact ⟨k + 1, by omega, by go_num, HC5.out, HB5.out⟩
    case measure => simp [intOf]; omega
  obtain rfl : k = ls.length := by omega
  have hltz : ¬ (ls.length : Int) < (ls.length : Int) := by omega
  have HOK := Lib.hid ((HN0.out.dos ls))
  have HREP := Lib.hid ((RepB.new p).dos ls)
  have HORD := Lib.hid (show (dosB (newB p) ls).orders.length < 79 by have h1 := orders_dos (newB p) ls; have h2 : (newB p).orders.length = 0 := rfl; have := HLL.out; omega)
  have hbn := HBN.out
  rw [List.take_length] at hbn
  obtain ⟨S, hS⟩ : ∃ z, dosB (newB p) ls = z := ⟨_, rfl⟩
  rw [hS] at HOK HORD HREP hbn
  have HBS := Lib.hid hbn
  clear hbn hS HBN

  go_wp2_with fail
  refine Program_any (fun k => k == B) B S _ HBS.out HOK.out _ ?_
  intro w6 pv base6 hg6 hb6 ho6
  have HBS6 := Lib.hid (HBS.out.grow hg6)
  have HP6 := Lib.hid (show LinesAt w6 pv S.prog from slc_of_owns encL_len ho6)
  have HG6 := Lib.hid (HGW.out.trans hg6)
  clear hg6 hb6 ho6 HBS HGW
  go_wp2_with fail
  refine Tests_any (fun k => k == B) B S _ HBS6.out HOK.out _ ?_
  intro w7 tv base7 T hg7 hb7 ht7 hx7
  have HBS7 := Lib.hid (HBS6.out.grow hg7)
  have HP7 := Lib.hid (HP6.out.grow hg7)
  have HT7 := Lib.hid (show TestsAt w7 tv (T.map Tq.t) from ht7.at_.tests)
  have HTX := Lib.hid hx7
  have HG7 := Lib.hid (HG6.out.trans hg7)
  clear hg7 hb7 ht7 hx7 HBS6 HP6 HG6
  go_wp2_with fail
  refine History_any (fun k => k == B) B S _ HBS7.out HOK.out _ ?_
  intro w8 hv base8 L hg8 hb8 hn8 hl8 hx8
  have HBS8 := Lib.hid (HBS7.out.grow hg8)
  have HP8 := Lib.hid (HP7.out.grow hg8)
  have HT8 := Lib.hid (show TestsAt w8 tv (T.map Tq.t) from ⟨HT7.out.at_.grow hg8, fun t ht => (HT7.out.ins t ht).grow hg8⟩)
  have HG8 := Lib.hid (HG7.out.trans hg8)
  have hLl : L.length = S.hist.length := by rw [← hx8]; simp
  obtain ⟨ha, hc, rfl, hh1, hh2, jk⟩ := hl8.at_
  rw [hLl] at hh1 ⊢
  have hn8 := HOK.out.h8
  obtain ⟨n, hn⟩ : ∃ z, S.hist.length = z := ⟨_, rfl⟩
  rw [hn] at hh1 hn8 ⊢
  have HN := Lib.hid hn
  clear hg8 hb8 hl8 hx8 jk hLl hn HBS7 HP7 HT7 HG7
  go_wp2_with fail
  refine Counts_any (fun k => k == B) B S _ HBS8.out _ ?_
  intro w9 hg9
  have HBS9 := Lib.hid (HBS8.out.grow hg9)
  have HP9 := Lib.hid (HP8.out.grow hg9)
  have HT9 := Lib.hid (show TestsAt w9 tv (T.map Tq.t) from ⟨HT8.out.at_.grow hg9, fun t ht => (HT8.out.ins t ht).grow hg9⟩)
  have HG9 := Lib.hid (HG8.out.trans hg9)
  have hfx0 := HOK.out.fx
  have hoo := HORD.out
  obtain ⟨fx, hfx⟩ : ∃ z, S.fixes = z := ⟨_, rfl⟩
  obtain ⟨cx, hcx⟩ : ∃ z, S.checks = z := ⟨_, rfl⟩
  rw [hfx, hcx]
  rw [hfx] at hfx0
  have HFX := Lib.hid hfx
  have hfb : 0 ≤ fx ∧ fx < 1000 := by omega
  clear hg9 hfx hcx hfx0 hoo HBS8 HP8 HT8 HG8
  go_wp2_with fail
  refine Repair_any S.prog (T.map Tq.t) _ _ _ HP9.out HT9.out _ ?_
  intro w10 xv x rn okb hg10 hxv hnx hrep
  have hrep2 := rep_noV hrep
  rw [noV_t, HTX.out] at hrep2
  have hse : sgtE S.prog (T.map Tq.t) 0 = if allPass S.prog S.tests then 8 else 0 := by rw [← sgtE_noV, noV_t, HTX.out, sgt_bench HOK.out]
  rw [hse]
  have HBS10 := Lib.hid (HBS9.out.grow hg10)
  have HX10 := Lib.hid (hxv.hide_new hnx (fun b hb => HBS9.out.hid.new b hb))
  have HRP := Lib.hid hrep2
  have HG10 := Lib.hid (HG9.out.trans hg10)
  obtain ⟨xa, xc, rfl, x1, x2, jk⟩ := hxv
  clear hg10 hnx hrep hrep2 hse jk HBS9 HP9 HT9 HG9
  have hdo := fun (R : Ending → World → Prop) h => bDo_any (fun k => k == B) B fixT (by decide) S w10 (HG.out.grow HG10.out) HBS10.out HOK.out hB4 R h
  have HDO := Lib.hid hdo
  clear hdo
  cases hap : allPass S.prog S.tests with
  | true =>
    rw [if_pos rfl]
    have hfe := fix_state HOK.out (by have := HORD.out; omega) hap
    have HFE := Lib.hid hfe
    clear hap hfe
    go_wp2_with fail
    refine HDO.out _ ?_
    intro w11 hc11 hb11
    rw [HFE.out]
    have HG11 := Lib.hid (chg_grow HG10.out hc11 hwB)
    clear hc11 hb11
    go_wp2_with fail
    refine sane_any _ (HG.out.grow HG11.out) _ ?_
    intro w12 hg12
    have HF := Lib.hid (HR.out w12 (HG11.out.trans hg12))
    clear hg12
    go_wp2_with fail
    exact HF.out
  | false =>
  rw [if_neg (by decide)]
  by_cases h8 : n = 8
  · have hfe := fix_large HOK.out (by have := HORD.out; omega) hap (by rw [HN.out, h8])
    have HFE := Lib.hid hfe
    subst h8
    clear hap hfe
    go_wp2_with fail
    refine HDO.out _ ?_
    intro w11 hc11 hb11
    rw [HFE.out]
    have HG11 := Lib.hid (chg_grow HG10.out hc11 hwB)
    clear hc11 hb11
    go_wp2_with fail
    refine sane_any _ (HG.out.grow HG11.out) _ ?_
    intro w12 hg12
    have HF := Lib.hid (HR.out w12 (HG11.out.trans hg12))
    clear hg12
    go_wp2_with fail
    exact HF.out
  have h8z : ((n : Int) == 8) = false := by rw [beq_eq_false_iff_ne]; omega
  cases okb with
  | false =>
    have hfe := fix_none HOK.out (by have := HORD.out; omega) hap (by rw [HN.out]; exact h8) HRP.out
    have HFE := Lib.hid hfe
    clear hap hfe h8
    go_wp2_with fail
    refine HDO.out _ ?_
    intro w11 hc11 hb11
    rw [HFE.out]
    have HG11 := Lib.hid (chg_grow HG10.out hc11 hwB)
    clear hc11 hb11
    go_wp2_with fail
    refine sane_any _ (HG.out.grow HG11.out) _ ?_
    intro w12 hg12
    have HF := Lib.hid (HR.out w12 (HG11.out.trans hg12))
    clear hg12
    go_wp2_with fail
    exact HF.out
  | true =>
  obtain ⟨u1, u2, u3, u4, u5⟩ := fix_some HOK.out HORD.out hap (by rw [HN.out]; exact h8) HRP.out
  have HOK2 := Lib.hid (HOK.out.do fixT)
  have HFE := Lib.hid u1
  clear hap h8
  go_wp2_with fail
  refine HDO.out _ ?_
  intro w11 hc11 hb11
  rw [HFE.out]
  obtain ⟨S2, hS2⟩ : ∃ z, (doB S fixT).2 = z := ⟨_, rfl⟩
  rw [hS2] at HOK2 hb11 u2 u3 u4 u5
  have HB11 := Lib.hid hb11
  have HU2 := Lib.hid u2
  have HU3 := Lib.hid u3
  have HU4 := Lib.hid u4
  have HU5 := Lib.hid u5
  have HX11 := Lib.hid (HX10.out.grow hc11)
  have HG11 := Lib.hid (chg_grow HG10.out hc11 hwB)
  clear hc11 hb11 hS2 u1 u2 u3 u4 u5 HDO
  go_wp2_with fail
  refine History_any (fun k => k == B) B S2 _ HB11.out HOK2.out _ ?_
  intro w12 hv12 base12 L2 hg12 hb12 hn12 hl12 hx12
  have HB12 := Lib.hid (HB11.out.grow hg12)
  have HX12 := Lib.hid (HX11.out.grow (hg12.hid _))
  have HG12 := Lib.hid (HG11.out.trans hg12)
  have hL2 : L2.length = n + 1 := by
    have h1 : L2.length = S2.hist.length := by rw [← hx12]; simp
    rw [h1, HU2.out, List.length_append, HN.out]; rfl
  have hgx : (L2.map Lo.x)[n]? = some x := by rw [hx12, HU2.out, ← HN.out, List.getElem?_append_right (Nat.le_refl _), Nat.sub_self]; rfl
  obtain ⟨t, ht, htx⟩ : ∃ t, L2[n]? = some t ∧ t.x = x := by
    rw [List.getElem?_map] at hgx
    cases h2 : L2[n]? with
    | none => rw [h2] at hgx; cases hgx
    | some t => rw [h2] at hgx; exact ⟨t, rfl, Option.some.inj hgx⟩
  have HLL2 := Lib.hid hl12
  have HLT2 := Lib.hid ht
  have HTX2 := Lib.hid htx
  obtain ⟨ha2, hc2, rfl, hh3, hh4, jk⟩ := hl12.at_
  rw [hL2] at hh3 HLL2 ⊢
  clear hg12 hb12 hn12 hl12 hx12 hgx ht htx jk hL2
  go_wp2_with fail
  refine Counts_any (fun k => k == B) B S2 _ HB12.out _ ?_
  intro w13 hg13
  rw [HU4.out, HFX.out]
  have HB13 := Lib.hid (HB12.out.grow hg13)
  have HX13 := Lib.hid (HX12.out.grow (hg13.hid _))
  have HG13 := Lib.hid (HG12.out.trans hg13)
  have HLL3 := Lib.hid (HLL2.out.grow hg13)
  obtain ⟨cb, co, rfl, hcb, y0⟩ := lo_at HLL3.out.at_ HLT2.out
  have HI13 := Lib.hid (show EditsAt w13 (.slice t.a t.n t.c) x by rw [← HTX2.out]; exact HLL3.out.ins t (List.mem_of_getElem? HLT2.out))
  have hwn : IntKind.i64.wrap ((n : Int) + 1) = (n : Int) + 1 := IntWalk.i64_in _ (by omega)
  have hwf : IntKind.i64.wrap (fx + 1) = fx + 1 := IntWalk.i64_in _ (by omega)
  have hnz : (n : Int) < (n : Int) + 1 := by omega
  clear hg13
  go_wp2_with fail
  refine rsameE_any x x _ _ _ HI13.out HX13.out.unhide _ ?_
  intro w14 hg14
  rw [decide_eq_true (rfl : x = x)]
  have HB14 := Lib.hid (HB13.out.grow hg14)
  have HG14 := Lib.hid (HG13.out.trans hg14)
  clear hg14 y0
  go_wp2_with fail
  refine Failing9_any (fun k => k == B) B S2 _ HB14.out HOK2.out _ ?_
  intro w15 fv base15 hg15 hb15 hf15
  rw [HU3.out] at hf15
  obtain ⟨fa, fc, rfl, f1, f2, jk⟩ := hf15.slc encI_len
  have HB15 := Lib.hid (HB14.out.grow hg15)
  have HG15 := Lib.hid (HG14.out.trans hg15)
  clear hg15 hb15 hf15 jk
  go_wp2_with fail
  refine bDo_any (fun k => k == B) B checkT (by decide) S2 _ (HG.out.grow HG15.out) HB15.out HOK2.out hB4 _ ?_
  intro w16 hc16 hb16
  rw [HU5.out]
  have HG16 := Lib.hid (chg_grow HG15.out hc16 hwB)
  clear hc16 hb16
  go_wp2_with fail
  refine sane_any _ (HG.out.grow HG16.out) _ ?_
  intro w17 hg17
  have HF := Lib.hid (HR.out w17 (HG16.out.trans hg17))
  clear hg17
  go_wp2_with fail
  exact HF.out
end Go.Proofs.YtgjppekjkofdiaaGreatDoor
