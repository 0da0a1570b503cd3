/-
The walk of Run: orders in a new bench, one after another.
The law BenchRuns: Run does the orders one by one in a new bench.
-/
import Derived.Test.YtgjppekjkofdiaaGreatDoorG41
import Derived.Test.YtgjppekjkofdiaaGreatDoorG51
namespace Go.Proofs.YtgjppekjkofdiaaGreatDoor
open Go.RowKit

theorem b_info_errno : (Tryz.prog.info? 33).map (fun i => (i.zero, i.size, i.bytes)) = some (some (.int .i64 0), 1, 8) := by kernel_rfl
set_option maxRecDepth 100000 in
set_option maxHeartbeats 8000000 in
theorem Run_any9 (p : List Ln) (l : List ByteArray) (v u : Value) (w : World) (hg : Glob w) (hp : LinesAt w v p) (hn : p.length < 10000000000) (hl : TextsAt w u l) (hsz : ∀ t ∈ l, t.size < 4294967281) (R : Ending → World → Prop)
    (hno : valP p ≠ 0 → ∀ w', Grow w w' → R (.returned (.tuple #[.slice none 0 0, .string ⟨#[]⟩, .int .i64 (valP p)])) w')
    (hmo : valP p = 0 → 80 < l.length → ∀ w', Grow w w' → R (.returned (.tuple #[.slice none 0 0, .string ⟨#[]⟩, .int .i64 3])) w')
    (hok : valP p = 0 → l.length ≤ 80 → ∀ w' x, Grow w w' → IntsAt w' x (errsB (newB p) l) → R (.returned (.tuple #[x, .string (tb (bkS (dosB (newB p) l).orders)), .int .i64 0])) w') :
    Calls Tryz.prog 24 #[v, u] w R := by
  have HNO := Lib.hid hno
  have HMO := Lib.hid hmo
  have HOK := Lib.hid hok
  have HP := Lib.hid hp
  have HG := Lib.hid hg
  have HL := Lib.hid hl
  have HSZ := Lib.hid hsz
  have hgs := hg.size
  obtain ⟨ua, uc, rfl, ul1, ul2, jk⟩ := hl
  clear hno hmo hok hp hg hsz jk
  go_enter Tryz.func24, Tryz.ntmps24
  go_wp2_with fail
  refine New_any p v _ HP.out hn _ ?_ ?_
  · intro h0 w1 hg1
    have HF := Lib.hid (HNO.out h0 w1 hg1)
    have hz : (valP p != 0) = true := by simpa using h0
    obtain ⟨e, he⟩ : ∃ e, valP p = e := ⟨_, rfl⟩
    rw [he] at HF hz h0 ⊢
    clear he hg1
    go_wp2_with fail
    first | exact HF.out | exact bodyPost_ret (by simp [results, Tryz.results24, go_sem]) rfl HF.out
  · intro h0 w1 B hg1 hB hb
    have HG1 := Lib.hid hg1
    have HB1 := Lib.hid hb
    have H0 := Lib.hid h0
    have HBL := Lib.hid (hb.hid.bd B (by simp))
    have hB4 : 4 < B := by omega
    have hwB : w.heap.size ≤ B := hB
    have HN0 := Lib.hid (OkB.new h0)
    clear hg1 hb h0 hB
    by_cases h80 : 80 < l.length
    · have h80z : decide ((l.length : Int) > 80) = true := by rw [decide_eq_true_eq]; omega
      have HF := Lib.hid (HMO.out H0.out h80 w1 HG1.out)
      go_wp2_with fail
      first | exact HF.out | exact bodyPost_ret (by simp [results, Tryz.results24, go_sem]) rfl HF.out
    have h80z : decide ((l.length : Int) > 80) = false := by rw [decide_eq_false_iff_not]; omega
    go_wp2_with fail
    obtain ⟨base, hbase⟩ : ∃ z, w1.heap.size = z := ⟨_, rfl⟩
    have hBb : B < base := by rw [← hbase]; exact HBL.out
    have HBS := Lib.hid hbase
    clear hbase
    go_loopw [9, 25] (fun s9 s25 wr => ∃ (k : Nat) (H : Nat → Bool), k ≤ l.length ∧ s25 = .int .i64 k ∧ Grow w wr ∧ base ≤ wr.heap.size ∧ BnAt H B wr (dosB (newB p) (l.take k)) ∧ wr.ownsRow base 33 1 s9 (errsB (newB p) (l.take k)).length ((errsB (newB p) (l.take k)).flatMap encI) ∧ ∀ b, s9.ownBlock = some b → H b = true ∧ b ≠ B) (fun _ s25 _ => l.length - (intOf s25).toNat)
    case atStart => exact ⟨0, _, Nat.zero_le _, rfl, HG1.out, by rw [HBS.out]; exact Nat.le_refl _, HB1.out, World.ownsRow_nil _ _ _ _, fun b hb => by cases hb⟩
    case round =>
    obtain ⟨k, H, hk, rfl, hgw, hbz, hbn, how, hov⟩ := hrel
    have HBN := Lib.hid hbn
    have HOW := Lib.hid how
    have HOV := Lib.hid hov
    have HGW := Lib.hid hgw
    clear hgw hbn how hov
    by_cases hlt : k < l.length
    · have hltz : (k : Int) < (l.length : Int) := by omega
      obtain ⟨t, ht⟩ : ∃ t, l[k]? = some t := ⟨_, List.getElem?_eq_getElem hlt⟩
      obtain ⟨b, o, rfl, hbl, y0⟩ := texts_at (HL.out.grow HGW.out) ht
      have hus := HSZ.out t (List.mem_of_getElem? ht)
      have HU := Lib.hid ht
      have hel : (errsB (newB p) (l.take k)).length = k := by rw [errs_len, List.length_take]; omega
      have HEL := Lib.hid hel
      clear ht hel
      go_wp2_with fail
      refine bDo_any H B t hus (dosB (newB p) (l.take k)) _ (HG.out.grow HGW.out) HBN.out (HN0.out.dos _) hB4 _ ?_
      intro w5 hc5 hb5
      have HG5 := Lib.hid (chg_grow HGW.out hc5 hwB)
      have HB5 := Lib.hid (show BnAt H B w5 (dosB (newB p) (l.take (k + 1))) by rw [dos_snoc HU.out]; exact hb5)
      have HO5 := Lib.hid (row_chg HOW.out hc5 hBb)
      have HES := Lib.hid (errs_snoc (newB p) l k t HU.out)
      obtain ⟨e, he⟩ : ∃ e, (doB (dosB (newB p) (l.take k)) t).1 = e := ⟨_, rfl⟩
      rw [he] at HES ⊢
      have hbz5 : base ≤ w5.heap.size := Nat.le_trans hbz hc5.sz
      clear he hc5 hb5 HOW y0
      go_wp2_with (at_builtin; refine wpList_appAt _ rfl (.tmp 29) (.tmp 33) 50 rfl base 33 Tryz.underlying50 b_info_errno rfl (by decide) (by decide) encI encI_len encI_one _ (errsB (newB p) (l.take k)) rfl (((Grow.refl w5).alloc _).owns HO5.out) _ e 1 rfl (newsG _ _ (by simp) (encI e) _) (by rw [HEL.out]; omega) (by simp; omega) ?_; intro out2 w6 hown6 hgr6 hat6)
      have hg6 : Grow w w6 := grown_below HO5.out hgr6 (by omega) (by simp; omega) (HG5.out.alloc _)
      obtain ⟨H6, hb6, hv6⟩ := (HB5.out.grow ((Grow.refl w5).alloc _)).row HOV.out hgr6 (fun b hb => (hown6.lt b hb).2) hat6
      have HB6 := Lib.hid hb6
      have HV6 := Lib.hid hv6
      have HG6 := Lib.hid hg6
      have hbz6 : base ≤ w6.heap.size := Nat.le_trans hbz5 (Nat.le_trans ((Grow.refl w5).alloc _).sz hgr6.size)
      have HO6 := Lib.hid (show w6.ownsRow base 33 1 out2 (errsB (newB p) (l.take (k + 1))).length ((errsB (newB p) (l.take (k + 1))).flatMap encI) by rw [HES.out]; exact hown6)
      clear hown6 hgr6 hat6 hg6 hb6 hv6
      go_roundw
      case rel => exact ⟨k + 1, H6, by omega, by go_num, HG6.out, hbz6, HB6.out, HO6.out, HV6.out⟩
      case measure => simp [intOf]; omega
    · obtain rfl : k = l.length := by omega
      have hltz : ¬ (l.length : Int) < (l.length : Int) := by omega
      have hbn := HBN.out
      have how := HOW.out
      rw [List.take_length] at hbn how
      have hok := HOK.out H0.out (by omega)
      have HK := Lib.hid hok
      have HBF := Lib.hid hbn
      have HOF := Lib.hid how
      clear hbn how hok HBN HOW
      go_wp2_with fail
      refine Book_any H B _ _ (HG.out.grow HGW.out) HBF.out (HN0.out.dos _) _ ?_
      intro w7 hg7
      have HF := Lib.hid (HK.out w7 _ (HGW.out.trans hg7) ((slc_of_owns encI_len HOF.out).grow hg7))
      clear hg7
      go_wp2_with fail
      first | exact HF.out | exact bodyPost_ret (by simp [results, Tryz.results24, go_sem]) rfl HF.out
end Go.Proofs.YtgjppekjkofdiaaGreatDoor

namespace Go.Proofs.YtgjppekjkofdiaaGreatDoor
open Go.RowKit

set_option maxRecDepth 100000 in
set_option maxHeartbeats 8000000 in
theorem benchRuns_any (p : List Ln) (l : List ByteArray) (w : World) (v0 v1 : Value) (hg : Glob w) (hp : LinesAt w v0 p) (hl : TextsAt w v1 l) (R : Ending → World → Prop) (hR : ∀ w', Grow w w' → R (.returned (.bool true)) w') :
    Calls Tryz.prog 5 #[v0, v1] w R := by
  have HR := Lib.hid hR
  have HG := Lib.hid hg
  have HP := Lib.hid hp
  have HL := Lib.hid hl
  have hgs := hg.size
  obtain ⟨va, vc, rfl, a1, a2, jk⟩ := hl
  clear hR hg hp jk
  go_enter Tryz.func5, Tryz.ntmps5
  go_wp2_with fail
  refine long49_any p _ _ HP.out _ ?_
  cases hlg : decide (100 < p.length) with
  | true =>
    go_wp2_with fail
    refine sane_any _ HG.out _ ?_
    intro ws hgs9
    have HF := Lib.hid (HR.out ws hgs9)
    clear hgs9
    go_wp2_with fail
    exact HF.out
  | false =>
  have hpl : p.length ≤ 100 := by have := of_decide_eq_false hlg; omega
  clear hlg
  go_wp2_with fail
  refine Long9_any l _ _ HL.out _ ?_
  intro w1 hg1
  have HG1 := Lib.hid hg1
  clear hg1
  cases hlg : lngT l with
  | true =>
    go_wp2_with fail
    refine sane_any _ (HG.out.grow HG1.out) _ ?_
    intro ws hgs9
    have HF := Lib.hid (HR.out ws (HG1.out.trans hgs9))
    clear hgs9
    go_wp2_with fail
    exact HF.out
  | false =>
  obtain ⟨hsz, hlen⟩ := lngT_no hlg
  have HSZ := Lib.hid hsz
  have HSL := Lib.hid (show ∀ t ∈ l, t.size < 4294967281 from fun t ht => by have := hsz t ht; omega)
  clear hlg hsz
  by_cases h24 : l.length ≤ 24
  · have h24z : decide ((l.length : Int) > 24) = false := by rw [decide_eq_false_iff_not]; omega
    go_wp2_with fail
    refine Run_any9 p l _ _ _ (HG.out.grow HG1.out) (HP.out.grow HG1.out) (by omega) (HL.out.grow HG1.out) HSL.out _ ?_ ?_ ?_
    · intro h0 w3 hg3
      have HG3 := Lib.hid (HG1.out.trans hg3)
      have H0 := Lib.hid h0
      have h0z : (valP p == valP p) = true := by simp
      have h0y : (valP p != 0) = true := by simpa using h0
      obtain ⟨e, he⟩ : ∃ e, valP p = e := ⟨_, rfl⟩
      have HE := Lib.hid he
      rw [he] at h0z h0y ⊢
      clear hg3 he
      go_wp2_with fail
      refine Begin_any p _ _ (HP.out.grow HG3.out) (by omega) _ ?_ ?_
      · intro _ w4 hg4
        have HG4 := Lib.hid (HG3.out.trans hg4)
        clear hg4
        go_wp2_with fail
        refine rNew0_any p _ _ (HP.out.grow HG4.out) (by omega) _ ?_ ?_
        · intro _ w5 hg5
          have HG5 := Lib.hid (HG4.out.trans hg5)
          rw [HE.out]
          clear hg5
          go_wp2_with fail
          refine sane_any _ (HG.out.grow HG5.out) _ ?_
          intro ws hgs9
          have HF := Lib.hid (HR.out ws (HG5.out.trans hgs9))
          clear hgs9
          go_wp2_with fail
          exact HF.out
        · intro h9; exact absurd h9 H0.out
      · intro h9; exact absurd h9 H0.out
    · intro h0 h9
      exfalso
      have h8 : l.length ≤ 80 := by omega
      omega
    · intro h0 h80 w3 es hg3 hes
      have HG3 := Lib.hid (HG1.out.trans hg3)
      have HES := Lib.hid hes
      have HEL := Lib.hid (errs_len (newB p) l)
      have hel := errs_len (newB p) l
      have HLS3 := Lib.hid ((show TextsAt _ _ l from (HL.out.grow HG1.out)).grow hg3)
      obtain ⟨ea, ec, rfl, e1, e2, jk⟩ := hes
      rw [hel] at HES e1 ⊢
      clear hg3 jk hel
      go_wp2_with fail
      refine Begin_any p _ _ (HP.out.grow HG3.out) (by omega) _ ?_ ?_
      · intro h9; exact absurd h0 h9
      intro _ w4 B ra hg4 hB hb
      have HG4 := Lib.hid (HG3.out.trans hg4)
      have HB4 := Lib.hid hb
      have hwB : w.heap.size ≤ B := Nat.le_trans HG3.out.sz hB
      have HT4 := Lib.hid (HLS3.out.old hg4 hB)
      have HE4 := Lib.hid ((show SlcAt 1 encI w3 _ _ from HES.out).old hg4 hB)
      have HN0 := Lib.hid (OkB.new h0)
      have hB4 : 4 < B := by omega
      have hl80z : decide ((l.length : Int) > 80) = false := by rw [decide_eq_false_iff_not]; omega
      clear hg4 hb hB
      go_wp2_with fail
      go_loopw [13] (fun s8 wr => ∃ k : Nat, k ≤ l.length ∧ s8 = .int .i64 k ∧ Chg B w4 wr ∧ BnAt (fun k => k == B) B wr (dosB (newB p) (l.take k))) (fun s8 _ => l.length - (intOf s8).toNat)
      case atStart => exact ⟨0, Nat.zero_le _, rfl, chg_refl B w4, HB4.out⟩
      case round =>
      obtain ⟨k, hk, rfl, hc, hbn⟩ := hrel
      have HC := Lib.hid hc
      have HBN := Lib.hid hbn
      have HGW := Lib.hid (chg_grow HG4.out hc hwB)
      clear hc hbn
      by_cases hlt : k < l.length
      · have hltz : (k : Int) < (l.length : Int) := by omega
        obtain ⟨u, hu⟩ : ∃ u, l[k]? = some u := ⟨_, List.getElem?_eq_getElem hlt⟩
        obtain ⟨b, o, rfl, hbl, y0⟩ := texts_at (show TextsAt wr _ l from (HT4.out.grow HC.out).unhide) hu
        have hee := errs_at (newB p) l k u hu
        have hus := HSL.out u (List.mem_of_getElem? hu)
        have HU := Lib.hid hu
        obtain ⟨e, he⟩ : ∃ e, (doB (dosB (newB p) (l.take k)) u).1 = e := ⟨_, rfl⟩
        have HE := Lib.hid he
        rw [he] at hee
        obtain ⟨b2, o2, rfl, hbl2, y1⟩ := ints_at (show IntsAt wr _ _ from (HE4.out.grow HC.out).unhide) hee
        have y2 : ∀ w5, Chg B wr w5 → w5.cell? ⟨b2, o2 + k, none⟩ = some (.int .i64 e) := fun w5 hc5 => by
          obtain ⟨b3, o3, e3, _, y3⟩ := ints_at (show IntsAt w5 _ _ from (HE4.out.grow (HC.out.trans hc5)).unhide) hee
          cases e3
          exact y3
        have y4 : ∀ w5, Chg B wr w5 → w5.cell? ⟨b, o + k, none⟩ = some (.string u) := fun w5 hc5 => by
          obtain ⟨b3, o3, e3, _, y3⟩ := texts_at (show TextsAt w5 _ l from (HT4.out.grow (HC.out.trans hc5)).unhide) hu
          cases e3
          exact y3
        have HY2 := Lib.hid y2
        have HY4 := Lib.hid y4
        clear hu hee he y1 y2 y4 y0
        go_wp2_with fail
        refine wp_region_held_drew (S := fun X => Chg B wr X) (by kernel_rfl) (Chg.of_grow (Grow.refl wr).drew) (fun hH => ?_)
        refine wpAnyH_take (i := 0) (v := .pointer (some ⟨B, 0, none⟩)) rfl (by kernel_rfl) (by kernel_rfl) (by kernel_rfl) (fun _ _ _ h => h) (Or.inl ⟨by rfl, ?_⟩) hH ?_
        · intro w9 hw9
          go_simp
        try simp only [List.getElem_toArray, List.getElem_cons_zero, Act.put, List.setIfInBounds_toArray, List.set_cons_zero, List.set_cons_succ]
        refine wpAnyH_take (i := 1) (v := .slice (some ⟨b, o, none⟩) l.length vc) rfl (by kernel_rfl) (by kernel_rfl) (by kernel_rfl) (fun _ _ _ h => h) (Or.inl ⟨by rfl, ?_⟩) hH ?_
        · intro w9 hw9
          go_simp
        try simp only [List.getElem_toArray, List.getElem_cons_succ, List.getElem_cons_zero, Act.put, List.setIfInBounds_toArray, List.set_cons_zero, List.set_cons_succ]
        refine wpAnyH_take (i := 2) (v := .int .i64 (k : Nat)) rfl (by kernel_rfl) (by kernel_rfl) (by kernel_rfl) (fun _ _ _ h => h) (Or.inl ⟨by rfl, ?_⟩) hH ?_
        · intro w9 hw9
          go_simp
        try simp only [List.getElem_toArray, List.getElem_cons_succ, List.getElem_cons_zero, Act.put, List.setIfInBounds_toArray, List.set_cons_zero, List.set_cons_succ]
        refine wpAnyH_take (i := 3) (v := .pointer (some ⟨b, o + k, none⟩)) rfl (by kernel_rfl) (by kernel_rfl) (by kernel_rfl) (fun _ _ _ h => h) (Or.inl ⟨by rfl, ?_⟩) hH ?_
        · intro w9 hw9
          go_simp
        try simp only [List.getElem_toArray, List.getElem_cons_succ, List.getElem_cons_zero, Act.put, List.setIfInBounds_toArray, List.set_cons_zero, List.set_cons_succ]
        refine wpAnyH_take (i := 4) (v := .string u) rfl (by kernel_rfl) (by kernel_rfl) (by kernel_rfl) (fun _ _ _ h => h) (Or.inl ⟨by rfl, ?_⟩) hH ?_
        · intro w9 hw9
          have z9 := HY4.out _ hw9
          go_simp
        try simp only [List.getElem_toArray, List.getElem_cons_succ, List.getElem_cons_zero, Act.put, List.setIfInBounds_toArray, List.set_cons_zero, List.set_cons_succ]
        refine wpAnyH_take (i := 6) (v := .slice (some ⟨b2, o2, none⟩) l.length ec) rfl (by kernel_rfl) (by kernel_rfl) (by kernel_rfl) (fun _ _ _ h => h) (Or.inl ⟨by rfl, ?_⟩) hH ?_
        · intro w9 hw9
          go_simp
        try simp only [List.getElem_toArray, List.getElem_cons_succ, List.getElem_cons_zero, Act.put, List.setIfInBounds_toArray, List.set_cons_zero, List.set_cons_succ]
        refine wpAnyH_take (i := 7) (v := .int .i64 (k : Nat)) rfl (by kernel_rfl) (by kernel_rfl) (by kernel_rfl) (fun _ _ _ h => h) (Or.inl ⟨by rfl, ?_⟩) hH ?_
        · intro w9 hw9
          go_simp
        try simp only [List.getElem_toArray, List.getElem_cons_succ, List.getElem_cons_zero, Act.put, List.setIfInBounds_toArray, List.set_cons_zero, List.set_cons_succ]
        refine wpAnyH_take (i := 8) (v := .pointer (some ⟨b2, o2 + k, none⟩)) rfl (by kernel_rfl) (by kernel_rfl) (by kernel_rfl) (fun _ _ _ h => h) (Or.inl ⟨by rfl, ?_⟩) hH ?_
        · intro w9 hw9
          go_simp
        try simp only [List.getElem_toArray, List.getElem_cons_succ, List.getElem_cons_zero, Act.put, List.setIfInBounds_toArray, List.set_cons_zero, List.set_cons_succ]
        refine wpAnyH_take (i := 9) (v := .int .i64 e) rfl (by kernel_rfl) (by kernel_rfl) (by kernel_rfl) (fun _ _ _ h => h) (Or.inl ⟨by rfl, ?_⟩) hH ?_
        · intro w9 hw9
          have z9 := HY2.out _ hw9
          go_simp
        try simp only [List.getElem_toArray, List.getElem_cons_succ, List.getElem_cons_zero, Act.put, List.setIfInBounds_toArray, List.set_cons_zero, List.set_cons_succ]
        refine wpAnyH_ready (rs := [5]) (by kernel_rfl) (by simp) ?_
        refine AllReadyH.cons rfl (fun K hK => ?_) AllReadyH.nil
        go_simp
        refine bDo_any (fun k => k == B) B u hus (dosB (newB p) (l.take k)) _ (HG.out.grow (HGW.out.trans (Grow.refl wr).drew)) (HBN.out.grow (Grow.refl wr).drew) (HN0.out.dos _) hB4 _ ?_
        intro w5 hc5 hb5
        rw [HE.out]
        have HC5 := Lib.hid (HC.out.trans ((Chg.of_grow (Grow.refl wr).drew).trans hc5))
        have HB5 := Lib.hid (show BnAt (fun k => k == B) B w5 (dosB (newB p) (l.take (k + 1))) by rw [dos_snoc HU.out]; exact hb5)
        go_wp2_with fail
        refine hK.out _ _ (hH.trans hc5) (fun hH2 => ?_)
        clear hK K hH
        have hH := hH2
        clear hH2
        try simp only [List.getElem_toArray, List.getElem_cons_succ, List.getElem_cons_zero, Act.put, List.setIfInBounds_toArray, List.set_cons_zero, List.set_cons_succ]
        clear hc5 hb5
        refine wpAnyH_take (i := 10) (v := .bool false) rfl (by kernel_rfl) (by kernel_rfl) (by kernel_rfl) (fun _ _ _ h => h) (Or.inl ⟨by rfl, ?_⟩) hH ?_
        · intro w9 hw9
          go_simp
        try simp only [List.getElem_toArray, List.getElem_cons_succ, List.getElem_cons_zero, Act.put, List.setIfInBounds_toArray, List.set_cons_zero, List.set_cons_succ]
        refine wpAnyH_done (by kernel_rfl) ?_ _
        clear hH
        go_wp2_with fail
        go_roundw
        case rel => exact ⟨k + 1, by omega, by go_num, HC5.out, HB5.out⟩
        case measure => simp [intOf]; omega
      obtain rfl : k = l.length := by omega
      have hltz : ¬ (l.length : Int) < (l.length : Int) := by omega
      have hbn := HBN.out
      rw [List.take_length] at hbn
      obtain ⟨S, hS⟩ : ∃ z, dosB (newB p) l = z := ⟨_, rfl⟩
      have hok := HN0.out.dos l
      rw [hS] at hbn hok ⊢
      have HBF := Lib.hid hbn
      have HOF := Lib.hid hok
      clear hbn HBN hok hS
      go_wp2_with fail
      refine Book_any (fun k => k == B) B S _ (HG.out.grow HGW.out) HBF.out HOF.out _ ?_
      intro w7 hg7
      have HG7 := Lib.hid (HGW.out.trans hg7)
      clear hg7
      go_wp2_with fail
      refine sane_any _ (HG.out.grow HG7.out) _ ?_
      intro ws hgs9
      have HF := Lib.hid (HR.out ws (HG7.out.trans hgs9))
      clear hgs9
      go_wp2_with fail
      exact HF.out
  have h24z : decide ((l.length : Int) > 24) = true := by rw [decide_eq_true_eq]; omega
  by_cases h80 : 80 < l.length
  · have h80z : decide ((l.length : Int) ≤ 80) = false := by rw [decide_eq_false_iff_not]; omega
    go_wp2_with fail
    refine Run_any9 p l _ _ _ (HG.out.grow HG1.out) (HP.out.grow HG1.out) (by omega) (HL.out.grow HG1.out) HSL.out _ ?_ ?_ ?_
    · intro h0 w3 hg3
      have HG3 := Lib.hid (HG1.out.trans hg3)
      have H0 := Lib.hid h0
      have h0z : (valP p == valP p) = true := by simp
      have h0y : (valP p != 0) = true := by simpa using h0
      obtain ⟨e, he⟩ : ∃ e, valP p = e := ⟨_, rfl⟩
      have HE := Lib.hid he
      rw [he] at h0z h0y ⊢
      clear hg3 he
      go_wp2_with fail
      refine Begin_any p _ _ (HP.out.grow HG3.out) (by omega) _ ?_ ?_
      · intro _ w4 hg4
        have HG4 := Lib.hid (HG3.out.trans hg4)
        clear hg4
        go_wp2_with fail
        refine rNew0_any p _ _ (HP.out.grow HG4.out) (by omega) _ ?_ ?_
        · intro _ w5 hg5
          have HG5 := Lib.hid (HG4.out.trans hg5)
          rw [HE.out]
          clear hg5
          go_wp2_with fail
          refine sane_any _ (HG.out.grow HG5.out) _ ?_
          intro ws hgs9
          have HF := Lib.hid (HR.out ws (HG5.out.trans hgs9))
          clear hgs9
          go_wp2_with fail
          exact HF.out
        · intro h9; exact absurd h9 H0.out
      · intro h9; exact absurd h9 H0.out
    · intro h0 _ w3 hg3
      have HG3 := Lib.hid (HG1.out.trans hg3)
      clear hg3
      go_wp2_with fail
      refine Begin_any p _ _ (HP.out.grow HG3.out) (by omega) _ ?_ ?_
      · intro h9; exact absurd h0 h9
      intro _ w4 B ra hg4 hB hb
      have HG4 := Lib.hid (HG3.out.trans hg4)
      have hl80z : decide ((l.length : Int) > 80) = true := by rw [decide_eq_true_eq]; omega
      clear hg4 hb hB
      go_wp2_with fail
      refine sane_any _ (HG.out.grow HG4.out) _ ?_
      intro ws hgs9
      have HF := Lib.hid (HR.out ws (HG4.out.trans hgs9))
      clear hgs9
      go_wp2_with fail
      exact HF.out
    · intro _ h9
      exfalso
      omega
  have h80z : decide ((l.length : Int) ≤ 80) = true := by rw [decide_eq_true_eq]; omega
  go_wp2_with fail
  refine few_any l _ _ (HL.out.grow HG1.out) _ ?_
  intro w2 v2 hg2 ht2 hv2
  obtain ⟨ls, hls⟩ : ∃ z, l.take 24 = z := ⟨_, rfl⟩
  have hlsz : ∀ t ∈ ls, t.size < 4294967281 := fun t ht => by
    rw [← hls] at ht
    have := HSZ.out t (List.mem_of_mem_take ht)
    omega
  have hll : ls.length ≤ 24 := by rw [← hls, List.length_take]; omega
  rw [hls] at ht2
  have HSB := Lib.hid hlsz
  have HT2 := Lib.hid ht2
  have HG2 := Lib.hid (HG1.out.trans hg2)
  obtain ⟨va2, vc2, rfl, b1, b2, jk⟩ := ht2
  clear hg2 hv2 hlsz jk hls
  go_wp2_with fail
  refine Run_any9 p ls _ _ _ (HG.out.grow HG2.out) (HP.out.grow HG2.out) (by omega) HT2.out HSB.out _ ?_ ?_ ?_
  · intro h0 w3 hg3
    have HG3 := Lib.hid (HG2.out.trans hg3)
    have H0 := Lib.hid h0
    have h0z : (valP p == valP p) = true := by simp
    have h0y : (valP p != 0) = true := by simpa using h0
    obtain ⟨e, he⟩ : ∃ e, valP p = e := ⟨_, rfl⟩
    have HE := Lib.hid he
    rw [he] at h0z h0y ⊢
    clear hg3 he
    go_wp2_with fail
    refine Begin_any p _ _ (HP.out.grow HG3.out) (by omega) _ ?_ ?_
    · intro _ w4 hg4
      have HG4 := Lib.hid (HG3.out.trans hg4)
      clear hg4
      go_wp2_with fail
      refine rNew0_any p _ _ (HP.out.grow HG4.out) (by omega) _ ?_ ?_
      · intro _ w5 hg5
        have HG5 := Lib.hid (HG4.out.trans hg5)
        rw [HE.out]
        clear hg5
        go_wp2_with fail
        refine sane_any _ (HG.out.grow HG5.out) _ ?_
        intro ws hgs9
        have HF := Lib.hid (HR.out ws (HG5.out.trans hgs9))
        clear hgs9
        go_wp2_with fail
        exact HF.out
      · intro h9; exact absurd h9 H0.out
    · intro h9; exact absurd h9 H0.out
  · intro h0 h9
    exfalso
    have h8 : ls.length ≤ 80 := by omega
    omega
  · intro h0 h80 w3 es hg3 hes
    have HG3 := Lib.hid (HG2.out.trans hg3)
    have HES := Lib.hid hes
    have HEL := Lib.hid (errs_len (newB p) ls)
    have hel := errs_len (newB p) ls
    have HLS3 := Lib.hid ((show TextsAt _ _ ls from HT2.out).grow hg3)
    obtain ⟨ea, ec, rfl, e1, e2, jk⟩ := hes
    rw [hel] at HES e1 ⊢
    clear hg3 jk hel
    go_wp2_with fail
    refine Begin_any p _ _ (HP.out.grow HG3.out) (by omega) _ ?_ ?_
    · intro h9; exact absurd h0 h9
    intro _ w4 B ra hg4 hB hb
    have HG4 := Lib.hid (HG3.out.trans hg4)
    have HB4 := Lib.hid hb
    have hwB : w.heap.size ≤ B := Nat.le_trans HG3.out.sz hB
    have HT4 := Lib.hid (HLS3.out.old hg4 hB)
    have HE4 := Lib.hid ((show SlcAt 1 encI w3 _ _ from HES.out).old hg4 hB)
    have HN0 := Lib.hid (OkB.new h0)
    have hB4 : 4 < B := by omega
    have hl80z : decide ((ls.length : Int) > 80) = false := by rw [decide_eq_false_iff_not]; omega
    clear hg4 hb hB
    go_wp2_with fail
    go_loopw [13] (fun s8 wr => ∃ k : Nat, k ≤ ls.length ∧ s8 = .int .i64 k ∧ Chg B w4 wr ∧ BnAt (fun k => k == B) B wr (dosB (newB p) (ls.take k))) (fun s8 _ => ls.length - (intOf s8).toNat)
    case atStart => exact ⟨0, Nat.zero_le _, rfl, chg_refl B w4, HB4.out⟩
    case round =>
    obtain ⟨k, hk, rfl, hc, hbn⟩ := hrel
    have HC := Lib.hid hc
    have HBN := Lib.hid hbn
    have HGW := Lib.hid (chg_grow HG4.out hc hwB)
    clear hc hbn
    by_cases hlt : k < ls.length
    · have hltz : (k : Int) < (ls.length : Int) := by omega
      obtain ⟨u, hu⟩ : ∃ u, ls[k]? = some u := ⟨_, List.getElem?_eq_getElem hlt⟩
      obtain ⟨b, o, rfl, hbl, y0⟩ := texts_at (show TextsAt wr _ ls from (HT4.out.grow HC.out).unhide) hu
      have hee := errs_at (newB p) ls k u hu
      have hus := HSB.out u (List.mem_of_getElem? hu)
      have HU := Lib.hid hu
      obtain ⟨e, he⟩ : ∃ e, (doB (dosB (newB p) (ls.take k)) u).1 = e := ⟨_, rfl⟩
      have HE := Lib.hid he
      rw [he] at hee
      obtain ⟨b2, o2, rfl, hbl2, y1⟩ := ints_at (show IntsAt wr _ _ from (HE4.out.grow HC.out).unhide) hee
      have y2 : ∀ w5, Chg B wr w5 → w5.cell? ⟨b2, o2 + k, none⟩ = some (.int .i64 e) := fun w5 hc5 => by
        obtain ⟨b3, o3, e3, _, y3⟩ := ints_at (show IntsAt w5 _ _ from (HE4.out.grow (HC.out.trans hc5)).unhide) hee
        cases e3
        exact y3
      have y4 : ∀ w5, Chg B wr w5 → w5.cell? ⟨b, o + k, none⟩ = some (.string u) := fun w5 hc5 => by
        obtain ⟨b3, o3, e3, _, y3⟩ := texts_at (show TextsAt w5 _ ls from (HT4.out.grow (HC.out.trans hc5)).unhide) hu
        cases e3
        exact y3
      have HY2 := Lib.hid y2
      have HY4 := Lib.hid y4
      clear hu hee he y1 y2 y4 y0
      go_wp2_with fail
      refine wp_region_held_drew (S := fun X => Chg B wr X) (by kernel_rfl) (Chg.of_grow (Grow.refl wr).drew) (fun hH => ?_)
      refine wpAnyH_take (i := 0) (v := .pointer (some ⟨B, 0, none⟩)) rfl (by kernel_rfl) (by kernel_rfl) (by kernel_rfl) (fun _ _ _ h => h) (Or.inl ⟨by rfl, ?_⟩) hH ?_
      · intro w9 hw9
        go_simp
      try simp only [List.getElem_toArray, List.getElem_cons_zero, Act.put, List.setIfInBounds_toArray, List.set_cons_zero, List.set_cons_succ]
      refine wpAnyH_take (i := 1) (v := .slice (some ⟨b, o, none⟩) ls.length vc2) rfl (by kernel_rfl) (by kernel_rfl) (by kernel_rfl) (fun _ _ _ h => h) (Or.inl ⟨by rfl, ?_⟩) hH ?_
      · intro w9 hw9
        go_simp
      try simp only [List.getElem_toArray, List.getElem_cons_succ, List.getElem_cons_zero, Act.put, List.setIfInBounds_toArray, List.set_cons_zero, List.set_cons_succ]
      refine wpAnyH_take (i := 2) (v := .int .i64 (k : Nat)) rfl (by kernel_rfl) (by kernel_rfl) (by kernel_rfl) (fun _ _ _ h => h) (Or.inl ⟨by rfl, ?_⟩) hH ?_
      · intro w9 hw9
        go_simp
      try simp only [List.getElem_toArray, List.getElem_cons_succ, List.getElem_cons_zero, Act.put, List.setIfInBounds_toArray, List.set_cons_zero, List.set_cons_succ]
      refine wpAnyH_take (i := 3) (v := .pointer (some ⟨b, o + k, none⟩)) rfl (by kernel_rfl) (by kernel_rfl) (by kernel_rfl) (fun _ _ _ h => h) (Or.inl ⟨by rfl, ?_⟩) hH ?_
      · intro w9 hw9
        go_simp
      try simp only [List.getElem_toArray, List.getElem_cons_succ, List.getElem_cons_zero, Act.put, List.setIfInBounds_toArray, List.set_cons_zero, List.set_cons_succ]
      refine wpAnyH_take (i := 4) (v := .string u) rfl (by kernel_rfl) (by kernel_rfl) (by kernel_rfl) (fun _ _ _ h => h) (Or.inl ⟨by rfl, ?_⟩) hH ?_
      · intro w9 hw9
        have z9 := HY4.out _ hw9
        go_simp
      try simp only [List.getElem_toArray, List.getElem_cons_succ, List.getElem_cons_zero, Act.put, List.setIfInBounds_toArray, List.set_cons_zero, List.set_cons_succ]
      refine wpAnyH_take (i := 6) (v := .slice (some ⟨b2, o2, none⟩) ls.length ec) rfl (by kernel_rfl) (by kernel_rfl) (by kernel_rfl) (fun _ _ _ h => h) (Or.inl ⟨by rfl, ?_⟩) hH ?_
      · intro w9 hw9
        go_simp
      try simp only [List.getElem_toArray, List.getElem_cons_succ, List.getElem_cons_zero, Act.put, List.setIfInBounds_toArray, List.set_cons_zero, List.set_cons_succ]
      refine wpAnyH_take (i := 7) (v := .int .i64 (k : Nat)) rfl (by kernel_rfl) (by kernel_rfl) (by kernel_rfl) (fun _ _ _ h => h) (Or.inl ⟨by rfl, ?_⟩) hH ?_
      · intro w9 hw9
        go_simp
      try simp only [List.getElem_toArray, List.getElem_cons_succ, List.getElem_cons_zero, Act.put, List.setIfInBounds_toArray, List.set_cons_zero, List.set_cons_succ]
      refine wpAnyH_take (i := 8) (v := .pointer (some ⟨b2, o2 + k, none⟩)) rfl (by kernel_rfl) (by kernel_rfl) (by kernel_rfl) (fun _ _ _ h => h) (Or.inl ⟨by rfl, ?_⟩) hH ?_
      · intro w9 hw9
        go_simp
      try simp only [List.getElem_toArray, List.getElem_cons_succ, List.getElem_cons_zero, Act.put, List.setIfInBounds_toArray, List.set_cons_zero, List.set_cons_succ]
      refine wpAnyH_take (i := 9) (v := .int .i64 e) rfl (by kernel_rfl) (by kernel_rfl) (by kernel_rfl) (fun _ _ _ h => h) (Or.inl ⟨by rfl, ?_⟩) hH ?_
      · intro w9 hw9
        have z9 := HY2.out _ hw9
        go_simp
      try simp only [List.getElem_toArray, List.getElem_cons_succ, List.getElem_cons_zero, Act.put, List.setIfInBounds_toArray, List.set_cons_zero, List.set_cons_succ]
      refine wpAnyH_ready (rs := [5]) (by kernel_rfl) (by simp) ?_
      refine AllReadyH.cons rfl (fun K hK => ?_) AllReadyH.nil
      go_simp
      refine bDo_any (fun k => k == B) B u hus (dosB (newB p) (ls.take k)) _ (HG.out.grow (HGW.out.trans (Grow.refl wr).drew)) (HBN.out.grow (Grow.refl wr).drew) (HN0.out.dos _) hB4 _ ?_
      intro w5 hc5 hb5
      rw [HE.out]
      have HC5 := Lib.hid (HC.out.trans ((Chg.of_grow (Grow.refl wr).drew).trans hc5))
      have HB5 := Lib.hid (show BnAt (fun k => k == B) B w5 (dosB (newB p) (ls.take (k + 1))) by rw [dos_snoc HU.out]; exact hb5)
      go_wp2_with fail
      refine hK.out _ _ (hH.trans hc5) (fun hH2 => ?_)
      clear hK K hH
      have hH := hH2
      clear hH2
      try simp only [List.getElem_toArray, List.getElem_cons_succ, List.getElem_cons_zero, Act.put, List.setIfInBounds_toArray, List.set_cons_zero, List.set_cons_succ]
      clear hc5 hb5
      refine wpAnyH_take (i := 10) (v := .bool false) rfl (by kernel_rfl) (by kernel_rfl) (by kernel_rfl) (fun _ _ _ h => h) (Or.inl ⟨by rfl, ?_⟩) hH ?_
      · intro w9 hw9
        go_simp
      try simp only [List.getElem_toArray, List.getElem_cons_succ, List.getElem_cons_zero, Act.put, List.setIfInBounds_toArray, List.set_cons_zero, List.set_cons_succ]
      refine wpAnyH_done (by kernel_rfl) ?_ _
      clear hH
      go_wp2_with fail
      go_roundw
      case rel => exact ⟨k + 1, by omega, by go_num, HC5.out, HB5.out⟩
      case measure => simp [intOf]; omega
    obtain rfl : k = ls.length := by omega
    have hltz : ¬ (ls.length : Int) < (ls.length : Int) := by omega
    have hbn := HBN.out
    rw [List.take_length] at hbn
    obtain ⟨S, hS⟩ : ∃ z, dosB (newB p) ls = z := ⟨_, rfl⟩
    have hok := HN0.out.dos ls
    rw [hS] at hbn hok ⊢
    have HBF := Lib.hid hbn
    have HOF := Lib.hid hok
    clear hbn HBN hok hS
    go_wp2_with fail
    refine Book_any (fun k => k == B) B S _ (HG.out.grow HGW.out) HBF.out HOF.out _ ?_
    intro w7 hg7
    have HG7 := Lib.hid (HGW.out.trans hg7)
    clear hg7
    go_wp2_with fail
    refine sane_any _ (HG.out.grow HG7.out) _ ?_
    intro ws hgs9
    have HF := Lib.hid (HR.out ws (HG7.out.trans hgs9))
    clear hgs9
    go_wp2_with fail
    exact HF.out
end Go.Proofs.YtgjppekjkofdiaaGreatDoor
