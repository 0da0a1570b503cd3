/-
The walks of the document's kills and Kills.
The walk of the document's Kills.
-/
import Derived.Test.YtbccbokjecdaaaaGreatB27
import Derived.Test.YtbccbokjecdaaaaGreatB20
import Derived.Test.YtbccbokjecdaaaaGreatB44
import Derived.Test.YtbccbokjecdaaaaGreatB16
namespace Go.Proofs.YtbccbokjecdaaaaGreat
open Go.RowKit

def brkF (p q : List Ln) (t : Tst) : Bool := passM p t && !passM q t
theorem brkM_eq (p q : List Ln) (ts : List Tst) : brkM p q ts = whereL (brkF p q) ts := by
  unfold brkM
  refine congrArg (fun f => whereL f ts) (funext fun t => ?_)
  exact Bool.and_comm _ _

set_option maxRecDepth 100000 in
set_option maxHeartbeats 16000000 in
theorem r5kills_any (p : List Ln) (ts : List Tst) (n : Nat) (op d a b : Int) (pv tv : Value) (w : World) (hp : LinesAt w pv p) (ht : TestsAt w tv ts) (hval : valP p = 0) (htv : valT ts = 0) (hn : n < p.length) (hok : vL op d a b = true) (R : Ending → World → Prop)
    (hR : ∀ w' v, Grow w w' → IntsAt w' v (brkM p (setAll p [⟨(n : Int), ⟨op, d, a, b⟩⟩]) ts) → R (.returned v) w') :
    Calls Tryz.prog 65 #[pv, tv, .agg #[.int .i64 n, .int .i64 op, .int .i64 d, .int .i64 a, .int .i64 b]] w R := by
  have HP := Lib.hid hp
  have HT := Lib.hid ht
  have HV := Lib.hid hval
  have hp8 := (valP_ok.1 hval).1
  have ht8 := (valT_ok.1 htv).1
  have HTK := Lib.hid (valT_ok.1 htv).2
  have hq : setAll p [⟨(n : Int), ⟨op, d, a, b⟩⟩] = p.set n ⟨op, d, a, b⟩ := rfl
  have HQV := Lib.hid (goodR_ok (p := p) (at_ := (n : Int)) (x := ⟨op, d, a, b⟩) hval (by omega) (by omega) hok)
  rw [brkM_eq] at hR
  rw [hq] at hR HQV
  obtain ⟨Q, hQ⟩ : ∃ Q, p.set n ⟨op, d, a, b⟩ = Q := ⟨_, rfl⟩
  rw [hQ] at hR HQV
  have HQ := Lib.hid hQ
  have HR := Lib.hid hR
  obtain ⟨pa, pc, rfl, p1, p2, _⟩ := hp
  obtain ⟨⟨ta, tc, rfl, t1, t2, _⟩, _⟩ := ht
  clear hR hval htv hok hq hQ
  have hE0 := ownsRow_empty (w.alloc (.cells #[.int .i64 (n : Int), .int .i64 op, .int .i64 d, .int .i64 a, .int .i64 b] 27)) 4 25 encL (w.heap.size + 1) (by rw [World.size_alloc]; exact Nat.le_refl _)
  rw [World.size_alloc] at hE0
  have HE0 := Lib.hid hE0
  have HB0 := Lib.hid (heap_alloc_new w (.cells #[.int .i64 (n : Int), .int .i64 op, .int .i64 d, .int .i64 a, .int .i64 b] 27))
  clear hE0
  go_enter Tryz.func65, Tryz.ntmps65
  go_wp2_with (at_builtin; refine Classical.byContradiction (fun hcon => ?_))
  refine hcon ?_
  clear hcon
  refine wpList_appAll _ rfl (.tmp 10) (.tmp 11) 22 rfl (w.heap.size + 1) 25 Tryz.underlying22 info_line rfl (by decide) (by decide) encL encL_len encL_one _ [] rfl HE0.out _ p rfl (HP.out.grow (((Grow.refl w).alloc _).alloc _)) (by simp; omega) (by simp) ?_
  intro v1 w1 hown1 hgr1
  have hg1 : Grow w w1 := grown_below HE0.out hgr1 (by omega) (by simp; omega) (((Grow.refl w).alloc _).alloc _)
  have hbx : w1.heap[w.heap.size]? = some (.cells #[.int .i64 (n : Int), .int .i64 op, .int .i64 d, .int .i64 a, .int .i64 b] 27 (0, 0)) := grown_keep HE0.out hgr1 (by omega) (((Grow.refl _).alloc _).blk HB0.out)
  simp only [List.nil_append] at hown1
  have hs1 := slc_of_owns encL_len hown1
  obtain ⟨a1, c1, rfl, q1, q2, _⟩ := hs1
  obtain ⟨g, rfl, hbg, hgl⟩ := ownS hown1 (by omega)
  obtain ⟨e0, e1, e2, e3, e4⟩ := box5 hbx
  have hzb := lt_of_block hbx
  obtain ⟨⟨o0, d0, a0, b0⟩, hl0⟩ : ∃ l, p[n]? = some l := ⟨_, List.getElem?_eq_getElem hn⟩
  obtain ⟨_, _, ee, _, k0, k1, k2, k3⟩ := lines_at (slc_of_owns encL_len hown1) hl0
  cases ee
  simp only [Nat.zero_add] at k0 k1 k2 k3
  have z0 := ownsRow_free hown1 (n * 4)
  have z1 := ownsRow_free hown1 (n * 4 + 1)
  have z2 := ownsRow_free hown1 (n * 4 + 2)
  have z3 := ownsRow_free hown1 (n * 4 + 3)
  have hs2 := owns_storeL hown1 n hn ⟨op, d, a, b⟩
  have hlq := congrArg List.length HQ.out
  rw [List.length_set] at hlq
  rw [List.length_set, HQ.out] at hs2
  have HLQ := Lib.hid hlq
  have HS2 := Lib.hid hs2
  have HG2 := Lib.hid (show Grow w (storeL w1 g (n * 4) ⟨op, d, a, b⟩) from below_storeL _ hg1 (by omega))
  have hne : w.heap.size ≠ g := by omega
  have hn2 : (n : Int) < (p.length : Int) := by omega
  clear hown1 hgr1 hs2 hl0 hbx hlq
  go_wp2_with fail
  show Code.wp _ _ _ _ (storeL w1 g (n * 4) ⟨op, d, a, b⟩)
  have hszs := size_storeL w1 g (n * 4) ⟨op, d, a, b⟩
  generalize storeL w1 g (n * 4) ⟨op, d, a, b⟩ = W2 at HS2 HG2 hszs ⊢
  have HLN := Lib.hid (show LinesAt W2 (.slice (some ⟨g, 0, none⟩) p.length c1) Q by have h := HS2.out; rw [HLQ.out] at h ⊢; exact slc_of_owns encL_len h)
  have hgW2 : w.heap.size ≤ W2.heap.size := HG2.out.sz
  clear e0 e1 e2 e3 e4 k0 k1 k2 k3 z0 z1 z2 z3 HS2 hzb
  obtain ⟨F, hF⟩ : ∃ F, brkF p Q = F := ⟨_, rfl⟩
  rw [hF] at HR
  have HF := Lib.hid (fun t : Tst => (congrFun hF t).symm)
  clear hF
  go_loopw [8, 9] (fun out i wr => ∃ k : Nat, k ≤ ts.length ∧ i = .int .i64 k ∧ Grow W2 wr ∧ wr.ownsRow W2.heap.size 3 1 out (whereN F ts k).length ((whereN F ts k).flatMap encI)) (fun _ i _ => ts.length - (intOf i).toNat)
  case atStart => exact ⟨0, Nat.zero_le _, rfl, Grow.refl _, World.ownsRow_nil _ _ _ _⟩
  case round =>
    obtain ⟨k, hk, rfl, hg, how⟩ := hrel
    have HG := Lib.hid (HG2.out.trans hg)
    have HGX := Lib.hid hg
    have HOW := Lib.hid how
    have hzw := hg.sz
    clear hg how
    by_cases hlt : k < ts.length
    · obtain ⟨⟨v, xs, o', wt⟩, ht⟩ : ∃ x, ts[k]? = some x := ⟨_, List.getElem?_eq_getElem hlt⟩
      obtain ⟨tb, to', rfl, htb, u0, u1, u2⟩ := tests_at (HT.out.at_.grow HG.out) ht
      obtain ⟨sa, sc, hv, _⟩ := HT.out.ins _ (List.mem_of_getElem? ht)
      dsimp only at hv u0 u1 u2
      subst hv
      have HTI := Lib.hid (HT.out.ins _ (List.mem_of_getElem? ht))
      have HTO := Lib.hid (HTK.out _ (List.mem_of_getElem? ht))
      have hlt2 : (k : Int) < (ts.length : Int) := by omega
      have HSN := Lib.hid (whereN_succ (f := F) ht)
      have hb1 : brkF p Q ⟨.slice sa xs.length sc, xs, o', wt⟩ = (passM p ⟨.slice sa xs.length sc, xs, o', wt⟩ && !passM Q ⟨.slice sa xs.length sc, xs, o', wt⟩) := rfl
      have hFt := HF.out ⟨.slice sa xs.length sc, xs, o', wt⟩
      rw [hb1] at hFt
      have HLB := Lib.hid (show (whereN F ts k).length < 100000000000 by have := whereN_len F ts k; omega)
      obtain ⟨c1', h1⟩ : ∃ z, passM p ⟨.slice sa xs.length sc, xs, o', wt⟩ = z := ⟨_, rfl⟩
      obtain ⟨c2', h2⟩ : ∃ z, passM Q ⟨.slice sa xs.length sc, xs, o', wt⟩ = z := ⟨_, rfl⟩
      rw [h1, h2] at hFt
      have HFT := Lib.hid hFt
      have H1 := Lib.hid h1
      have H2 := Lib.hid h2
      clear ht hb1 hFt h1 h2
      go_wp2_with fail
      refine r4Passes_any p ⟨.slice sa xs.length sc, xs, o', wt⟩ _ _ (HP.out.grow HG.out) (HTI.out.grow HG.out) HV.out HTO.out _ ?_
      intro w3 hg3
      rw [H1.out]
      have n0 := hg3.cell u0
      have n1 := hg3.cell u1
      have n2 := hg3.cell u2
      have htb3 : tb < w3.heap.size := Nat.lt_of_lt_of_le htb hg3.sz
      have HG3 := Lib.hid (HGX.out.trans hg3)
      have HO3 := Lib.hid (hg3.owns HOW.out)
      clear hg3 u0 u1 u2 HOW
      cases c1' with
      | false =>
        go_wp2_with fail
        go_roundw
        case rel => exact ⟨k + 1, by omega, by go_num, HG3.out, by rw [HSN.out, HFT.out, Bool.false_and, if_neg (by decide), List.append_nil]; exact HO3.out⟩
        case measure => simp [intOf]; omega
      | true =>
        go_wp2_with fail
        refine r4Passes_any Q ⟨.slice sa xs.length sc, xs, o', wt⟩ _ _ (HLN.out.grow HG3.out) (HTI.out.grow (HG2.out.trans HG3.out)) HQV.out HTO.out _ ?_
        intro w4 hg4
        rw [H2.out]
        have HG4 := Lib.hid (HG3.out.trans hg4)
        have HO4 := Lib.hid (hg4.owns HO3.out)
        have hz4 := (HG3.out.trans hg4).sz
        clear hg4 n0 n1 n2 HO3
        cases c2' with
        | true =>
          go_wp2_with fail
          go_roundw
          case rel => exact ⟨k + 1, by omega, by go_num, HG4.out, by rw [HSN.out, HFT.out, Bool.not_true, Bool.and_false, if_neg (by decide), List.append_nil]; exact HO4.out⟩
          case measure => simp [intOf]; omega
        | false =>
          go_wp2_with (at_builtin; refine wpList_app _ rfl (.tmp 40) (.tmp 42) 35 rfl W2.heap.size 3 Tryz.underlying35 info_int rfl (by decide) (by decide) encI encI_len encI_one _ (whereN F ts k) rfl (((Grow.refl w4).alloc _).owns HO4.out) _ (k : Int) 1 rfl (newsG _ _ (by simp) (encI (k : Int)) _) HLB.out (by simp; omega) ?_; intro out2 w5 hown5 hgr5)
          have HG5 := Lib.hid (show Grow W2 w5 from grown_below HO4.out hgr5 (Nat.le_refl _) (by simp; omega) (HG4.out.alloc _))
          have HO5 := Lib.hid hown5
          clear hown5 hgr5
          go_roundw
          case rel => exact ⟨k + 1, by omega, by go_num, HG5.out, by rw [HSN.out, HFT.out, Bool.not_false, Bool.and_true, if_pos rfl]; exact HO5.out⟩
          case measure => simp [intOf]; omega
    · have hkn : k = ts.length := by omega
      have HO2 := HOW.out
      rw [hkn, whereN_all] at HO2
      have HF2 := Lib.hid (HR.out _ _ HG.out (slc_of_owns encI_len HO2))
      clear HO2 hkn
      go_wp2_with fail
      exact HF2.out
end Go.Proofs.YtbccbokjecdaaaaGreat

namespace Go.Proofs.YtbccbokjecdaaaaGreat
open Go.RowKit

theorem tmpl_contains {l x : Ln} (hl : l.ok = true) : (tmpl l).contains x = (x.ok && rnearB l x) := by
  rw [Bool.eq_iff_iff, List.contains_iff_mem, tmpl_filter hl, List.mem_filter, mem_allR, Bool.and_eq_true]

set_option maxRecDepth 100000 in
set_option maxHeartbeats 16000000 in
theorem r5Kills_any (p : List Ln) (ts : List Tst) (t op d a b : Int) (pv tv : Value) (w : World) (hp : LinesAt w pv p) (ht : TestsAt w tv ts) (R : Ending → World → Prop)
    (hR : ∀ w' v, Grow w w' → IntsAt w' v (kilO p ts ⟨t, ⟨op, d, a, b⟩⟩) → R (.returned (.tuple #[v, .int .i64 (kilE p ts ⟨t, ⟨op, d, a, b⟩⟩)])) w') :
    Calls Tryz.prog 19 #[pv, tv, .agg #[.int .i64 t, .int .i64 op, .int .i64 d, .int .i64 a, .int .i64 b]] w R := by
  have HP := Lib.hid hp
  have HT := Lib.hid ht
  have ho : kilO p ts ⟨t, ⟨op, d, a, b⟩⟩ = ifOK (kilE p ts ⟨t, ⟨op, d, a, b⟩⟩) (brkM p (setAll p [⟨t, ⟨op, d, a, b⟩⟩]) ts) := rfl
  have hk : kilE p ts ⟨t, ⟨op, d, a, b⟩⟩ = if chkT p ts = 0 then (if inB t 0 ((p.length : Int) - 1) then (if (tmpl (lineAt p t)).contains ⟨op, d, a, b⟩ then 0 else 1) else 4) else chkT p ts := rfl
  rw [ho] at hR
  obtain ⟨e, he⟩ : ∃ e, chkT p ts = e := ⟨_, rfl⟩
  obtain ⟨ke, hke⟩ : ∃ z, kilE p ts ⟨t, ⟨op, d, a, b⟩⟩ = z := ⟨_, rfl⟩
  rw [hke] at hR hk
  rw [he] at hk
  have hok := fun h : e = 0 => chkT_ok.1 (he.trans h)
  have HR := Lib.hid hR
  have HE := Lib.hid he
  obtain ⟨pa, pc, rfl, p1, p2, _⟩ := hp
  obtain ⟨⟨ta, tc, rfl, _⟩, _⟩ := ht
  have HB := Lib.hid (heap_alloc_new w (.cells #[.int .i64 t, .int .i64 op, .int .i64 d, .int .i64 a, .int .i64 b] 27))
  have HG := Lib.hid ((Grow.refl w).alloc (.cells #[.int .i64 t, .int .i64 op, .int .i64 d, .int .i64 a, .int .i64 b] 27))
  clear hR ho he hke
  by_cases z1 : e = 0
  rotate_left
  · rw [if_neg z1] at hk
    subst hk
    rw [ifOK_err z1] at HR
    have t1 : (ke != 0) = true := by simpa using z1
    clear hok z1
    go_enter Tryz.func19, Tryz.ntmps19
    go_wp2_with fail
    refine r5tested_any p ts _ _ _ (HP.out.grow HG.out) (HT.out.grow HG.out) _ ?_
    intro w1 hg1
    rw [HE.out]
    have HB1 := Lib.hid (hg1.blk HB.out)
    have HG1 := Lib.hid (HG.out.trans hg1)
    clear hg1
    obtain ⟨e0, e1, e2, e3, e4⟩ := box5 HB1.out
    have hz := lt_of_block HB1.out
    go_wp2_with fail
    exact HR.out w1 _ HG1.out (SlcAt.nil _ _ _)
  obtain ⟨hv, hvt⟩ := hok z1
  subst z1
  rw [if_pos rfl] at hk
  clear hok
  by_cases zz : t < 0
  · rw [inB_false.2 (by omega), if_neg (by decide)] at hk
    subst hk
    rw [ifOK_err (by decide)] at HR
    clear hv hvt
    go_enter Tryz.func19, Tryz.ntmps19
    go_wp2_with fail
    refine r5tested_any p ts _ _ _ (HP.out.grow HG.out) (HT.out.grow HG.out) _ ?_
    intro w1 hg1
    rw [HE.out]
    have HB1 := Lib.hid (hg1.blk HB.out)
    have HG1 := Lib.hid (HG.out.trans hg1)
    clear hg1
    obtain ⟨e0, e1, e2, e3, e4⟩ := box5 HB1.out
    have hz := lt_of_block HB1.out
    go_wp2_with fail
    exact HR.out w1 _ HG1.out (SlcAt.nil _ _ _)
  have yt := zz
  clear zz
  by_cases zz : (p.length : Int) ≤ t
  · rw [inB_false.2 (by omega), if_neg (by decide)] at hk
    subst hk
    rw [ifOK_err (by decide)] at HR
    clear hv hvt
    go_enter Tryz.func19, Tryz.ntmps19
    go_wp2_with fail
    refine r5tested_any p ts _ _ _ (HP.out.grow HG.out) (HT.out.grow HG.out) _ ?_
    intro w1 hg1
    rw [HE.out]
    have HB1 := Lib.hid (hg1.blk HB.out)
    have HG1 := Lib.hid (HG.out.trans hg1)
    clear hg1
    obtain ⟨e0, e1, e2, e3, e4⟩ := box5 HB1.out
    have hz := lt_of_block HB1.out
    have zz2 : t ≥ (p.length : Int) := zz
    go_wp2_with fail
    exact HR.out w1 _ HG1.out (SlcAt.nil _ _ _)
  have yp := zz
  clear zz
  rw [inB_true.2 (by omega), if_pos rfl] at hk
  obtain ⟨n, rfl⟩ : ∃ n : Nat, t = n := ⟨t.toNat, by omega⟩
  have hnp : n < p.length := by omega
  have hnp2 : (n : Int) < (p.length : Int) := by omega
  have hnp3 : ¬ (n : Int) < 0 := by omega
  have hnp4 : ¬ (n : Int) ≥ (p.length : Int) := by omega
  obtain ⟨⟨o1, d1, a1, b1⟩, hl⟩ : ∃ l, p[n]? = some l := ⟨_, List.getElem?_eq_getElem hnp⟩
  have hla : lineAt p (n : Int) = ⟨o1, d1, a1, b1⟩ := by unfold lineAt; rw [show ((n : Int)).toNat = n by omega, hl]; rfl
  have hlok : vL o1 d1 a1 b1 = true := (valP_ok.1 hv).2 _ (List.mem_of_getElem? hl)
  rw [hla, tmpl_contains (l := ⟨o1, d1, a1, b1⟩) (x := ⟨op, d, a, b⟩) hlok] at hk
  have HOK := Lib.hid hlok
  have HL := Lib.hid hl
  have HV := Lib.hid hv
  have HVT := Lib.hid hvt
  clear hv hvt hl hla hlok yt yp
  have hvl : (⟨op, d, a, b⟩ : Ln).ok = vL op d a b := rfl
  rw [hvl] at hk
  clear hvl
  cases hvm : vL op d a b with
  | false =>
    rw [hvm, Bool.false_and, if_neg (by decide)] at hk
    subst hk
    rw [ifOK_err (by decide)] at HR
    have HVL := Lib.hid (show errB (vL op d a b) = 1 by rw [hvm]; rfl)
    clear hvm
    go_enter Tryz.func19, Tryz.ntmps19
    go_wp2_with fail
    refine r5tested_any p ts _ _ _ (HP.out.grow HG.out) (HT.out.grow HG.out) _ ?_
    intro w1 hg1
    rw [HE.out]
    have HB1 := Lib.hid (hg1.blk HB.out)
    have HG1 := Lib.hid (HG.out.trans hg1)
    clear hg1
    obtain ⟨e0, e1, e2, e3, e4⟩ := box5 HB1.out
    have hz := lt_of_block HB1.out
    go_wp2_with fail
    obtain ⟨g, o, rfl, hgp, y0, y1, y2, y3⟩ := lines_at (HP.out.grow HG1.out) HL.out
    refine wp_region_held_drew (S := fun X => X.cell? ⟨w.heap.size, 0, none⟩ = some (.int .i64 (n : Int)) ∧ X.cell? ⟨w.heap.size, 1, none⟩ = some (.int .i64 op) ∧ X.cell? ⟨w.heap.size, 2, none⟩ = some (.int .i64 d) ∧ X.cell? ⟨w.heap.size, 3, none⟩ = some (.int .i64 a) ∧ X.cell? ⟨w.heap.size, 4, none⟩ = some (.int .i64 b) ∧ X.cell? ⟨g, o + n * 4, none⟩ = some (.int .i64 o1) ∧ X.cell? ⟨g, o + n * 4 + 1, none⟩ = some (.int .i64 d1) ∧ X.cell? ⟨g, o + n * 4 + 2, none⟩ = some (.int .i64 a1) ∧ X.cell? ⟨g, o + n * 4 + 3, none⟩ = some (.int .i64 b1) ∧ Grow w1 X) (by kernel_rfl) ⟨e0, e1, e2, e3, e4, y0, y1, y2, y3, (Grow.refl w1).drew⟩ (fun hH => ?_)
    refine wpAnyH_take (i := 0) (v := .pointer (some ⟨w.heap.size, 1, none⟩)) rfl (by kernel_rfl) (by kernel_rfl) (by kernel_rfl) (fun _ _ _ h => h) (Or.inl ⟨by rfl, ?_⟩) hH ?_
    · intro w9 hw9
      obtain ⟨v0, v1, v2, v3, v4, v5, v6, v7, v8, vg⟩ := hw9
      go_simp
    simp only [List.getElem_toArray, List.getElem_cons_zero, Act.put, List.setIfInBounds_toArray, List.set_cons_zero, List.set_cons_succ]
    refine wpAnyH_take (i := 1) (v := .agg #[.int .i64 op, .int .i64 d, .int .i64 a, .int .i64 b]) rfl (by kernel_rfl) (by kernel_rfl) (by kernel_rfl) (fun _ _ _ h => h) (Or.inl ⟨by rfl, ?_⟩) hH ?_
    · intro w9 hw9
      obtain ⟨v0, v1, v2, v3, v4, v5, v6, v7, v8, vg⟩ := hw9
      go_simp
    simp only [List.getElem_toArray, List.getElem_cons_succ, List.getElem_cons_zero, Act.put, List.setIfInBounds_toArray, List.set_cons_zero, List.set_cons_succ]
    refine wpAnyH_ready (rs := [2]) (by kernel_rfl) (by simp) ?_
    refine AllReadyH.cons rfl (fun K hK => ?_) AllReadyH.nil
    go_simp
    refine rValidateLine_any op d a b _ _ ?_
    intro w8 hg8
    rw [HVL.out]
    go_wp2_with fail
    refine hK.out _ _ (keep9 hg8 hH) (fun hH2 => ?_)
    clear hK K hH
    have hH := hH2
    clear hH2
    refine wpAnyH_take (i := 3) (v := .bool true) rfl (by kernel_rfl) (by kernel_rfl) (by kernel_rfl) (fun _ _ _ h => h) (Or.inl ⟨by rfl, ?_⟩) hH ?_
    · intro w9 hw9
      obtain ⟨v0, v1, v2, v3, v4, v5, v6, v7, v8, vg⟩ := hw9
      go_simp
    simp only [List.getElem_toArray, List.getElem_cons_succ, List.getElem_cons_zero, Act.put, List.setIfInBounds_toArray, List.set_cons_zero, List.set_cons_succ]
    refine wpAnyH_take (i := 4) (v := .bool true) rfl (by kernel_rfl) (by kernel_rfl) (by kernel_rfl) (fun _ _ _ h => h) (Or.inl ⟨by rfl, ?_⟩) hH ?_
    · intro w9 hw9
      obtain ⟨v0, v1, v2, v3, v4, v5, v6, v7, v8, vg⟩ := hw9
      go_simp
    simp only [List.getElem_toArray, List.getElem_cons_succ, List.getElem_cons_zero, Act.put, List.setIfInBounds_toArray, List.set_cons_zero, List.set_cons_succ]
    refine wpAnyH_take (i := 5) (v := undef) rfl (by kernel_rfl) (by kernel_rfl) (by kernel_rfl) (fun _ _ _ h => h) (Or.inr ⟨by rfl, rfl⟩) hH ?_
    simp only [List.getElem_toArray, List.getElem_cons_succ, List.getElem_cons_zero, Act.put, List.setIfInBounds_toArray, List.set_cons_zero, List.set_cons_succ]
    refine wpAnyH_take (i := 6) (v := undef) rfl (by kernel_rfl) (by kernel_rfl) (by kernel_rfl) (fun _ _ _ h => h) (Or.inr ⟨by rfl, rfl⟩) hH ?_
    simp only [List.getElem_toArray, List.getElem_cons_succ, List.getElem_cons_zero, Act.put, List.setIfInBounds_toArray, List.set_cons_zero, List.set_cons_succ]
    refine wpAnyH_take (i := 7) (v := undef) rfl (by kernel_rfl) (by kernel_rfl) (by kernel_rfl) (fun _ _ _ h => h) (Or.inr ⟨by rfl, rfl⟩) hH ?_
    simp only [List.getElem_toArray, List.getElem_cons_succ, List.getElem_cons_zero, Act.put, List.setIfInBounds_toArray, List.set_cons_zero, List.set_cons_succ]
    refine wpAnyH_take (i := 8) (v := undef) rfl (by kernel_rfl) (by kernel_rfl) (by kernel_rfl) (fun _ _ _ h => h) (Or.inr ⟨by rfl, rfl⟩) hH ?_
    simp only [List.getElem_toArray, List.getElem_cons_succ, List.getElem_cons_zero, Act.put, List.setIfInBounds_toArray, List.set_cons_zero, List.set_cons_succ]
    refine wpAnyH_take (i := 9) (v := undef) rfl (by kernel_rfl) (by kernel_rfl) (by kernel_rfl) (fun _ _ _ h => h) (Or.inr ⟨by rfl, rfl⟩) hH ?_
    simp only [List.getElem_toArray, List.getElem_cons_succ, List.getElem_cons_zero, Act.put, List.setIfInBounds_toArray, List.set_cons_zero, List.set_cons_succ]
    refine wpAnyH_take (i := 10) (v := undef) rfl (by kernel_rfl) (by kernel_rfl) (by kernel_rfl) (fun _ _ _ h => h) (Or.inr ⟨by rfl, rfl⟩) hH ?_
    simp only [List.getElem_toArray, List.getElem_cons_succ, List.getElem_cons_zero, Act.put, List.setIfInBounds_toArray, List.set_cons_zero, List.set_cons_succ]
    refine wpAnyH_take (i := 11) (v := undef) rfl (by kernel_rfl) (by kernel_rfl) (by kernel_rfl) (fun _ _ _ h => h) (Or.inr ⟨by rfl, rfl⟩) hH ?_
    simp only [List.getElem_toArray, List.getElem_cons_succ, List.getElem_cons_zero, Act.put, List.setIfInBounds_toArray, List.set_cons_zero, List.set_cons_succ]
    refine wpAnyH_take (i := 12) (v := undef) rfl (by kernel_rfl) (by kernel_rfl) (by kernel_rfl) (fun _ _ _ h => h) (Or.inr ⟨by rfl, rfl⟩) hH ?_
    simp only [List.getElem_toArray, List.getElem_cons_succ, List.getElem_cons_zero, Act.put, List.setIfInBounds_toArray, List.set_cons_zero, List.set_cons_succ]
    refine wpAnyH_take (i := 13) (v := undef) rfl (by kernel_rfl) (by kernel_rfl) (by kernel_rfl) (fun _ _ _ h => h) (Or.inr ⟨by rfl, rfl⟩) hH ?_
    simp only [List.getElem_toArray, List.getElem_cons_succ, List.getElem_cons_zero, Act.put, List.setIfInBounds_toArray, List.set_cons_zero, List.set_cons_succ]
    refine wpAnyH_take (i := 14) (v := .bool true) rfl (by kernel_rfl) (by kernel_rfl) (by kernel_rfl) (fun _ _ _ h => h) (Or.inl ⟨by rfl, ?_⟩) hH ?_
    · intro w9 hw9
      obtain ⟨v0, v1, v2, v3, v4, v5, v6, v7, v8, vg⟩ := hw9
      go_simp
    simp only [List.getElem_toArray, List.getElem_cons_succ, List.getElem_cons_zero, Act.put, List.setIfInBounds_toArray, List.set_cons_zero, List.set_cons_succ]
    refine wpAnyH_done (by kernel_rfl) ?_ _
    obtain ⟨f0, f1, f2, f3, f4, _, _, _, _, hgw⟩ := hH
    have HG7 := Lib.hid (HG1.out.trans hgw)
    clear hgw hg8 e0 e1 e2 e3 e4 y0 y1 y2 y3 hz
    go_wp2_with fail
    exact HR.out _ _ HG7.out (SlcAt.nil _ _ _)
  | true =>
    rw [hvm, Bool.true_and] at hk
    have HVL := Lib.hid (show errB (vL op d a b) = 0 by rw [hvm]; rfl)
    have HVO := Lib.hid hvm
    obtain ⟨c, hc⟩ : ∃ c, rnearB ⟨o1, d1, a1, b1⟩ ⟨op, d, a, b⟩ = c := ⟨_, rfl⟩
    rw [hc] at hk
    have HC := Lib.hid hc
    clear hvm hc
    go_enter Tryz.func19, Tryz.ntmps19
    go_wp2_with fail
    refine r5tested_any p ts _ _ _ (HP.out.grow HG.out) (HT.out.grow HG.out) _ ?_
    intro w1 hg1
    rw [HE.out]
    have HB1 := Lib.hid (hg1.blk HB.out)
    have HG1 := Lib.hid (HG.out.trans hg1)
    clear hg1
    obtain ⟨e0, e1, e2, e3, e4⟩ := box5 HB1.out
    have hz := lt_of_block HB1.out
    go_wp2_with fail
    obtain ⟨g, o, rfl, hgp, y0, y1, y2, y3⟩ := lines_at (HP.out.grow HG1.out) HL.out
    refine wp_region_held_drew (S := fun X => X.cell? ⟨w.heap.size, 0, none⟩ = some (.int .i64 (n : Int)) ∧ X.cell? ⟨w.heap.size, 1, none⟩ = some (.int .i64 op) ∧ X.cell? ⟨w.heap.size, 2, none⟩ = some (.int .i64 d) ∧ X.cell? ⟨w.heap.size, 3, none⟩ = some (.int .i64 a) ∧ X.cell? ⟨w.heap.size, 4, none⟩ = some (.int .i64 b) ∧ X.cell? ⟨g, o + n * 4, none⟩ = some (.int .i64 o1) ∧ X.cell? ⟨g, o + n * 4 + 1, none⟩ = some (.int .i64 d1) ∧ X.cell? ⟨g, o + n * 4 + 2, none⟩ = some (.int .i64 a1) ∧ X.cell? ⟨g, o + n * 4 + 3, none⟩ = some (.int .i64 b1) ∧ Grow w1 X) (by kernel_rfl) ⟨e0, e1, e2, e3, e4, y0, y1, y2, y3, (Grow.refl w1).drew⟩ (fun hH => ?_)
    refine wpAnyH_take (i := 0) (v := .pointer (some ⟨w.heap.size, 1, none⟩)) rfl (by kernel_rfl) (by kernel_rfl) (by kernel_rfl) (fun _ _ _ h => h) (Or.inl ⟨by rfl, ?_⟩) hH ?_
    · intro w9 hw9
      obtain ⟨v0, v1, v2, v3, v4, v5, v6, v7, v8, vg⟩ := hw9
      go_simp
    simp only [List.getElem_toArray, List.getElem_cons_zero, Act.put, List.setIfInBounds_toArray, List.set_cons_zero, List.set_cons_succ]
    refine wpAnyH_take (i := 1) (v := .agg #[.int .i64 op, .int .i64 d, .int .i64 a, .int .i64 b]) rfl (by kernel_rfl) (by kernel_rfl) (by kernel_rfl) (fun _ _ _ h => h) (Or.inl ⟨by rfl, ?_⟩) hH ?_
    · intro w9 hw9
      obtain ⟨v0, v1, v2, v3, v4, v5, v6, v7, v8, vg⟩ := hw9
      go_simp
    simp only [List.getElem_toArray, List.getElem_cons_succ, List.getElem_cons_zero, Act.put, List.setIfInBounds_toArray, List.set_cons_zero, List.set_cons_succ]
    refine wpAnyH_ready (rs := [2]) (by kernel_rfl) (by simp) ?_
    refine AllReadyH.cons rfl (fun K hK => ?_) AllReadyH.nil
    go_simp
    refine rValidateLine_any op d a b _ _ ?_
    intro w8 hg8
    rw [HVL.out]
    go_wp2_with fail
    refine hK.out _ _ (keep9 hg8 hH) (fun hH2 => ?_)
    clear hK K hH
    have hH := hH2
    clear hH2
    refine wpAnyH_take (i := 3) (v := .bool false) rfl (by kernel_rfl) (by kernel_rfl) (by kernel_rfl) (fun _ _ _ h => h) (Or.inl ⟨by rfl, ?_⟩) hH ?_
    · intro w9 hw9
      obtain ⟨v0, v1, v2, v3, v4, v5, v6, v7, v8, vg⟩ := hw9
      go_simp
    simp only [List.getElem_toArray, List.getElem_cons_succ, List.getElem_cons_zero, Act.put, List.setIfInBounds_toArray, List.set_cons_zero, List.set_cons_succ]
    refine wpAnyH_take (i := 4) (v := .bool false) rfl (by kernel_rfl) (by kernel_rfl) (by kernel_rfl) (fun _ _ _ h => h) (Or.inl ⟨by rfl, ?_⟩) hH ?_
    · intro w9 hw9
      obtain ⟨v0, v1, v2, v3, v4, v5, v6, v7, v8, vg⟩ := hw9
      go_simp
    simp only [List.getElem_toArray, List.getElem_cons_succ, List.getElem_cons_zero, Act.put, List.setIfInBounds_toArray, List.set_cons_zero, List.set_cons_succ]
    refine wpAnyH_take (i := 5) (v := .slice (some ⟨g, o, none⟩) p.length pc) rfl (by kernel_rfl) (by kernel_rfl) (by kernel_rfl) (fun _ _ _ h => h) (Or.inl ⟨by rfl, ?_⟩) hH ?_
    · intro w9 hw9
      obtain ⟨v0, v1, v2, v3, v4, v5, v6, v7, v8, vg⟩ := hw9
      go_simp
    simp only [List.getElem_toArray, List.getElem_cons_succ, List.getElem_cons_zero, Act.put, List.setIfInBounds_toArray, List.set_cons_zero, List.set_cons_succ]
    refine wpAnyH_take (i := 6) (v := .pointer (some ⟨w.heap.size, 0, none⟩)) rfl (by kernel_rfl) (by kernel_rfl) (by kernel_rfl) (fun _ _ _ h => h) (Or.inl ⟨by rfl, ?_⟩) hH ?_
    · intro w9 hw9
      obtain ⟨v0, v1, v2, v3, v4, v5, v6, v7, v8, vg⟩ := hw9
      go_simp
    simp only [List.getElem_toArray, List.getElem_cons_succ, List.getElem_cons_zero, Act.put, List.setIfInBounds_toArray, List.set_cons_zero, List.set_cons_succ]
    refine wpAnyH_take (i := 7) (v := .int .i64 n) rfl (by kernel_rfl) (by kernel_rfl) (by kernel_rfl) (fun _ _ _ h => h) (Or.inl ⟨by rfl, ?_⟩) hH ?_
    · intro w9 hw9
      obtain ⟨v0, v1, v2, v3, v4, v5, v6, v7, v8, vg⟩ := hw9
      go_simp
    simp only [List.getElem_toArray, List.getElem_cons_succ, List.getElem_cons_zero, Act.put, List.setIfInBounds_toArray, List.set_cons_zero, List.set_cons_succ]
    refine wpAnyH_take (i := 8) (v := .pointer (some ⟨g, o + n * 4, none⟩)) rfl (by kernel_rfl) (by kernel_rfl) (by kernel_rfl) (fun _ _ _ h => h) (Or.inl ⟨by rfl, ?_⟩) hH ?_
    · intro w9 hw9
      obtain ⟨v0, v1, v2, v3, v4, v5, v6, v7, v8, vg⟩ := hw9
      go_simp
    simp only [List.getElem_toArray, List.getElem_cons_succ, List.getElem_cons_zero, Act.put, List.setIfInBounds_toArray, List.set_cons_zero, List.set_cons_succ]
    refine wpAnyH_take (i := 9) (v := .agg #[.int .i64 o1, .int .i64 d1, .int .i64 a1, .int .i64 b1]) rfl (by kernel_rfl) (by kernel_rfl) (by kernel_rfl) (fun _ _ _ h => h) (Or.inl ⟨by rfl, ?_⟩) hH ?_
    · intro w9 hw9
      obtain ⟨v0, v1, v2, v3, v4, v5, v6, v7, v8, vg⟩ := hw9
      go_simp
    simp only [List.getElem_toArray, List.getElem_cons_succ, List.getElem_cons_zero, Act.put, List.setIfInBounds_toArray, List.set_cons_zero, List.set_cons_succ]
    refine wpAnyH_take (i := 10) (v := .pointer (some ⟨w.heap.size, 1, none⟩)) rfl (by kernel_rfl) (by kernel_rfl) (by kernel_rfl) (fun _ _ _ h => h) (Or.inl ⟨by rfl, ?_⟩) hH ?_
    · intro w9 hw9
      obtain ⟨v0, v1, v2, v3, v4, v5, v6, v7, v8, vg⟩ := hw9
      go_simp
    simp only [List.getElem_toArray, List.getElem_cons_succ, List.getElem_cons_zero, Act.put, List.setIfInBounds_toArray, List.set_cons_zero, List.set_cons_succ]
    refine wpAnyH_take (i := 11) (v := .agg #[.int .i64 op, .int .i64 d, .int .i64 a, .int .i64 b]) rfl (by kernel_rfl) (by kernel_rfl) (by kernel_rfl) (fun _ _ _ h => h) (Or.inl ⟨by rfl, ?_⟩) hH ?_
    · intro w9 hw9
      obtain ⟨v0, v1, v2, v3, v4, v5, v6, v7, v8, vg⟩ := hw9
      go_simp
    simp only [List.getElem_toArray, List.getElem_cons_succ, List.getElem_cons_zero, Act.put, List.setIfInBounds_toArray, List.set_cons_zero, List.set_cons_succ]
    refine wpAnyH_ready (rs := [12]) (by kernel_rfl) (by simp) ?_
    refine AllReadyH.cons rfl (fun K hK => ?_) AllReadyH.nil
    go_simp
    refine rnear_any o1 d1 a1 b1 op d a b _ HOK.out HVO.out _ ?_
    intro w7 hg7
    rw [HC.out]
    go_wp2_with fail
    refine hK.out _ _ (keep9 hg7 hH) (fun hH2 => ?_)
    clear hK K hH
    have hH := hH2
    clear hH2
    refine wpAnyH_take (i := 13) (v := .bool (!c)) rfl (by kernel_rfl) (by kernel_rfl) (by kernel_rfl) (fun _ _ _ h => h) (Or.inl ⟨by rfl, ?_⟩) hH ?_
    · intro w9 hw9
      obtain ⟨v0, v1, v2, v3, v4, v5, v6, v7, v8, vg⟩ := hw9
      go_simp
    simp only [List.getElem_toArray, List.getElem_cons_succ, List.getElem_cons_zero, Act.put, List.setIfInBounds_toArray, List.set_cons_zero, List.set_cons_succ]
    refine wpAnyH_take (i := 14) (v := .bool (!c)) rfl (by kernel_rfl) (by kernel_rfl) (by kernel_rfl) (fun _ _ _ h => h) (Or.inl ⟨by rfl, ?_⟩) hH ?_
    · intro w9 hw9
      obtain ⟨v0, v1, v2, v3, v4, v5, v6, v7, v8, vg⟩ := hw9
      go_simp
    simp only [List.getElem_toArray, List.getElem_cons_succ, List.getElem_cons_zero, Act.put, List.setIfInBounds_toArray, List.set_cons_zero, List.set_cons_succ]
    refine wpAnyH_done (by kernel_rfl) ?_ _
    obtain ⟨f0, f1, f2, f3, f4, _, _, _, _, hgw⟩ := hH
    have hz7 : w.heap.size < w7.heap.size := Nat.lt_of_lt_of_le hz hgw.sz
    have HG7 := Lib.hid (HG1.out.trans hgw)
    clear hgw hg7 hg8 e0 e1 e2 e3 e4 y0 y1 y2 y3 hz
    cases c with
    | false =>
      rw [if_neg (by decide)] at hk
      subst hk
      rw [ifOK_err (by decide)] at HR
      go_wp2_with fail
      exact HR.out w7 _ HG7.out (SlcAt.nil _ _ _)
    | true =>
      rw [if_pos rfl] at hk
      subst hk
      rw [ifOK_ok] at HR
      go_wp2_with fail
      refine r5kills_any p ts n op d a b _ _ _ (HP.out.grow HG7.out) (HT.out.grow HG7.out) HV.out HVT.out hnp HVO.out _ ?_
      intro w6 v6 hg6 hv6
      have HF := Lib.hid (HR.out w6 v6 (HG7.out.trans hg6) hv6)
      clear hg6 hv6
      go_wp2_with fail
      exact HF.out
end Go.Proofs.YtbccbokjecdaaaaGreat
