/-
The walks of package blame: by which numbers a test passes.
The walks of package blame: CanPass, CheckPass and IsToBlame.
The walks of package blame: which sets of lines are to blame.
-/
import Derived.Test.YtmlbgfnddgbpbaaGreatD11
import Derived.Test.YtmlbgfnddgbpbaaGreatD03
import Derived.StillTailTactics
import Derived.Deep.RegionHeld3
import Derived.Deep.RegionWith
namespace Go.Proofs.YtmlbgfnddgbpbaaGreat
open Go.RowKit
open Mk Bm

theorem canN_mono {p : List Ln} {t : Tst} {lines vs ys : List Int} {k n : Nat} : ∀ d : Nat, n + d ≤ 25 → canN p t lines vs k n = some ys → canN p t lines vs k (n + d) = some ys
  | 0, _, h => h
  | d + 1, hd, h => by
    rw [show n + (d + 1) = (n + d) + 1 by omega, canN_succ (by omega), canN_mono d (by omega) h]; rfl
theorem canN_found {p : List Ln} {t : Tst} {lines vs ys : List Int} {k n : Nat} (hn : n < 25) (h0 : canN p t lines vs k n = none) (h : canX p t lines (vs ++ [(n : Int) - 12]) k = some ys) : canX p t lines vs (k + 1) = some ys := by
  rw [← canN_all]
  have h1 : canN p t lines vs k (n + 1) = some ys := by rw [canN_succ hn, h0, h]; rfl
  have := canN_mono (24 - n) (by omega) h1
  rwa [show n + 1 + (24 - n) = 25 by omega] at this
theorem canN_next {p : List Ln} {t : Tst} {lines vs : List Int} {k n : Nat} (hn : n < 25) (h0 : canN p t lines vs k n = none) (h : canX p t lines (vs ++ [(n : Int) - 12]) k = none) : canN p t lines vs k (n + 1) = none := by
  rw [canN_succ hn, h0, h]; rfl
theorem canX_done {p : List Ln} {t : Tst} {lines vs : List Int} {k : Nat} (h0 : canN p t lines vs k 25 = none) : canX p t lines vs (k + 1) = none := by rw [← canN_all]; exact h0
theorem small_app {vs : List Int} (h : ∀ n ∈ vs, -12 ≤ n ∧ n ≤ 12) {m : Nat} (hm : m < 25) : ∀ n ∈ vs ++ [(m : Int) - 12], -12 ≤ n ∧ n ≤ 12 := fun n hn => by
  rcases List.mem_append.1 hn with hn | hn
  · exact h n hn
  · simp at hn; subst hn; omega
set_option maxRecDepth 100000 in
set_option maxHeartbeats 16000000 in
theorem canPass0_any (p : List Ln) (t : Tst) (lines vs : List Int) (pv lv vv : Value) (w : World) (hp : LinesAt w pv p) (ht : IntsAt w t.v t.xs) (hl : IntsAt w lv lines) (hv : IntsAt w vv vs) (hval : valP p = 0) (htok : t.ok = true) (hln : lnE p lines = 0) (hlen : vs.length = lines.length) (hsm : ∀ n ∈ vs, -12 ≤ n ∧ n ≤ 12) (R : Ending → World → Prop)
    (hR : ∀ w', Grow w w' → IntsAt w' vv vs → R (.returned (.tuple #[vv, .bool (fpass p t lines vs)])) w') :
    Calls Tryz.prog 102 #[pv, .agg #[t.v, .int .i64 t.o, .int .i64 t.wt], lv, vv] w R := by
  have hfe := frcE_of hval htok hln hlen fun n hn => by have := hsm n hn; omega
  have HFE := Lib.hid hfe
  have hll := (lnE_ok.1 hln).2.2.1
  obtain ⟨s, hs⟩ : ∃ s, (trc p (frc lines vs) 0 (St.ofL t.xs)).2 = s := ⟨_, rfl⟩
  have hfm : frcM p t.xs lines vs = s.toL := by unfold frcM; rw [hfe, ifOK_ok, hs]
  have hfp : fpass p t lines vs = decide (s.get t.o = t.wt) := by unfold fpass; rw [hs]
  rw [hfp] at hR
  obtain ⟨v, xs, o, wt⟩ := t
  obtain ⟨k1, ⟨k2, k3⟩, _⟩ := Tst.ok_iff.1 htok
  dsimp only at ht k1 k2 k3 hfe hfm hR HFE ⊢
  obtain ⟨q, hq⟩ : ∃ q, s.get o = q := ⟨_, rfl⟩
  rw [hq] at hR
  have hx : s.toL[o.toNat]? = some q := by rw [toL_get s o k2 k3, hq]
  have hlen2 : (vs.length : Int) = (lines.length : Int) := by omega
  have hlen3 : ((vs.length : Int) == (lines.length : Int)) = true := by rw [hlen2]; simp
  have HX := Lib.hid hx
  have HFM := Lib.hid hfm
  have HP := Lib.hid hp
  have HT := Lib.hid ht
  have HL := Lib.hid hl
  have HV := Lib.hid hv
  have HR := Lib.hid hR
  obtain ⟨n, rfl⟩ : ∃ n : Nat, o = n := ⟨o.toNat, by omega⟩
  obtain ⟨pa, pc, rfl, _⟩ := hp
  obtain ⟨sa, sc, rfl, _⟩ := ht
  obtain ⟨la, lc, rfl, _⟩ := hl
  obtain ⟨va, vc, rfl, _⟩ := hv
  have t1 : (q == wt) = decide (q = wt) := by by_cases h : q = wt <;> simp [h]
  clear hR hval htok hln hlen hsm hfe hs hfm hfp hq hx k1 hlen2
  go_enter Tryz.func102, Tryz.ntmps102
  go_wp2_with fail
  have hg := (Grow.refl w).alloc (.cells #[.slice sa xs.length sc, .int .i64 (n : Int), .int .i64 wt] 37)
  have hb := heap_alloc_new w (.cells #[.slice sa xs.length sc, .int .i64 (n : Int), .int .i64 wt] 37)
  generalize w.alloc (.cells #[.slice sa xs.length sc, .int .i64 (n : Int), .int .i64 wt] 37) = W at hg hb ⊢
  have HG := Lib.hid hg
  have HB := Lib.hid hb
  clear hg hb
  refine Force_any p xs lines vs _ _ _ _ _ (HP.out.grow HG.out) (HT.out.grow HG.out) (HL.out.grow HG.out) (HV.out.grow HG.out) (by omega) _ ?_
  intro w2 x2 hg2 hx2
  rw [HFE.out]
  rw [HFM.out] at hx2
  have hll4 : s.toL.length = 4 := rfl
  obtain ⟨a2, c2, rfl, q1, q2, q3⟩ := hx2
  have hx3 : IntsAt w2 (.slice a2 s.toL.length c2) s.toL := ⟨a2, c2, rfl, q1, q2, q3⟩
  obtain ⟨gb, go, rfl, hgb, e0⟩ := ints_at hx3 (k := n) (x := q) (by have := HX.out; simpa using this)
  rw [hll4]
  have hn4 : (n : Int) < 4 := by omega
  have hn0 : (0 : Int) ≤ (n : Int) := by omega
  obtain ⟨d0, d1, d2⟩ := box3 (hg2.blk HB.out)
  have hdz := lt_of_block (hg2.blk HB.out)
  have HF := Lib.hid (fun k => HR.out (w2.drewN k) ((HG.out.trans hg2).drewN k) (HV.out.grow ((HG.out.trans hg2).drewN k)))
  clear hg2 hx3 q1 q2 q3 hll4
  go_wp2_with (go_quiet (fail))
  exact HF.out _
set_option maxRecDepth 100000 in
set_option maxHeartbeats 32000000 in
theorem canPass_any (p : List Ln) (t : Tst) (lines : List Int) (hval : valP p = 0) (htok : t.ok = true) (hln : lnE p lines = 0) : ∀ (k : Nat) (vs : List Int), vs.length + k = lines.length → (∀ n ∈ vs, -12 ≤ n ∧ n ≤ 12) → ∀ (pv lv vv : Value) (w : World), LinesAt w pv p → IntsAt w t.v t.xs → IntsAt w lv lines → IntsAt w vv vs →
    ∀ R : Ending → World → Prop, (∀ w' v, Grow w w' → (∀ ys, canX p t lines vs k = some ys → IntsAt w' v ys) → R (.returned (.tuple #[v, .bool (canX p t lines vs k).isSome])) w') →
    Calls Tryz.prog 102 #[pv, .agg #[t.v, .int .i64 t.o, .int .i64 t.wt], lv, vv] w R := by
  intro k
  induction k with
  | zero =>
    intro vs hlen hsm pv lv vv w hp ht hl hv R hR
    refine canPass0_any p t lines vs pv lv vv w hp ht hl hv hval htok hln (by omega) hsm R ?_
    intro w' hg hv'
    have h := hR w' vv hg
    rw [canX_zero] at h
    cases hf : fpass p t lines vs with
    | true => rw [hf] at h; exact h fun ys e => by cases e; exact hv'
    | false => rw [hf] at h; exact h fun ys e => by cases e
  | succ k ih =>
    intro vs hlen hsm pv lv vv w hp ht hl hv R hR
    have IH := Lib.hid ih
    have hll := (lnE_ok.1 hln).2.2.1
    have HSM := Lib.hid hsm
    obtain ⟨v, xs, o, wt⟩ := t
    dsimp only at ht hR IH ⊢
    have HP := Lib.hid hp
    have HT := Lib.hid ht
    have HL := Lib.hid hl
    have HV := Lib.hid hv
    have HR := Lib.hid hR
    have hlen2 : ¬ (vs.length : Int) = (lines.length : Int) := by omega
    have hlen3 : ((vs.length : Int) == (lines.length : Int)) = false := beq_eq_false_iff_ne.2 hlen2
    have hvs2 : vs.length ≤ 2 := by omega
    have HLEN := Lib.hid hlen
    obtain ⟨pa, pc, rfl, _⟩ := hp
    obtain ⟨sa, sc, rfl, _⟩ := ht
    obtain ⟨la, lc, rfl, _⟩ := hl
    obtain ⟨va, vc, rfl, _⟩ := hv
    clear hR hval htok hln hsm ih hlen hlen2
    go_enter Tryz.func102, Tryz.ntmps102
    go_wp2_with fail
    have hg := (Grow.refl w).alloc (.cells #[.slice sa xs.length sc, .int .i64 o, .int .i64 wt] 37)
    have hb := heap_alloc_new w (.cells #[.slice sa xs.length sc, .int .i64 o, .int .i64 wt] 37)
    generalize w.alloc (.cells #[.slice sa xs.length sc, .int .i64 o, .int .i64 wt] 37) = W at hg hb ⊢
    obtain ⟨bt, hbt⟩ : ∃ b, w.heap.size = b := ⟨_, rfl⟩
    rw [hbt] at hb ⊢
    have HG := Lib.hid hg
    have HB := Lib.hid hb
    clear hg hb hbt
    go_loopw [12, 13, 14, 38] (fun _ _ _ i wr => ∃ n : Nat, n ≤ 25 ∧ i = .int .i64 n ∧ Grow W wr ∧ canN p ⟨.slice sa xs.length sc, xs, o, wt⟩ lines vs k n = none) (fun _ _ _ i _ => 25 - (intOf i).toNat)
    case atStart => exact ⟨0, by omega, rfl, Grow.refl _, canN_zero _ _ _ _ _⟩
    case round =>
      obtain ⟨n, hn, rfl, hgr, hno⟩ := hrel
      have HGR := Lib.hid hgr
      have HNO := Lib.hid hno
      have hbr := hgr.blk HB.out
      have hzb := lt_of_block hbr
      have HBR := Lib.hid hbr
      have HGW := Lib.hid (HG.out.trans hgr)
      clear hgr hno hbr
      by_cases hlt : n < 25
      · have hlt2 : (n : Int) < 25 := by omega
        have hn0 : (0 : Int) ≤ (n : Int) := by omega
        have HSA := Lib.hid (small_app HSM.out hlt)
        have hwr : IntKind.i64.wrap ((n : Int) - 12) = (n : Int) - 12 := IntWalk.i64_in _ (by omega)
        have HPD := Lib.hid (HP.out.grow (HGW.out.drew))
        have HTD := Lib.hid (HT.out.grow (HGW.out.drew))
        have HLD := Lib.hid (HL.out.grow (HGW.out.drew))
        have HVD := Lib.hid (HV.out.grow (HGW.out.drew))
        have hdz : wr.drew.heap.size = wr.heap.size := rfl
        go_wp2_with fail
        refine wp_region_held_drew (S := fun X => X.heap[bt]? = some (.cells #[.slice sa xs.length sc, .int .i64 o, .int .i64 wt] 37 (0, 0))) (by kernel_rfl) (((Grow.refl wr).drew).blk HBR.out) (fun hH => ?_)
        refine wpAnyH_take (i := 0) (v := .slice pa p.length pc) rfl (by kernel_rfl) (by kernel_rfl) (by kernel_rfl) (fun _ _ _ h => h) (Or.inl ⟨by rfl, ?_⟩) hH ?_
        · intro w9 hw9
          go_simp
        try simp only [List.getElem_toArray, List.getElem_cons_zero, Act.put, List.setIfInBounds_toArray, List.set_cons_zero, List.set_cons_succ]
        refine wpAnyH_take (i := 1) (v := .agg #[.slice sa xs.length sc, .int .i64 o, .int .i64 wt]) rfl (by kernel_rfl) (by kernel_rfl) (by kernel_rfl) (fun _ _ _ h => h) (Or.inl ⟨by rfl, ?_⟩) hH ?_
        · intro w9 hw9
          obtain ⟨c0, c1, c2⟩ := box3 hw9
          go_simp
        try simp only [List.getElem_toArray, List.getElem_cons_succ, List.getElem_cons_zero, Act.put, List.setIfInBounds_toArray, List.set_cons_zero, List.set_cons_succ]
        refine wpAnyH_take (i := 2) (v := .slice la lines.length lc) rfl (by kernel_rfl) (by kernel_rfl) (by kernel_rfl) (fun _ _ _ h => h) (Or.inl ⟨by rfl, ?_⟩) hH ?_
        · intro w9 hw9
          go_simp
        try simp only [List.getElem_toArray, List.getElem_cons_succ, List.getElem_cons_zero, Act.put, List.setIfInBounds_toArray, List.set_cons_zero, List.set_cons_succ]
        refine wpAnyH_take (i := 3) (v := .slice va vs.length vc) rfl (by kernel_rfl) (by kernel_rfl) (by kernel_rfl) (fun _ _ _ h => h) (Or.inl ⟨by rfl, ?_⟩) hH ?_
        · intro w9 hw9
          go_simp
        try simp only [List.getElem_toArray, List.getElem_cons_succ, List.getElem_cons_zero, Act.put, List.setIfInBounds_toArray, List.set_cons_zero, List.set_cons_succ]
        refine wpAnyH_take (i := 5) (v := .int .i64 (n : Int)) rfl (by kernel_rfl) (by kernel_rfl) (by kernel_rfl) (fun _ _ _ h => h) (Or.inl ⟨by rfl, ?_⟩) hH ?_
        · intro w9 hw9
          go_simp
        try simp only [List.getElem_toArray, List.getElem_cons_succ, List.getElem_cons_zero, Act.put, List.setIfInBounds_toArray, List.set_cons_zero, List.set_cons_succ]
        refine wpAnyH_take (i := 6) (v := .int .i64 ((n : Int) - 12)) rfl (by kernel_rfl) (by kernel_rfl) (by kernel_rfl) (fun _ _ _ h => h) (Or.inl ⟨by rfl, ?_⟩) hH ?_
        · intro w9 hw9
          go_simp
        try simp only [List.getElem_toArray, List.getElem_cons_succ, List.getElem_cons_zero, Act.put, List.setIfInBounds_toArray, List.set_cons_zero, List.set_cons_succ]
        refine wpAnyH_ready (rs := [4, 7]) (by kernel_rfl) (by simp) ?_
        refine AllReadyH.cons rfl (fun K hK => ?_) (AllReadyH.cons rfl (fun K hK => ?_) AllReadyH.nil)
        · skip
          go_simp
          refine cloneR_any vs _ _ (HVD.out.grow (Grow.refl _)) (by omega) _ ?_
          intro w8 v8 hg8 hv8
          go_wp2_with fail
          refine hK.out _ _ (hg8.blk hH) (fun hH2 => ?_)
          clear hK K hH
          have hH := hH2
          clear hH2
          try simp only [List.getElem_toArray, List.getElem_cons_succ, List.getElem_cons_zero, Act.put, List.setIfInBounds_toArray, List.set_cons_zero, List.set_cons_succ]
          refine wpAnyH_ready (rs := [7]) (by kernel_rfl) (by simp) ?_
          refine AllReadyH.cons rfl (fun K hK => ?_) AllReadyH.nil
          go_simp
          refine hK.out _ _ (((Grow.refl _).alloc _).blk hH) (fun hH2 => ?_)
          clear hK K hH
          have hH := hH2
          clear hH2
          try simp only [List.getElem_toArray, List.getElem_cons_succ, List.getElem_cons_zero, Act.put, List.setIfInBounds_toArray, List.set_cons_zero, List.set_cons_succ]
          have hz8 := hg8.sz
          refine wpAnyH_ready (rs := [8]) (by kernel_rfl) (by simp) ?_
          refine AllReadyH.cons rfl (fun K hK => ?_) AllReadyH.nil
          refine step_appAt rfl (.tmp 46) (.tmp 49) 29 rfl wr.drew.heap.size 3 Tryz.underlying29 info_int rfl (by decide) (by decide) encI encI_len encI_one v8 vs (by simp [Act.eval]) (((Grow.refl w8).alloc (.cells #[.int .i64 ((n : Int) - 12)] 3)).owns hv8) _ ((n : Int) - 12) 1 (by simp [Act.eval] <;> rfl) (newsG w8 _ rfl (encI ((n : Int) - 12)) 3) (by omega) (by simp; omega) ?_
          intro v9 w9 hown9 hgr9 hat9
          have hg9 : Grow wr.drew w9 := grown_below (((Grow.refl w8).alloc (.cells #[.int .i64 ((n : Int) - 12)] 3)).owns hv8) hgr9 (Nat.le_refl _) (by simp; omega) (hg8.alloc (.cells #[.int .i64 ((n : Int) - 12)] 3))
          have hH9 := grown_keep (((Grow.refl w8).alloc (.cells #[.int .i64 ((n : Int) - 12)] 3)).owns hv8) hgr9 (show bt < wr.drew.heap.size from hzb) hH
          have hx9 := slc_of_owns encI_len hown9
          have HX9 := Lib.hid hx9
          have HG9 := Lib.hid hg9
          clear hown9 hgr9 hat9 hx9 hg9 hv8
          refine hK.out _ _ hH9 (fun hH2 => ?_)
          clear hK K hH
          have hH := hH2
          clear hH2
          try simp only [List.getElem_toArray, List.getElem_cons_succ, List.getElem_cons_zero, Act.put, List.setIfInBounds_toArray, List.set_cons_zero, List.set_cons_succ]
          refine wpAnyH_ready (rs := [9]) (by kernel_rfl) (by simp) ?_
          refine AllReadyH.cons rfl (fun K hK => ?_) AllReadyH.nil
          go_simp
          refine IH.out (vs ++ [((n : Int) - 12)]) (by have := HLEN.out; rw [List.length_append]; simp; omega) HSA.out _ _ _ _ (HPD.out.grow HG9.out) (HTD.out.grow HG9.out) (HLD.out.grow HG9.out) HX9.out _ ?_
          intro w10 v10 hg10 hv10
          have HV10 := Lib.hid hv10
          have HG10 := Lib.hid (HGR.out.drew.trans (HG9.out.trans hg10))
          have hH10 := hg10.blk hH
          clear hg10 hv10
          obtain ⟨rs, hrs⟩ : ∃ z, canX p ⟨.slice sa xs.length sc, xs, o, wt⟩ lines (vs ++ [((n : Int) - 12)]) k = z := ⟨_, rfl⟩
          rw [hrs] at HV10 ⊢
          have HRS := Lib.hid hrs
          clear hrs
          cases rs with
          | none =>
            go_wp2_with fail
            refine hK.out _ _ hH10 (fun hH2 => ?_)
            clear hK K hH
            have hH := hH2
            clear hH2
            try simp only [List.getElem_toArray, List.getElem_cons_succ, List.getElem_cons_zero, Act.put, List.setIfInBounds_toArray, List.set_cons_zero, List.set_cons_succ]
            refine wpAnyH_take (i := 10) (v := .tuple #[v10, .bool false]) rfl (by kernel_rfl) (by kernel_rfl) (by kernel_rfl) (fun _ _ _ h => h) (Or.inl ⟨by rfl, ?_⟩) hH ?_
            · intro w9 hw9
              go_simp
            try simp only [List.getElem_toArray, List.getElem_cons_succ, List.getElem_cons_zero, Act.put, List.setIfInBounds_toArray, List.set_cons_zero, List.set_cons_succ]
            refine wpAnyH_take (i := 11) (v := v10) rfl (by kernel_rfl) (by kernel_rfl) (by kernel_rfl) (fun _ _ _ h => h) (Or.inl ⟨by rfl, ?_⟩) hH ?_
            · intro w9 hw9
              go_simp
            try simp only [List.getElem_toArray, List.getElem_cons_succ, List.getElem_cons_zero, Act.put, List.setIfInBounds_toArray, List.set_cons_zero, List.set_cons_succ]
            refine wpAnyH_take (i := 12) (v := .bool false) rfl (by kernel_rfl) (by kernel_rfl) (by kernel_rfl) (fun _ _ _ h => h) (Or.inl ⟨by rfl, ?_⟩) hH ?_
            · intro w9 hw9
              go_simp
            try simp only [List.getElem_toArray, List.getElem_cons_succ, List.getElem_cons_zero, Act.put, List.setIfInBounds_toArray, List.set_cons_zero, List.set_cons_succ]
            refine wpAnyH_take (i := 13) (v := v10) rfl (by kernel_rfl) (by kernel_rfl) (by kernel_rfl) (fun _ _ _ h => h) (Or.inl ⟨by rfl, ?_⟩) hH ?_
            · intro w9 hw9
              go_simp
            try simp only [List.getElem_toArray, List.getElem_cons_succ, List.getElem_cons_zero, Act.put, List.setIfInBounds_toArray, List.set_cons_zero, List.set_cons_succ]
            refine wpAnyH_take (i := 14) (v := .bool false) rfl (by kernel_rfl) (by kernel_rfl) (by kernel_rfl) (fun _ _ _ h => h) (Or.inl ⟨by rfl, ?_⟩) hH ?_
            · intro w9 hw9
              go_simp
            try simp only [List.getElem_toArray, List.getElem_cons_succ, List.getElem_cons_zero, Act.put, List.setIfInBounds_toArray, List.set_cons_zero, List.set_cons_succ]
            refine wpAnyH_done (by kernel_rfl) ?_ _
            clear hH hH10
            have HNX := Lib.hid (canN_next hlt HNO.out HRS.out)
            clear HNO HRS
            go_wp2_with fail
            go_roundw
            case rel => exact ⟨n + 1, by omega, by go_num, HG10.out, HNX.out⟩
            case measure => simp [intOf]; omega
          | some ys =>
            go_wp2_with fail
            refine hK.out _ _ hH10 (fun hH2 => ?_)
            clear hK K hH
            have hH := hH2
            clear hH2
            try simp only [List.getElem_toArray, List.getElem_cons_succ, List.getElem_cons_zero, Act.put, List.setIfInBounds_toArray, List.set_cons_zero, List.set_cons_succ]
            refine wpAnyH_take (i := 10) (v := .tuple #[v10, .bool true]) rfl (by kernel_rfl) (by kernel_rfl) (by kernel_rfl) (fun _ _ _ h => h) (Or.inl ⟨by rfl, ?_⟩) hH ?_
            · intro w9 hw9
              go_simp
            try simp only [List.getElem_toArray, List.getElem_cons_succ, List.getElem_cons_zero, Act.put, List.setIfInBounds_toArray, List.set_cons_zero, List.set_cons_succ]
            refine wpAnyH_take (i := 11) (v := v10) rfl (by kernel_rfl) (by kernel_rfl) (by kernel_rfl) (fun _ _ _ h => h) (Or.inl ⟨by rfl, ?_⟩) hH ?_
            · intro w9 hw9
              go_simp
            try simp only [List.getElem_toArray, List.getElem_cons_succ, List.getElem_cons_zero, Act.put, List.setIfInBounds_toArray, List.set_cons_zero, List.set_cons_succ]
            refine wpAnyH_take (i := 12) (v := .bool true) rfl (by kernel_rfl) (by kernel_rfl) (by kernel_rfl) (fun _ _ _ h => h) (Or.inl ⟨by rfl, ?_⟩) hH ?_
            · intro w9 hw9
              go_simp
            try simp only [List.getElem_toArray, List.getElem_cons_succ, List.getElem_cons_zero, Act.put, List.setIfInBounds_toArray, List.set_cons_zero, List.set_cons_succ]
            refine wpAnyH_take (i := 13) (v := v10) rfl (by kernel_rfl) (by kernel_rfl) (by kernel_rfl) (fun _ _ _ h => h) (Or.inl ⟨by rfl, ?_⟩) hH ?_
            · intro w9 hw9
              go_simp
            try simp only [List.getElem_toArray, List.getElem_cons_succ, List.getElem_cons_zero, Act.put, List.setIfInBounds_toArray, List.set_cons_zero, List.set_cons_succ]
            refine wpAnyH_take (i := 14) (v := .bool true) rfl (by kernel_rfl) (by kernel_rfl) (by kernel_rfl) (fun _ _ _ h => h) (Or.inl ⟨by rfl, ?_⟩) hH ?_
            · intro w9 hw9
              go_simp
            try simp only [List.getElem_toArray, List.getElem_cons_succ, List.getElem_cons_zero, Act.put, List.setIfInBounds_toArray, List.set_cons_zero, List.set_cons_succ]
            refine wpAnyH_done (by kernel_rfl) ?_ _
            clear hH hH10
            have hfo := canN_found hlt HNO.out HRS.out
            have HF := Lib.hid (show R (.returned (.tuple #[v10, .bool true])) w10 from by
              have h := HR.out w10 v10 (HG.out.trans HG10.out)
              rw [hfo] at h
              exact h fun zs e => by cases e; exact HV10.out _ rfl)
            clear hfo HNO HRS
            go_wp2_with fail
            exact HF.out
        · skip
          go_simp
          refine hK.out _ _ (((Grow.refl _).alloc _).blk hH) (fun hH2 => ?_)
          clear hK K hH
          have hH := hH2
          clear hH2
          try simp only [List.getElem_toArray, List.getElem_cons_succ, List.getElem_cons_zero, Act.put, List.setIfInBounds_toArray, List.set_cons_zero, List.set_cons_succ]
          refine wpAnyH_ready (rs := [4]) (by kernel_rfl) (by simp) ?_
          refine AllReadyH.cons rfl (fun K hK => ?_) AllReadyH.nil
          go_simp
          refine cloneR_any vs _ _ (HVD.out.grow ((Grow.refl _).alloc _)) (by omega) _ ?_
          intro w8 v8 hg8 hv8
          go_wp2_with fail
          refine hK.out _ _ (hg8.blk hH) (fun hH2 => ?_)
          clear hK K hH
          have hH := hH2
          clear hH2
          try simp only [List.getElem_toArray, List.getElem_cons_succ, List.getElem_cons_zero, Act.put, List.setIfInBounds_toArray, List.set_cons_zero, List.set_cons_succ]
          have hz8 := hg8.sz
          rw [World.size_alloc] at hz8
          refine wpAnyH_ready (rs := [8]) (by kernel_rfl) (by simp) ?_
          refine AllReadyH.cons rfl (fun K hK => ?_) AllReadyH.nil
          refine step_appAt rfl (.tmp 46) (.tmp 49) 29 rfl (wr.drew.alloc (.cells #[.int .i64 ((n : Int) - 12)] 3)).heap.size 3 Tryz.underlying29 info_int rfl (by decide) (by decide) encI encI_len encI_one v8 vs (by simp [Act.eval]) (hv8) _ ((n : Int) - 12) 1 (by simp [Act.eval] <;> rfl) (fun q u hq => hg8.cell (newsG wr.drew _ rfl (encI ((n : Int) - 12)) 3 q u hq)) (by omega) (hg8.sz) ?_
          intro v9 w9 hown9 hgr9 hat9
          have hg9 : Grow wr.drew w9 := grown_below (hv8) hgr9 (by simp) (by omega) ((((Grow.refl wr.drew).alloc (.cells #[.int .i64 ((n : Int) - 12)] 3)).trans hg8))
          have hH9 := grown_keep (hv8) hgr9 (show bt < (wr.drew.alloc (.cells #[.int .i64 ((n : Int) - 12)] 3)).heap.size from (by simp; omega)) hH
          have hx9 := slc_of_owns encI_len hown9
          have HX9 := Lib.hid hx9
          have HG9 := Lib.hid hg9
          clear hown9 hgr9 hat9 hx9 hg9 hv8
          refine hK.out _ _ hH9 (fun hH2 => ?_)
          clear hK K hH
          have hH := hH2
          clear hH2
          try simp only [List.getElem_toArray, List.getElem_cons_succ, List.getElem_cons_zero, Act.put, List.setIfInBounds_toArray, List.set_cons_zero, List.set_cons_succ]
          refine wpAnyH_ready (rs := [9]) (by kernel_rfl) (by simp) ?_
          refine AllReadyH.cons rfl (fun K hK => ?_) AllReadyH.nil
          go_simp
          refine IH.out (vs ++ [((n : Int) - 12)]) (by have := HLEN.out; rw [List.length_append]; simp; omega) HSA.out _ _ _ _ (HPD.out.grow HG9.out) (HTD.out.grow HG9.out) (HLD.out.grow HG9.out) HX9.out _ ?_
          intro w10 v10 hg10 hv10
          have HV10 := Lib.hid hv10
          have HG10 := Lib.hid (HGR.out.drew.trans (HG9.out.trans hg10))
          have hH10 := hg10.blk hH
          clear hg10 hv10
          obtain ⟨rs, hrs⟩ : ∃ z, canX p ⟨.slice sa xs.length sc, xs, o, wt⟩ lines (vs ++ [((n : Int) - 12)]) k = z := ⟨_, rfl⟩
          rw [hrs] at HV10 ⊢
          have HRS := Lib.hid hrs
          clear hrs
          cases rs with
          | none =>
            go_wp2_with fail
            refine hK.out _ _ hH10 (fun hH2 => ?_)
            clear hK K hH
            have hH := hH2
            clear hH2
            try simp only [List.getElem_toArray, List.getElem_cons_succ, List.getElem_cons_zero, Act.put, List.setIfInBounds_toArray, List.set_cons_zero, List.set_cons_succ]
            refine wpAnyH_take (i := 10) (v := .tuple #[v10, .bool false]) rfl (by kernel_rfl) (by kernel_rfl) (by kernel_rfl) (fun _ _ _ h => h) (Or.inl ⟨by rfl, ?_⟩) hH ?_
            · intro w9 hw9
              go_simp
            try simp only [List.getElem_toArray, List.getElem_cons_succ, List.getElem_cons_zero, Act.put, List.setIfInBounds_toArray, List.set_cons_zero, List.set_cons_succ]
            refine wpAnyH_take (i := 11) (v := v10) rfl (by kernel_rfl) (by kernel_rfl) (by kernel_rfl) (fun _ _ _ h => h) (Or.inl ⟨by rfl, ?_⟩) hH ?_
            · intro w9 hw9
              go_simp
            try simp only [List.getElem_toArray, List.getElem_cons_succ, List.getElem_cons_zero, Act.put, List.setIfInBounds_toArray, List.set_cons_zero, List.set_cons_succ]
            refine wpAnyH_take (i := 12) (v := .bool false) rfl (by kernel_rfl) (by kernel_rfl) (by kernel_rfl) (fun _ _ _ h => h) (Or.inl ⟨by rfl, ?_⟩) hH ?_
            · intro w9 hw9
              go_simp
            try simp only [List.getElem_toArray, List.getElem_cons_succ, List.getElem_cons_zero, Act.put, List.setIfInBounds_toArray, List.set_cons_zero, List.set_cons_succ]
            refine wpAnyH_take (i := 13) (v := v10) rfl (by kernel_rfl) (by kernel_rfl) (by kernel_rfl) (fun _ _ _ h => h) (Or.inl ⟨by rfl, ?_⟩) hH ?_
            · intro w9 hw9
              go_simp
            try simp only [List.getElem_toArray, List.getElem_cons_succ, List.getElem_cons_zero, Act.put, List.setIfInBounds_toArray, List.set_cons_zero, List.set_cons_succ]
            refine wpAnyH_take (i := 14) (v := .bool false) rfl (by kernel_rfl) (by kernel_rfl) (by kernel_rfl) (fun _ _ _ h => h) (Or.inl ⟨by rfl, ?_⟩) hH ?_
            · intro w9 hw9
              go_simp
            try simp only [List.getElem_toArray, List.getElem_cons_succ, List.getElem_cons_zero, Act.put, List.setIfInBounds_toArray, List.set_cons_zero, List.set_cons_succ]
            refine wpAnyH_done (by kernel_rfl) ?_ _
            clear hH hH10
            have HNX := Lib.hid (canN_next hlt HNO.out HRS.out)
            clear HNO HRS
            go_wp2_with fail
            go_roundw
            case rel => exact ⟨n + 1, by omega, by go_num, HG10.out, HNX.out⟩
            case measure => simp [intOf]; omega
          | some ys =>
            go_wp2_with fail
            refine hK.out _ _ hH10 (fun hH2 => ?_)
            clear hK K hH
            have hH := hH2
            clear hH2
            try simp only [List.getElem_toArray, List.getElem_cons_succ, List.getElem_cons_zero, Act.put, List.setIfInBounds_toArray, List.set_cons_zero, List.set_cons_succ]
            refine wpAnyH_take (i := 10) (v := .tuple #[v10, .bool true]) rfl (by kernel_rfl) (by kernel_rfl) (by kernel_rfl) (fun _ _ _ h => h) (Or.inl ⟨by rfl, ?_⟩) hH ?_
            · intro w9 hw9
              go_simp
            try simp only [List.getElem_toArray, List.getElem_cons_succ, List.getElem_cons_zero, Act.put, List.setIfInBounds_toArray, List.set_cons_zero, List.set_cons_succ]
            refine wpAnyH_take (i := 11) (v := v10) rfl (by kernel_rfl) (by kernel_rfl) (by kernel_rfl) (fun _ _ _ h => h) (Or.inl ⟨by rfl, ?_⟩) hH ?_
            · intro w9 hw9
              go_simp
            try simp only [List.getElem_toArray, List.getElem_cons_succ, List.getElem_cons_zero, Act.put, List.setIfInBounds_toArray, List.set_cons_zero, List.set_cons_succ]
            refine wpAnyH_take (i := 12) (v := .bool true) rfl (by kernel_rfl) (by kernel_rfl) (by kernel_rfl) (fun _ _ _ h => h) (Or.inl ⟨by rfl, ?_⟩) hH ?_
            · intro w9 hw9
              go_simp
            try simp only [List.getElem_toArray, List.getElem_cons_succ, List.getElem_cons_zero, Act.put, List.setIfInBounds_toArray, List.set_cons_zero, List.set_cons_succ]
            refine wpAnyH_take (i := 13) (v := v10) rfl (by kernel_rfl) (by kernel_rfl) (by kernel_rfl) (fun _ _ _ h => h) (Or.inl ⟨by rfl, ?_⟩) hH ?_
            · intro w9 hw9
              go_simp
            try simp only [List.getElem_toArray, List.getElem_cons_succ, List.getElem_cons_zero, Act.put, List.setIfInBounds_toArray, List.set_cons_zero, List.set_cons_succ]
            refine wpAnyH_take (i := 14) (v := .bool true) rfl (by kernel_rfl) (by kernel_rfl) (by kernel_rfl) (fun _ _ _ h => h) (Or.inl ⟨by rfl, ?_⟩) hH ?_
            · intro w9 hw9
              go_simp
            try simp only [List.getElem_toArray, List.getElem_cons_succ, List.getElem_cons_zero, Act.put, List.setIfInBounds_toArray, List.set_cons_zero, List.set_cons_succ]
            refine wpAnyH_done (by kernel_rfl) ?_ _
            clear hH hH10
            have hfo := canN_found hlt HNO.out HRS.out
            have HF := Lib.hid (show R (.returned (.tuple #[v10, .bool true])) w10 from by
              have h := HR.out w10 v10 (HG.out.trans HG10.out)
              rw [hfo] at h
              exact h fun zs e => by cases e; exact HV10.out _ rfl)
            clear hfo HNO HRS
            go_wp2_with fail
            exact HF.out
      · have hn25 : n = 25 := by omega
        have hno := HNO.out
        rw [hn25] at hno
        have hcd := canX_done hno
        have HF := Lib.hid (show R (.returned (.tuple #[.slice none 0 0, .bool false])) wr from by
          have h := HR.out wr (.slice none 0 0) HGW.out
          rw [hcd] at h
          exact h fun zs e => by cases e)
        have hn3 : ¬ (n : Int) < 25 := by omega
        clear hno hcd hn25 HNO
        go_wp2_with fail
        exact HF.out
end Go.Proofs.YtmlbgfnddgbpbaaGreat

namespace Go.Proofs.YtmlbgfnddgbpbaaGreat
open Go.RowKit
open Mk Bm

theorem can_any (p : List Ln) (t : Tst) (lines : List Int) (hval : valP p = 0) (htok : t.ok = true) (hln : lnE p lines = 0) (pv lv : Value) (w : World) (hp : LinesAt w pv p) (ht : IntsAt w t.v t.xs) (hl : IntsAt w lv lines)
    (R : Ending → World → Prop) (hR : ∀ w' v, Grow w w' → (∀ ys, can p t lines = some ys → IntsAt w' v ys) → R (.returned (.tuple #[v, .bool (can p t lines).isSome])) w') :
    Calls Tryz.prog 102 #[pv, .agg #[t.v, .int .i64 t.o, .int .i64 t.wt], lv, .slice none 0 0] w R := by
  refine canPass_any p t lines hval htok hln lines.length [] (by simp) (by simp) pv lv _ w hp ht hl (SlcAt.nil _ _ _) R ?_
  rw [canX_all]
  exact hR
set_option maxRecDepth 100000 in
set_option maxHeartbeats 8000000 in
theorem CanPass_any (p : List Ln) (t : Tst) (lines : List Int) (pv lv : Value) (w : World) (hp : LinesAt w pv p) (ht : IntsAt w t.v t.xs) (hl : IntsAt w lv lines) (hlen : lines.length ≤ 1000000)
    (R : Ending → World → Prop) (hR : ∀ w' v, Grow w w' → IntsAt w' v ((cpO p t lines).getD []) → R (.returned (.tuple #[v, .bool (cpO p t lines).isSome, .int .i64 (cpE p t lines)])) w') :
    Calls Tryz.prog 48 #[pv, .agg #[t.v, .int .i64 t.o, .int .i64 t.wt], lv] w R := by
  have HP := Lib.hid hp
  have HT := Lib.hid ht
  have HL := Lib.hid hl
  obtain ⟨e, he⟩ : ∃ e, chkT p [t] = e := ⟨_, rfl⟩
  obtain ⟨e', he'⟩ : ∃ e, lnE p lines = e := ⟨_, rfl⟩
  have hE : cpE p t lines = if e = 0 then e' else e := by unfold cpE; rw [he, he']
  have HE := Lib.hid he
  have HE' := Lib.hid he'
  have hNIL : cpE p t lines ≠ 0 → ∀ w' v, Grow w w' → IntsAt w' v [] → R (.returned (.tuple #[v, .bool false, .int .i64 (cpE p t lines)])) w' := fun h w' v hg hv => by
    have := hR w' v hg
    unfold cpO at this
    rw [if_neg h] at this
    exact this hv
  have hYES : cpE p t lines = 0 → ∀ w' v, Grow w w' → IntsAt w' v ((can p t lines).getD []) → R (.returned (.tuple #[v, .bool (can p t lines).isSome, .int .i64 0])) w' := fun h w' v hg hv => by
    have := hR w' v hg
    unfold cpO at this
    rw [if_pos h, h] at this
    exact this hv
  have HNIL := Lib.hid hNIL
  have HYES := Lib.hid hYES
  obtain ⟨v, xs, o, wt⟩ := t
  dsimp only at ht HT HE hE HYES HNIL ⊢
  have HC := Lib.hid hE
  obtain ⟨pa, pc, rfl, _⟩ := hp
  obtain ⟨sa, sc, rfl, _⟩ := ht
  obtain ⟨la, lc, rfl, _⟩ := hl
  clear hR hNIL hYES hE he he'
  have hb0 := heap_two0 w (.cells #[.slice sa xs.length sc, .int .i64 o, .int .i64 wt] 37) (.cells #[.slice sa xs.length sc, .int .i64 o, .int .i64 wt] 37)
  have hg2 : Grow w ((w.alloc (.cells #[.slice sa xs.length sc, .int .i64 o, .int .i64 wt] 37)).alloc (.cells #[.slice sa xs.length sc, .int .i64 o, .int .i64 wt] 37)) := ((Grow.refl w).alloc _).alloc _
  have htl := tests_lit (w.alloc (.cells #[.slice sa xs.length sc, .int .i64 o, .int .i64 wt] 37)) ⟨.slice sa xs.length sc, xs, o, wt⟩ 37 (HT.out.grow ((Grow.refl w).alloc _))
  rw [World.size_alloc] at htl
  have HB0 := Lib.hid hb0
  have HG2 := Lib.hid hg2
  have HTL := Lib.hid htl
  clear hb0 hg2 htl

  by_cases h0 : e = 0
  rotate_left
  · have t1 : (e != 0) = true := by simpa using h0
    have hce : cpE p ⟨.slice sa xs.length sc, xs, o, wt⟩ lines = e := by rw [HC.out, if_neg h0]
    have HF := Lib.hid (fun w' v hg hv => show R (.returned (.tuple #[v, .bool false, .int .i64 e])) w' from by have := HNIL.out (by rw [hce]; exact h0) w' v hg hv; rw [hce] at this; exact this)
    clear h0 hce
    go_enter Tryz.func48, Tryz.ntmps48
    go_wp2_with fail
    generalize (w.alloc (.cells #[.slice sa xs.length sc, .int .i64 o, .int .i64 wt] 37)).alloc (.cells #[.slice sa xs.length sc, .int .i64 o, .int .i64 wt] 37) = W at HB0 HG2 HTL ⊢
    refine bprograms_any p [⟨.slice sa xs.length sc, xs, o, wt⟩] _ _ _ (HP.out.grow HG2.out) HTL.out _ ?_
    intro w3 hg3
    rw [HE.out]
    have HG3 := Lib.hid (HG2.out.trans hg3)
    have HB3 := Lib.hid (hg3.blk HB0.out)
    clear hg3
    go_wp2_with fail
    exact bodyPost_ret (by simp [results, Tryz.results48, go_sem]) rfl (HF.out _ _ HG3.out (SlcAt.nil _ _ _))
  subst h0
  have hce : cpE p ⟨.slice sa xs.length sc, xs, o, wt⟩ lines = e' := by rw [HC.out, if_pos rfl]
  have HCE := Lib.hid hce
  obtain ⟨hval, htv⟩ := chkT_ok.1 HE.out
  have HVAL := Lib.hid hval
  have HTOK := Lib.hid ((valT_ok.1 htv).2 _ (List.mem_cons_self ..))
  clear hce hval htv
  by_cases h1 : e' = 0
  rotate_left
  · have t1 : (e' != 0) = true := by simpa using h1
    have HF := Lib.hid (fun w' v hg hv => show R (.returned (.tuple #[v, .bool false, .int .i64 e'])) w' from by have := HNIL.out (by rw [HCE.out]; exact h1) w' v hg hv; rw [HCE.out] at this; exact this)
    clear h1
    go_enter Tryz.func48, Tryz.ntmps48
    go_wp2_with fail
    generalize (w.alloc (.cells #[.slice sa xs.length sc, .int .i64 o, .int .i64 wt] 37)).alloc (.cells #[.slice sa xs.length sc, .int .i64 o, .int .i64 wt] 37) = W at HB0 HG2 HTL ⊢
    refine bprograms_any p [⟨.slice sa xs.length sc, xs, o, wt⟩] _ _ _ (HP.out.grow HG2.out) HTL.out _ ?_
    intro w3 hg3
    rw [HE.out]
    have HG3 := Lib.hid (HG2.out.trans hg3)
    have HB3 := Lib.hid (hg3.blk HB0.out)
    clear hg3
    go_wp2_with fail
    refine forced_any p lines _ _ _ (HP.out.grow HG3.out) (HL.out.grow HG3.out) HVAL.out (by omega) _ ?_
    intro w4 hg4
    rw [HE'.out]
    have HG4 := Lib.hid (HG3.out.trans hg4)
    obtain ⟨d0, d1, d2⟩ := box3 (hg4.blk HB3.out)
    have hdz := lt_of_block (hg4.blk HB3.out)
    clear hg4
    go_wp2_with fail
    exact bodyPost_ret (by simp [results, Tryz.results48, go_sem]) rfl (HF.out _ _ HG4.out (SlcAt.nil _ _ _))
  subst h1
  go_enter Tryz.func48, Tryz.ntmps48
  go_wp2_with fail
  generalize (w.alloc (.cells #[.slice sa xs.length sc, .int .i64 o, .int .i64 wt] 37)).alloc (.cells #[.slice sa xs.length sc, .int .i64 o, .int .i64 wt] 37) = W at HB0 HG2 HTL ⊢
  refine bprograms_any p [⟨.slice sa xs.length sc, xs, o, wt⟩] _ _ _ (HP.out.grow HG2.out) HTL.out _ ?_
  intro w3 hg3
  rw [HE.out]
  have HG3 := Lib.hid (HG2.out.trans hg3)
  have HB3 := Lib.hid (hg3.blk HB0.out)
  clear hg3
  go_wp2_with fail
  refine forced_any p lines _ _ _ (HP.out.grow HG3.out) (HL.out.grow HG3.out) HVAL.out (by omega) _ ?_
  intro w4 hg4
  rw [HE'.out]
  have HG4 := Lib.hid (HG3.out.trans hg4)
  obtain ⟨d0, d1, d2⟩ := box3 (hg4.blk HB3.out)
  have hdz := lt_of_block (hg4.blk HB3.out)
  clear hg4
  go_wp2_with fail
  refine can_any p ⟨.slice sa xs.length sc, xs, o, wt⟩ lines HVAL.out HTOK.out HE'.out _ _ _ (HP.out.grow HG4.out) (HT.out.grow HG4.out) (HL.out.grow HG4.out) _ ?_
  intro w5 v5 hg5 hv5
  have HV5 := Lib.hid hv5
  have HG5 := Lib.hid (HG4.out.trans hg5)
  clear hg5 hv5 d0 d1 d2
  have hY := HYES.out HCE.out w5
  obtain ⟨rs, hrs⟩ : ∃ z, can p ⟨.slice sa xs.length sc, xs, o, wt⟩ lines = z := ⟨_, rfl⟩
  rw [hrs] at HV5 hY ⊢
  have HY := Lib.hid hY
  clear hY hrs
  cases rs with
  | none =>
    go_wp2_with fail
    exact bodyPost_ret (by simp [results, Tryz.results48, go_sem]) rfl (HY.out _ HG5.out (SlcAt.nil _ _ _))
  | some ys =>
    go_wp2_with fail
    exact bodyPost_ret (by simp [results, Tryz.results48, go_sem]) rfl (HY.out _ HG5.out (HV5.out _ rfl))
end Go.Proofs.YtmlbgfnddgbpbaaGreat

namespace Go.Proofs.YtmlbgfnddgbpbaaGreat
open Go.RowKit
open Mk Bm

/-- A failing test that lines cannot pass, by its number. -/
def noPass (p : List Ln) (ts : List Tst) (lines : List Int) (i : Int) : Bool := match ts[i.toNat]? with | some t => !(can p t lines).isSome | none => false
theorem noPass_at {p : List Ln} {ts : List Tst} {lines : List Int} {k : Nat} {t : Tst} (h : ts[k]? = some t) : noPass p ts lines (k : Int) = !(can p t lines).isSome := by
  unfold noPass; rw [Int.toNat_natCast, h]
theorem blm_any (p : List Ln) (ts : List Tst) (lines : List Int) : ((whereL (fun t => !passM p t) ts).any (noPass p ts lines)) = !blm p ts lines := by
  rw [Bool.eq_iff_iff, List.any_eq_true]
  unfold blm
  rw [Bool.not_eq_true', ← Bool.not_eq_true, List.all_eq_true]
  constructor
  · rintro ⟨i, hi, h⟩ hall
    obtain ⟨k, t, rfl, ht, hf⟩ := mem_whereL.1 hi
    rw [noPass_at ht] at h
    have := hall t (List.mem_of_getElem? ht)
    cases hp : passM p t with
    | true => rw [hp] at hf; cases hf
    | false => rw [hp, Bool.false_or] at this; rw [this] at h; cases h
  · intro hn
    refine Classical.byContradiction fun hc => hn fun t ht => ?_
    obtain ⟨k, hk⟩ := List.getElem?_of_mem ht
    cases hp : passM p t with
    | true => rfl
    | false =>
      rw [Bool.false_or]
      cases hcan : (can p t lines).isSome with
      | true => rfl
      | false => exact absurd ⟨(k : Int), mem_whereL.2 ⟨k, t, rfl, hk, by rw [hp]; rfl⟩, by rw [noPass_at hk, hcan]; rfl⟩ hc
set_option maxRecDepth 100000 in
set_option maxHeartbeats 8000000 in
theorem itb1_any (p : List Ln) (ts : List Tst) (lines : List Int) (k : Nat) (t : Tst) (hk : ts[k]? = some t) (b0 b1 b2 : Nat) (pv tv lv : Value) (w : World) (hb0 : w.heap[b0]? = some (.cells #[pv] 35 (0, 0))) (hb1 : w.heap[b1]? = some (.cells #[tv] 43 (0, 0))) (hb2 : w.heap[b2]? = some (.cells #[lv] 29 (0, 0)))
    (hp : LinesAt w pv p) (ht : TestsAt w tv ts) (hl : IntsAt w lv lines) (hval : valP p = 0) (htok : t.ok = true) (hln : lnE p lines = 0) (R : Ending → World → Prop) (hR : ∀ w', Grow w w' → R (.returned (.bool (noPass p ts lines (k : Int)))) w') :
    Calls Tryz.prog 140 #[.int .i64 (k : Int), .pointer (some ⟨b0, 0, none⟩), .pointer (some ⟨b1, 0, none⟩), .pointer (some ⟨b2, 0, none⟩)] w R := by
  rw [noPass_at hk] at hR
  have HP := Lib.hid hp
  have HT := Lib.hid ht
  have HL := Lib.hid hl
  have HR := Lib.hid hR
  have HVAL := Lib.hid hval
  have HTOK := Lib.hid htok
  have HLN := Lib.hid hln
  have e0 := box1 hb0
  have e1 := box1 hb1
  have e2 := box1 hb2
  have z0 := lt_of_block hb0
  have z1 := lt_of_block hb1
  have z2 := lt_of_block hb2
  have hkl : k < ts.length := (List.getElem?_eq_some_iff.1 hk).1
  have hti := ht.ins _ (List.mem_of_getElem? hk)
  obtain ⟨v, xs, o, wt⟩ := t
  dsimp only at hti
  obtain ⟨pa, pc, rfl, _⟩ := hp
  obtain ⟨⟨ta, tc, rfl, _⟩, _⟩ := ht
  obtain ⟨la, lc, rfl, _⟩ := hl
  obtain ⟨gt, ot, rfl, hgt, f0, f1, f2⟩ := tests_at HT.out.at_ hk
  obtain ⟨sa, sc, hve, s1, s2, s3⟩ := hti
  dsimp only at f0 f1 f2
  subst hve
  have HTI := Lib.hid (show IntsAt w (.slice sa xs.length sc) xs from ⟨sa, sc, rfl, s1, s2, s3⟩)
  have hk2 : (k : Int) < (ts.length : Int) := by omega
  have hk0 : (0 : Int) ≤ (k : Int) := by omega
  clear hR hval htok hln hb0 hb1 hb2 hk s3
  go_enter Tryz.func140, Tryz.ntmps140
  go_wp2_with fail
  refine wp_region_held_drew (S := fun X => Grow w X) (by kernel_rfl) ((Grow.refl w).drew) (fun hH => ?_)
  refine wpAnyH_take (i := 0) (v := .slice pa p.length pc) rfl (by kernel_rfl) (by kernel_rfl) (by kernel_rfl) (fun _ _ _ h => h) (Or.inl ⟨by rfl, ?_⟩) hH ?_
  · intro w9 hw9
    have u0 := hw9.cell e0
    go_simp
  try simp only [List.getElem_toArray, List.getElem_cons_zero, Act.put, List.setIfInBounds_toArray, List.set_cons_zero, List.set_cons_succ]
  refine wpAnyH_take (i := 1) (v := .slice (some ⟨gt, ot, none⟩) ts.length tc) rfl (by kernel_rfl) (by kernel_rfl) (by kernel_rfl) (fun _ _ _ h => h) (Or.inl ⟨by rfl, ?_⟩) hH ?_
  · intro w9 hw9
    have u0 := hw9.cell e1
    go_simp
  try simp only [List.getElem_toArray, List.getElem_cons_succ, List.getElem_cons_zero, Act.put, List.setIfInBounds_toArray, List.set_cons_zero, List.set_cons_succ]
  refine wpAnyH_take (i := 2) (v := .int .i64 (k : Int)) rfl (by kernel_rfl) (by kernel_rfl) (by kernel_rfl) (fun _ _ _ h => h) (Or.inl ⟨by rfl, ?_⟩) hH ?_
  · intro w9 hw9
    go_simp
  try simp only [List.getElem_toArray, List.getElem_cons_succ, List.getElem_cons_zero, Act.put, List.setIfInBounds_toArray, List.set_cons_zero, List.set_cons_succ]
  refine wpAnyH_take (i := 3) (v := .pointer (some ⟨gt, ot + k * 3, none⟩)) rfl (by kernel_rfl) (by kernel_rfl) (by kernel_rfl) (fun _ _ _ h => h) (Or.inl ⟨by rfl, ?_⟩) hH ?_
  · intro w9 hw9
    have hz := hw9.sz
    go_simp
  try simp only [List.getElem_toArray, List.getElem_cons_succ, List.getElem_cons_zero, Act.put, List.setIfInBounds_toArray, List.set_cons_zero, List.set_cons_succ]
  refine wpAnyH_take (i := 4) (v := .agg #[.slice sa xs.length sc, .int .i64 o, .int .i64 wt]) rfl (by kernel_rfl) (by kernel_rfl) (by kernel_rfl) (fun _ _ _ h => h) (Or.inl ⟨by rfl, ?_⟩) hH ?_
  · intro w9 hw9
    have u0 := hw9.cell f0
    have u1 := hw9.cell f1
    have u2 := hw9.cell f2
    go_simp
  try simp only [List.getElem_toArray, List.getElem_cons_succ, List.getElem_cons_zero, Act.put, List.setIfInBounds_toArray, List.set_cons_zero, List.set_cons_succ]
  refine wpAnyH_take (i := 5) (v := .slice la lines.length lc) rfl (by kernel_rfl) (by kernel_rfl) (by kernel_rfl) (fun _ _ _ h => h) (Or.inl ⟨by rfl, ?_⟩) hH ?_
  · intro w9 hw9
    have u0 := hw9.cell e2
    go_simp
  try simp only [List.getElem_toArray, List.getElem_cons_succ, List.getElem_cons_zero, Act.put, List.setIfInBounds_toArray, List.set_cons_zero, List.set_cons_succ]
  refine wpAnyH_ready (rs := [6]) (by kernel_rfl) (by simp) ?_
  refine AllReadyH.cons rfl (fun K hK => ?_) AllReadyH.nil
  go_simp
  clear e0 e1 e2 f0 f1 f2
  refine can_any p ⟨.slice sa xs.length sc, xs, o, wt⟩ lines HVAL.out HTOK.out HLN.out _ _ _ (HP.out.grow hH) (HTI.out.grow hH) (HL.out.grow hH) _ ?_
  intro w2 v2 hg2 hv2
  have hH3 : Grow w w2 := Grow.trans hH hg2
  have HF := Lib.hid (HR.out w2 hH3)
  clear hg2 hv2
  generalize (can p ⟨.slice sa xs.length sc, xs, o, wt⟩ lines).isSome = q at HF ⊢
  go_wp2_with fail
  refine hK.out _ _ hH3 (fun hH2 => ?_)
  clear hK K hH
  have hH := hH2
  clear hH2
  try simp only [List.getElem_toArray, List.getElem_cons_succ, List.getElem_cons_zero, Act.put, List.setIfInBounds_toArray, List.set_cons_zero, List.set_cons_succ]
  refine wpAnyH_take (i := 7) (v := .tuple #[v2, .bool q]) rfl (by kernel_rfl) (by kernel_rfl) (by kernel_rfl) (fun _ _ _ h => h) (Or.inl ⟨by rfl, ?_⟩) hH ?_
  · intro w9 hw9
    go_simp
  try simp only [List.getElem_toArray, List.getElem_cons_succ, List.getElem_cons_zero, Act.put, List.setIfInBounds_toArray, List.set_cons_zero, List.set_cons_succ]
  refine wpAnyH_take (i := 8) (v := v2) rfl (by kernel_rfl) (by kernel_rfl) (by kernel_rfl) (fun _ _ _ h => h) (Or.inl ⟨by rfl, ?_⟩) hH ?_
  · intro w9 hw9
    go_simp
  try simp only [List.getElem_toArray, List.getElem_cons_succ, List.getElem_cons_zero, Act.put, List.setIfInBounds_toArray, List.set_cons_zero, List.set_cons_succ]
  refine wpAnyH_take (i := 9) (v := .bool q) rfl (by kernel_rfl) (by kernel_rfl) (by kernel_rfl) (fun _ _ _ h => h) (Or.inl ⟨by rfl, ?_⟩) hH ?_
  · intro w9 hw9
    go_simp
  try simp only [List.getElem_toArray, List.getElem_cons_succ, List.getElem_cons_zero, Act.put, List.setIfInBounds_toArray, List.set_cons_zero, List.set_cons_succ]
  refine wpAnyH_take (i := 10) (v := v2) rfl (by kernel_rfl) (by kernel_rfl) (by kernel_rfl) (fun _ _ _ h => h) (Or.inl ⟨by rfl, ?_⟩) hH ?_
  · intro w9 hw9
    go_simp
  try simp only [List.getElem_toArray, List.getElem_cons_succ, List.getElem_cons_zero, Act.put, List.setIfInBounds_toArray, List.set_cons_zero, List.set_cons_succ]
  refine wpAnyH_take (i := 11) (v := .bool q) rfl (by kernel_rfl) (by kernel_rfl) (by kernel_rfl) (fun _ _ _ h => h) (Or.inl ⟨by rfl, ?_⟩) hH ?_
  · intro w9 hw9
    go_simp
  try simp only [List.getElem_toArray, List.getElem_cons_succ, List.getElem_cons_zero, Act.put, List.setIfInBounds_toArray, List.set_cons_zero, List.set_cons_succ]
  refine wpAnyH_done (by kernel_rfl) ?_ _
  clear hH hH3
  cases q <;> (go_wp2_with fail; exact HF.out)
theorem heaps3 (w : World) (A B C : Obj) : let W := (((w.alloc A).alloc B).alloc C)
    W.heap[w.heap.size]? = some A ∧ W.heap[w.heap.size + 1]? = some B ∧ W.heap[w.heap.size + 1 + 1]? = some C := by
  have up : ∀ {X : World} {k : Nat} {o p : Obj}, X.heap[k]? = some o → (X.alloc p).heap[k]? = some o := fun {X k o p} h => ((Grow.refl X).alloc p).blk h
  have hn : ∀ {X : World} {n : Nat} {o : Obj}, X.heap.size = n → (X.alloc o).heap[n]? = some o := fun {X n o} e => e ▸ heap_alloc_new X o
  exact ⟨up (up (hn rfl)), up (hn (by simp)), hn (by simp)⟩
set_option maxRecDepth 100000 in
set_option maxHeartbeats 8000000 in
theorem isToBlame_any (p : List Ln) (ts : List Tst) (lines : List Int) (pv tv lv : Value) (w : World) (hp : LinesAt w pv p) (ht : TestsAt w tv ts) (hl : IntsAt w lv lines) (hc : chkT p ts = 0) (hln : lnE p lines = 0)
    (R : Ending → World → Prop) (hR : ∀ w', Grow w w' → R (.returned (.bool (blm p ts lines))) w') :
    Calls Tryz.prog 83 #[pv, tv, lv] w R := by
  have HP := Lib.hid hp
  have HT := Lib.hid ht
  have HL := Lib.hid hl
  have HR := Lib.hid hR
  obtain ⟨hval, htv⟩ := chkT_ok.1 hc
  have HC := Lib.hid hc
  have HVAL := Lib.hid hval
  have HTV := Lib.hid (valT_ok.1 htv).2
  have HLN := Lib.hid hln
  have HBA := Lib.hid (blm_any p ts lines)
  have heg : Enters Tryz.prog 140 := enters_of Tryz.func140 (by kernel_rfl) rfl
  have HEG := Lib.hid heg
  obtain ⟨pa, pc, rfl, _⟩ := hp
  obtain ⟨⟨ta, tc, rfl, _⟩, _⟩ := ht
  obtain ⟨la, lc, rfl, _⟩ := hl
  clear hR hc hval htv hln heg
  go_enter Tryz.func83, Tryz.ntmps83
  go_wp2_with fail
  obtain ⟨k0, k1, k2⟩ := heaps3 w (.cells #[.slice pa p.length pc] 35) (.cells #[.slice ta ts.length tc] 43) (.cells #[.slice la lines.length lc] 29)
  have hgW : Grow w (((w.alloc (.cells #[.slice pa p.length pc] 35)).alloc (.cells #[.slice ta ts.length tc] 43)).alloc (.cells #[.slice la lines.length lc] 29)) := (((Grow.refl w).alloc _).alloc _).alloc _
  generalize ((w.alloc (.cells #[.slice pa p.length pc] 35)).alloc (.cells #[.slice ta ts.length tc] 43)).alloc (.cells #[.slice la lines.length lc] 29) = W at k0 k1 k2 hgW ⊢
  obtain ⟨B, hB⟩ : ∃ b, w.heap.size = b := ⟨_, rfl⟩
  rw [hB] at k0 k1 k2 ⊢
  have HK0 := Lib.hid k0
  have HK1 := Lib.hid k1
  have HK2 := Lib.hid k2
  have HGW := Lib.hid hgW
  clear k0 k1 k2 hgW hB
  refine Failing_any p ts _ _ _ (HP.out.grow HGW.out) (HT.out.grow HGW.out) _ ?_
  intro w2 v2 hg2 hv2
  rw [HC.out, ifOK_ok] at hv2
  rw [HC.out]
  have hx2 := hv2.slc encI_len
  have HX2 := Lib.hid hx2
  have HG2 := Lib.hid (HGW.out.trans hg2)
  obtain ⟨a2, c2, rfl, _⟩ := hx2
  have hp1 : PredM 140 (#[] ++ #[.pointer (some ⟨B, 0, none⟩), .pointer (some ⟨B + 1, 0, none⟩), .pointer (some ⟨B + 1 + 1, 0, none⟩)]) w2 (whereL (fun t => !passM p t) ts) (noPass p ts lines) := fun x hx W' hg' R hR => by
    obtain ⟨k, t, rfl, hk, _⟩ := mem_whereL.1 hx
    have hG := HG2.out.trans hg'
    exact itb1_any p ts lines k t hk _ _ _ _ _ _ W' ((hg2.trans hg').blk HK0.out) ((hg2.trans hg').blk HK1.out) ((hg2.trans hg').blk HK2.out) (HP.out.grow hG) (HT.out.grow hG) (HL.out.grow hG) HVAL.out (HTV.out t (List.mem_of_getElem? hk)) HLN.out R hR
  have HP1 := Lib.hid hp1
  clear hg2 hv2 hp1
  go_wp2_with fail
  refine containsFuncM_any 140 _ HEG.out _ _ _ _ HX2.out HP1.out _ ?_
  intro w3 hg3
  rw [HBA.out]
  have HF := Lib.hid (HR.out w3 (HG2.out.trans hg3))
  clear hg3
  generalize blm p ts lines = q at HF ⊢
  cases q <;> (go_wp2_with fail; exact HF.out)
def ibB (p : List Ln) (ts : List Tst) (lines : List Int) : Bool := decide (ibE p ts lines = 0) && blm p ts lines
set_option maxHeartbeats 4000000 in
theorem IsToBlame_any (p : List Ln) (ts : List Tst) (lines : List Int) (pv tv lv : Value) (w : World) (hp : LinesAt w pv p) (ht : TestsAt w tv ts) (hl : IntsAt w lv lines) (hlen : lines.length ≤ 1000000)
    (R : Ending → World → Prop) (hR : ∀ w', Grow w w' → R (.returned (.tuple #[.bool (ibB p ts lines), .int .i64 (ibE p ts lines)])) w') :
    Calls Tryz.prog 35 #[pv, tv, lv] w R := by
  have HP := Lib.hid hp
  have HT := Lib.hid ht
  have HL := Lib.hid hl
  obtain ⟨e, he⟩ : ∃ e, chkT p ts = e := ⟨_, rfl⟩
  obtain ⟨e', he'⟩ : ∃ e, lnE p lines = e := ⟨_, rfl⟩
  have hE : ibE p ts lines = if e = 0 then e' else e := by unfold ibE; rw [he, he']
  unfold ibB at hR
  rw [hE] at hR
  have HR := Lib.hid hR
  have HE := Lib.hid he
  have HE' := Lib.hid he'
  obtain ⟨pa, pc, rfl, _⟩ := hp
  obtain ⟨⟨ta, tc, rfl, _⟩, _⟩ := ht
  obtain ⟨la, lc, rfl, _⟩ := hl
  clear hR hE he he'
  by_cases h0 : e = 0
  rotate_left
  · rw [if_neg h0] at HR
    have t1 : (e != 0) = true := by simpa using h0
    have HF := Lib.hid (fun w' h => show R (.returned (.tuple #[.bool false, .int .i64 e])) w' from by have := HR.out w' h; rw [decide_eq_false h0] at this; exact this)
    clear h0
    go_enter Tryz.func35, Tryz.ntmps35
    go_wp2_with fail
    refine bprograms_any p ts _ _ _ HP.out HT.out _ ?_
    intro w1 hg1
    rw [HE.out]
    have HF2 := Lib.hid (HF.out w1 hg1)
    clear hg1
    go_wp2_with fail
    exact HF2.out
  subst h0
  rw [if_pos rfl] at HR
  have HVAL := Lib.hid (chkT_ok.1 HE.out).1
  by_cases h1 : e' = 0
  rotate_left
  · have t1 : (e' != 0) = true := by simpa using h1
    have HF := Lib.hid (fun w' h => show R (.returned (.tuple #[.bool false, .int .i64 e'])) w' from by have := HR.out w' h; rw [decide_eq_false h1] at this; exact this)
    clear h1
    go_enter Tryz.func35, Tryz.ntmps35
    go_wp2_with fail
    refine bprograms_any p ts _ _ _ HP.out HT.out _ ?_
    intro w1 hg1
    rw [HE.out]
    have HG1 := Lib.hid hg1
    clear hg1
    go_wp2_with fail
    refine forced_any p lines _ _ _ (HP.out.grow HG1.out) (HL.out.grow HG1.out) HVAL.out (by omega) _ ?_
    intro w2 hg2
    rw [HE'.out]
    have HF2 := Lib.hid (HF.out w2 (HG1.out.trans hg2))
    clear hg2
    go_wp2_with fail
    exact HF2.out
  subst h1
  have HF := Lib.hid (fun w' h => show R (.returned (.tuple #[.bool (blm p ts lines), .int .i64 0])) w' from HR.out w' h)
  go_enter Tryz.func35, Tryz.ntmps35
  go_wp2_with fail
  refine bprograms_any p ts _ _ _ HP.out HT.out _ ?_
  intro w1 hg1
  rw [HE.out]
  have HG1 := Lib.hid hg1
  clear hg1
  go_wp2_with fail
  refine forced_any p lines _ _ _ (HP.out.grow HG1.out) (HL.out.grow HG1.out) HVAL.out (by omega) _ ?_
  intro w2 hg2
  rw [HE'.out]
  have HG2 := Lib.hid (HG1.out.trans hg2)
  clear hg2
  go_wp2_with fail
  refine isToBlame_any p ts lines _ _ _ _ (HP.out.grow HG2.out) (HT.out.grow HG2.out) (HL.out.grow HG2.out) HE.out HE'.out _ ?_
  intro w3 hg3
  have HF2 := Lib.hid (HF.out w3 (HG2.out.trans hg3))
  clear hg3
  generalize blm p ts lines = q at HF2 ⊢
  go_wp2_with fail
  exact HF2.out
end Go.Proofs.YtmlbgfnddgbpbaaGreat
