/-
The walks of package blame: CheckPass, the slices of failing tests, and the sets that hit them.
The search for all sets of lines that are to blame: what of memory may turn; plain.
The walks of package blame: the search for all sets of lines that are to blame.
The walk of what the statements of chapter 03 ask first: the blocker and the lines to blame of an example.
-/
import Derived.Test.YtmlbgfnddgbpbaaGreatD12
import Derived.Test.YtmlbgfnddgbpbaaGreatD18
import Derived.Test.YtmlbgfnddgbpbaaGreatD10
import Derived.Test.YtmlbgfnddgbpbaaGreatD20
namespace Go.Proofs.YtmlbgfnddgbpbaaGreat
open Go.RowKit
open Mk Bm

set_option maxRecDepth 100000 in
set_option maxHeartbeats 8000000 in
theorem CheckPass_any (p : List Ln) (t : Tst) (lines vs : List Int) (pv lv vv : Value) (w : World) (hp : LinesAt w pv p) (ht : IntsAt w t.v t.xs) (hl : IntsAt w lv lines) (hv : IntsAt w vv vs) (hlen : lines.length < 4611686018427387904)
    (R : Ending → World → Prop) (hR : ∀ w', Grow w w' → R (.returned (.int .i64 (psE p t lines vs))) w') :
    Calls Tryz.prog 30 #[pv, .agg #[t.v, .int .i64 t.o, .int .i64 t.wt], lv, vv] w R := by
  have HP := Lib.hid hp
  have HT := Lib.hid ht
  have HL := Lib.hid hl
  have HV := Lib.hid hv
  have hps : psE p t lines vs = if chkT p [t] = 0 then (if frcE p t.xs lines vs = 0 then (if fpass p t lines vs then 0 else 7) else frcE p t.xs lines vs) else chkT p [t] := rfl
  rw [hps] at hR
  obtain ⟨e, he⟩ : ∃ e, chkT p [t] = e := ⟨_, rfl⟩
  obtain ⟨e', he'⟩ : ∃ e, frcE p t.xs lines vs = e := ⟨_, rfl⟩
  obtain ⟨s, hs⟩ : ∃ s, (trc p (frc lines vs) 0 (St.ofL t.xs)).2 = s := ⟨_, rfl⟩
  have hfp : fpass p t lines vs = decide (s.get t.o = t.wt) := by unfold fpass; rw [hs]
  have hfm : frcM p t.xs lines vs = ifOK e' s.toL := by unfold frcM; rw [he', hs]
  rw [he, he', hfp] at hR
  have HE := Lib.hid he
  have HE' := Lib.hid he'
  have HFM := Lib.hid hfm
  obtain ⟨v, xs, o, wt⟩ := t
  dsimp only at ht HT HE HE' HFM hR ⊢
  have HR := Lib.hid hR
  obtain ⟨pa, pc, rfl, _⟩ := hp
  obtain ⟨sa, sc, rfl, _⟩ := ht
  obtain ⟨la, lc, rfl, _⟩ := hl
  obtain ⟨va, vc, rfl, _⟩ := hv
  clear hR hps he he' hs hfp hfm
  have hb0 := heap_two0 w (.cells #[.slice sa xs.length sc, .int .i64 o, .int .i64 wt] 37) (.cells #[.slice sa xs.length sc, .int .i64 o, .int .i64 wt] 37)
  have hg2 : Grow w ((w.alloc (.cells #[.slice sa xs.length sc, .int .i64 o, .int .i64 wt] 37)).alloc (.cells #[.slice sa xs.length sc, .int .i64 o, .int .i64 wt] 37)) := ((Grow.refl w).alloc _).alloc _
  have htl := tests_lit (w.alloc (.cells #[.slice sa xs.length sc, .int .i64 o, .int .i64 wt] 37)) ⟨.slice sa xs.length sc, xs, o, wt⟩ 37 (HT.out.grow ((Grow.refl w).alloc _))
  rw [World.size_alloc] at htl
  have HB0 := Lib.hid hb0
  have HG2 := Lib.hid hg2
  have HTL := Lib.hid htl
  clear hb0 hg2 htl
  by_cases h0 : e = 0
  rotate_left
  · rw [if_neg h0] at HR
    have t1 : (e != 0) = true := by simpa using h0
    clear h0
    go_enter Tryz.func30, Tryz.ntmps30
    go_wp2_with fail
    generalize (w.alloc (.cells #[.slice sa xs.length sc, .int .i64 o, .int .i64 wt] 37)).alloc (.cells #[.slice sa xs.length sc, .int .i64 o, .int .i64 wt] 37) = W at HB0 HG2 HTL ⊢
    refine bprograms_any p [⟨.slice sa xs.length sc, xs, o, wt⟩] _ _ _ (HP.out.grow HG2.out) HTL.out _ ?_
    intro w3 hg3
    rw [HE.out]
    have HG3 := Lib.hid (HG2.out.trans hg3)
    have HB3 := Lib.hid (hg3.blk HB0.out)
    obtain ⟨d0, d1, d2⟩ := box3 HB3.out
    have hdz := lt_of_block HB3.out
    clear hg3
    have HF := Lib.hid (HR.out w3 HG3.out)
    go_wp2_with fail
    exact HF.out
  subst h0
  rw [if_pos rfl] at HR
  obtain ⟨hval, htv⟩ := chkT_ok.1 HE.out
  have htok := (valT_ok.1 htv).2 _ (List.mem_cons_self ..)
  obtain ⟨_, ⟨k2, k3⟩, _⟩ := Tst.ok_iff.1 htok
  dsimp only at k2 k3
  clear hval htv htok
  by_cases h1 : e' = 0
  rotate_left
  · rw [if_neg h1] at HR
    have t1 : (e' != 0) = true := by simpa using h1
    rw [ifOK_err h1] at HFM
    clear h1
    go_enter Tryz.func30, Tryz.ntmps30
    go_wp2_with fail
    generalize (w.alloc (.cells #[.slice sa xs.length sc, .int .i64 o, .int .i64 wt] 37)).alloc (.cells #[.slice sa xs.length sc, .int .i64 o, .int .i64 wt] 37) = W at HB0 HG2 HTL ⊢
    refine bprograms_any p [⟨.slice sa xs.length sc, xs, o, wt⟩] _ _ _ (HP.out.grow HG2.out) HTL.out _ ?_
    intro w3 hg3
    rw [HE.out]
    have HG3 := Lib.hid (HG2.out.trans hg3)
    have HB3 := Lib.hid (hg3.blk HB0.out)
    obtain ⟨d0, d1, d2⟩ := box3 HB3.out
    have hdz := lt_of_block HB3.out
    clear hg3
    go_wp2_with fail
    refine Force_any p xs lines vs _ _ _ _ _ (HP.out.grow HG3.out) (HT.out.grow HG3.out) (HL.out.grow HG3.out) (HV.out.grow HG3.out) hlen _ ?_
    intro w4 x4 hg4 hx4
    rw [HE'.out]
    rw [HFM.out] at hx4
    have HG4 := Lib.hid (HG3.out.trans hg4)
    have HF := Lib.hid (HR.out w4 HG4.out)
    obtain ⟨a4, c4, rfl, _⟩ := hx4
    clear hg4
    go_wp2_with fail
    exact HF.out
  subst h1
  rw [if_pos rfl] at HR
  rw [ifOK_ok] at HFM
  obtain ⟨q, hq⟩ : ∃ q, s.get o = q := ⟨_, rfl⟩
  rw [hq] at HR
  have hx : s.toL[o.toNat]? = some q := by rw [toL_get s o k2 k3, hq]
  have HX := Lib.hid hx
  clear hq hx
  obtain ⟨n, rfl⟩ : ∃ n : Nat, o = n := ⟨o.toNat, by omega⟩
  go_enter Tryz.func30, Tryz.ntmps30
  go_wp2_with fail
  generalize (w.alloc (.cells #[.slice sa xs.length sc, .int .i64 (n : Int), .int .i64 wt] 37)).alloc (.cells #[.slice sa xs.length sc, .int .i64 (n : Int), .int .i64 wt] 37) = W at HB0 HG2 HTL ⊢
  refine bprograms_any p [⟨.slice sa xs.length sc, xs, (n : Int), wt⟩] _ _ _ (HP.out.grow HG2.out) HTL.out _ ?_
  intro w3 hg3
  rw [HE.out]
  have HG3 := Lib.hid (HG2.out.trans hg3)
  have HB3 := Lib.hid (hg3.blk HB0.out)
  obtain ⟨d0, d1, d2⟩ := box3 HB3.out
  have hdz := lt_of_block HB3.out
  clear hg3
  go_wp2_with fail
  refine Force_any p xs lines vs _ _ _ _ _ (HP.out.grow HG3.out) (HT.out.grow HG3.out) (HL.out.grow HG3.out) (HV.out.grow HG3.out) hlen _ ?_
  intro w4 x4 hg4 hx4
  rw [HE'.out]
  rw [HFM.out] at hx4
  have HG4 := Lib.hid (HG3.out.trans hg4)
  have hll4 : s.toL.length = 4 := rfl
  obtain ⟨a4, c4, rfl, q1, q2, q3⟩ := hx4
  have hx3 : IntsAt w4 (.slice a4 s.toL.length c4) s.toL := ⟨a4, c4, rfl, q1, q2, q3⟩
  obtain ⟨gb, go, rfl, hgb, f0⟩ := ints_at hx3 (k := n) (x := q) (by have := HX.out; simpa using this)
  rw [hll4]
  have hn4 : (n : Int) < 4 := by omega
  have hn0 : (0 : Int) ≤ (n : Int) := by omega
  have u1 := hg4.cell d1
  have u2 := hg4.cell d2
  have hdz2 := Nat.lt_of_lt_of_le hdz hg4.sz
  have HRW := Lib.hid (fun k => HR.out (w4.drewN k) (HG4.out.drewN k))
  clear hg4 hx3 q1 q2 q3 hll4 d0 d1 d2 hdz
  by_cases hqw : q = wt
  · have t1 : (q != wt) = false := by simpa using hqw
    rw [decide_eq_true hqw] at HRW
    have HF := Lib.hid (fun k => show R (.returned (.int .i64 0)) (w4.drewN k) from HRW.out k)
    clear hqw
    go_wp2_with (go_quiet (fail))
    exact HF.out _
  · have t1 : (q != wt) = true := by simpa using hqw
    rw [decide_eq_false hqw] at HRW
    have HF := Lib.hid (fun k => show R (.returned (.int .i64 7)) (w4.drewN k) from HRW.out k)
    clear hqw
    go_wp2_with (go_quiet (fail))
    exact HF.out _
theorem slcs_len2 (p : List Ln) (ts : List Tst) (k : Nat) : (slcs p (ts.take k)).length ≤ k := by have := slcs_len p (ts.take k); rw [List.length_take] at this; omega
/-- The slices of the tests with these numbers. -/
def slK (p : List Ln) (ts : List Tst) (is : List Int) : List (List Int) := is.map fun i => match ts[i.toNat]? with | some t => sliceM p t.xs t.o | none => []
theorem slK_take {p : List Ln} {ts : List Tst} {is : List Int} {k q : Nat} {t : Tst} (h : is[k]? = some (q : Int)) (ht : ts[q]? = some t) : slK p ts (is.take (k + 1)) = slK p ts (is.take k) ++ [sliceM p t.xs t.o] := by
  unfold slK
  rw [List.take_add_one, h, List.map_append]
  simp [ht]
theorem slK_all (p : List Ln) (ts : List Tst) : slK p ts (whereL (fun t => !passM p t) ts) = slcs p ts := by
  have key : ∀ n, n ≤ ts.length → slK p ts (whereN (fun t => !passM p t) ts n) = slcs p (ts.take n) := by
    intro n
    induction n with
    | zero => intro _; rfl
    | succ n ih =>
      intro hn
      have ht : ts[n]? = some ts[n] := List.getElem?_eq_getElem (by omega)
      rw [whereN_succ ht]
      have e1 : ts.take (n + 1) = ts.take n ++ [ts[n]] := by rw [List.take_add_one, ht]; rfl
      rw [e1]
      unfold slK slcs at ih ⊢
      rw [List.map_append, ih (by omega), List.filter_append, List.map_append]
      congr 1
      cases h : passM p ts[n]
      · simp [h, ht]
      · simp [h]
  have := key ts.length (Nat.le_refl _)
  rwa [whereN_all, List.take_length] at this
set_option maxRecDepth 100000 in
set_option maxHeartbeats 16000000 in
theorem slicesOf_any (p : List Ln) (ts : List Tst) (pv tv : Value) (w : World) (hp : LinesAt w pv p) (ht : TestsAt w tv ts) (hc : chkT p ts = 0) (R : Ending → World → Prop) (hR : ∀ w' v, Grow w w' → FamAt w' v (slcs p ts) → R (.returned v) w') :
    Calls Tryz.prog 108 #[pv, tv] w R := by
  have HP := Lib.hid hp
  have HT := Lib.hid ht
  have HC := Lib.hid hc
  have HR := Lib.hid hR
  obtain ⟨hval, htv⟩ := chkT_ok.1 hc
  obtain ⟨ht8, htok⟩ := valT_ok.1 htv
  have HVAL := Lib.hid hval
  have HTOK := Lib.hid htok
  obtain ⟨pa, pc, rfl, _⟩ := hp
  obtain ⟨⟨ta, tc, rfl, t1, t2, _⟩, _⟩ := ht
  clear hR hc hval htv htok
  go_enter Tryz.func108, Tryz.ntmps108
  go_wp2_with fail
  refine Failing_any p ts _ _ _ HP.out HT.out _ ?_
  intro w2 v2 hg2 hv2
  rw [HC.out, ifOK_ok] at hv2
  rw [HC.out]
  have hx2 := hv2.slc encI_len
  obtain ⟨FL, hFL⟩ : ∃ z, whereL (fun t => !passM p t) ts = z := ⟨_, rfl⟩
  rw [hFL] at hx2
  have HFL := Lib.hid hFL
  have hfl8 : FL.length ≤ 8 := by rw [← hFL]; have := whereN_len (fun t => !passM p t) ts ts.length; rw [whereN_all] at this; omega
  have HX2 := Lib.hid hx2
  have HG2 := Lib.hid hg2
  obtain ⟨a2, c2, rfl, x1, x2, _⟩ := hx2
  clear hg2 hv2 hFL
  go_wp2_with fail
  go_loopw [7, 9, 10, 11, 20] (fun out _ _ _ i wr => ∃ (k : Nat) (L : List (Lo Int)), k ≤ FL.length ∧ i = .int .i64 k ∧ Grow w2 wr ∧ LoOwn w2.heap.size 29 1 encI wr out L ∧ L.map Lo.x = slK p ts (FL.take k)) (fun _ _ _ _ i _ => FL.length - (intOf i).toNat)
  case atStart => exact ⟨0, [], Nat.zero_le _, rfl, Grow.refl _, LoOwn.nil _ _ _ _ _, rfl⟩
  case round =>
    obtain ⟨k, L, hk, rfl, hg, how, hmp⟩ := hrel
    have HG := Lib.hid hg
    have HO := Lib.hid how
    have HMP := Lib.hid hmp
    have hzj := hg.sz
    have hLk : L.length = k := by
      have := congrArg List.length hmp
      unfold slK at this
      rw [List.length_map, List.length_map, List.length_take] at this; omega
    have HLE := Lib.hid (show L.length < 100000000000 by omega)
    clear hg how hmp hLk
    by_cases hlt : k < FL.length
    · obtain ⟨i, hi⟩ : ∃ x, FL[k]? = some x := ⟨_, List.getElem?_eq_getElem hlt⟩
      have hmem := List.mem_of_getElem? hi
      rw [← HFL.out] at hmem
      obtain ⟨q, t, rfl, hq, _⟩ := mem_whereL.1 hmem
      obtain ⟨gf, of, rfl, hgf, e0⟩ := ints_at (HX2.out.grow HG.out) hi
      have HTK := Lib.hid (slK_take (p := p) hi hq)
      have hto := HTOK.out t (List.mem_of_getElem? hq)
      have hti := (HT.out.grow (HG2.out.trans HG.out)).ins _ (List.mem_of_getElem? hq)
      have hql : q < ts.length := (List.getElem?_eq_some_iff.1 hq).1
      obtain ⟨gt, ot, hta, hgt, f0, f1, f2⟩ := tests_at (HT.out.grow (HG2.out.trans HG.out)).at_ hq
      obtain ⟨v, xs, o, wt⟩ := t
      obtain ⟨m1, ⟨m2, m3⟩, _⟩ := Tst.ok_iff.1 hto
      have hse : sliceE p xs o = 0 := by unfold sliceE; rw [if_pos (chk_ok.2 ⟨HVAL.out, m1⟩), inB_true.2 ⟨m2, m3⟩]; rfl
      have HSE := Lib.hid hse
      obtain ⟨sa, sc, hve, s1, s2, s3⟩ := hti
      dsimp only at f0 f1 f2 HTK hve
      subst hve
      have HTI := Lib.hid (show IntsAt wr (.slice sa xs.length sc) xs from ⟨sa, sc, rfl, s1, s2, s3⟩)
      have hlt2 : (k : Int) < (FL.length : Int) := by omega
      have hq2 : (q : Int) < (ts.length : Int) := by omega
      have hq0 : (0 : Int) ≤ (q : Int) := by omega
      have HPR := Lib.hid (HP.out.grow (HG2.out.trans HG.out))
      clear hi hmem hq hto hse m1 s3 f2
      subst hta
      go_wp2_with fail
      refine wp_region_held_drew (S := fun X => Grow wr X) (by kernel_rfl) ((Grow.refl wr).drew) (fun hH => ?_)
      refine wpAnyH_take (i := 0) (v := .slice pa p.length pc) rfl (by kernel_rfl) (by kernel_rfl) (by kernel_rfl) (fun _ _ _ h => h) (Or.inl ⟨by rfl, ?_⟩) hH ?_
      · intro w9 hw9
        go_simp
      try simp only [List.getElem_toArray, List.getElem_cons_zero, Act.put, List.setIfInBounds_toArray, List.set_cons_zero, List.set_cons_succ]
      refine wpAnyH_take (i := 1) (v := .slice (some ⟨gt, ot, none⟩) ts.length tc) rfl (by kernel_rfl) (by kernel_rfl) (by kernel_rfl) (fun _ _ _ h => h) (Or.inl ⟨by rfl, ?_⟩) hH ?_
      · intro w9 hw9
        go_simp
      try simp only [List.getElem_toArray, List.getElem_cons_succ, List.getElem_cons_zero, Act.put, List.setIfInBounds_toArray, List.set_cons_zero, List.set_cons_succ]
      refine wpAnyH_take (i := 2) (v := .int .i64 (q : Int)) rfl (by kernel_rfl) (by kernel_rfl) (by kernel_rfl) (fun _ _ _ h => h) (Or.inl ⟨by rfl, ?_⟩) hH ?_
      · intro w9 hw9
        go_simp
      try simp only [List.getElem_toArray, List.getElem_cons_succ, List.getElem_cons_zero, Act.put, List.setIfInBounds_toArray, List.set_cons_zero, List.set_cons_succ]
      refine wpAnyH_take (i := 3) (v := .pointer (some ⟨gt, ot + q * 3, none⟩)) rfl (by kernel_rfl) (by kernel_rfl) (by kernel_rfl) (fun _ _ _ h => h) (Or.inl ⟨by rfl, ?_⟩) hH ?_
      · intro w9 hw9
        have hz := hw9.sz
        go_simp
      try simp only [List.getElem_toArray, List.getElem_cons_succ, List.getElem_cons_zero, Act.put, List.setIfInBounds_toArray, List.set_cons_zero, List.set_cons_succ]
      refine wpAnyH_take (i := 4) (v := .pointer (some ⟨gt, ot + q * 3, none⟩)) rfl (by kernel_rfl) (by kernel_rfl) (by kernel_rfl) (fun _ _ _ h => h) (Or.inl ⟨by rfl, ?_⟩) hH ?_
      · intro w9 hw9
        have hz := hw9.sz
        go_simp
      try simp only [List.getElem_toArray, List.getElem_cons_succ, List.getElem_cons_zero, Act.put, List.setIfInBounds_toArray, List.set_cons_zero, List.set_cons_succ]
      refine wpAnyH_take (i := 5) (v := .slice sa xs.length sc) rfl (by kernel_rfl) (by kernel_rfl) (by kernel_rfl) (fun _ _ _ h => h) (Or.inl ⟨by rfl, ?_⟩) hH ?_
      · intro w9 hw9
        have u0 := hw9.cell f0
        go_simp
      try simp only [List.getElem_toArray, List.getElem_cons_succ, List.getElem_cons_zero, Act.put, List.setIfInBounds_toArray, List.set_cons_zero, List.set_cons_succ]
      refine wpAnyH_take (i := 6) (v := .slice (some ⟨gt, ot, none⟩) ts.length tc) rfl (by kernel_rfl) (by kernel_rfl) (by kernel_rfl) (fun _ _ _ h => h) (Or.inl ⟨by rfl, ?_⟩) hH ?_
      · intro w9 hw9
        go_simp
      try simp only [List.getElem_toArray, List.getElem_cons_succ, List.getElem_cons_zero, Act.put, List.setIfInBounds_toArray, List.set_cons_zero, List.set_cons_succ]
      refine wpAnyH_take (i := 7) (v := .int .i64 (q : Int)) rfl (by kernel_rfl) (by kernel_rfl) (by kernel_rfl) (fun _ _ _ h => h) (Or.inl ⟨by rfl, ?_⟩) hH ?_
      · intro w9 hw9
        go_simp
      try simp only [List.getElem_toArray, List.getElem_cons_succ, List.getElem_cons_zero, Act.put, List.setIfInBounds_toArray, List.set_cons_zero, List.set_cons_succ]
      refine wpAnyH_take (i := 8) (v := .pointer (some ⟨gt, ot + q * 3, none⟩)) rfl (by kernel_rfl) (by kernel_rfl) (by kernel_rfl) (fun _ _ _ h => h) (Or.inl ⟨by rfl, ?_⟩) hH ?_
      · intro w9 hw9
        have hz := hw9.sz
        go_simp
      try simp only [List.getElem_toArray, List.getElem_cons_succ, List.getElem_cons_zero, Act.put, List.setIfInBounds_toArray, List.set_cons_zero, List.set_cons_succ]
      refine wpAnyH_take (i := 9) (v := .pointer (some ⟨gt, ot + q * 3 + 1, none⟩)) rfl (by kernel_rfl) (by kernel_rfl) (by kernel_rfl) (fun _ _ _ h => h) (Or.inl ⟨by rfl, ?_⟩) hH ?_
      · intro w9 hw9
        have hz := hw9.sz
        go_simp
      try simp only [List.getElem_toArray, List.getElem_cons_succ, List.getElem_cons_zero, Act.put, List.setIfInBounds_toArray, List.set_cons_zero, List.set_cons_succ]
      refine wpAnyH_take (i := 10) (v := .int .i64 o) rfl (by kernel_rfl) (by kernel_rfl) (by kernel_rfl) (fun _ _ _ h => h) (Or.inl ⟨by rfl, ?_⟩) hH ?_
      · intro w9 hw9
        have u0 := hw9.cell f1
        go_simp
      try simp only [List.getElem_toArray, List.getElem_cons_succ, List.getElem_cons_zero, Act.put, List.setIfInBounds_toArray, List.set_cons_zero, List.set_cons_succ]
      refine wpAnyH_ready (rs := [11]) (by kernel_rfl) (by simp) ?_
      refine AllReadyH.cons rfl (fun K hK => ?_) AllReadyH.nil
      go_simp
      clear e0 f0 f1
      refine SliceN_any p xs o _ _ _ (HPR.out.grow hH) (HTI.out.grow hH) _ ?_
      intro w5 x5 hg5 hx5 hn5
      have hH3 : Grow wr w5 := Grow.trans hH hg5
      rw [HSE.out]
      rw [HSE.out, ifOK_ok] at hx5
      have hx6 := hx5
      obtain ⟨a5, c5, hve, q1, q2, jk⟩ := hx6
      subst hve
      have HX5 := Lib.hid hx5
      have HN5 := Lib.hid hn5
      have hwz : wr.heap.size ≤ wr.drew.heap.size := Nat.le_refl _
      have HOF := Lib.hid (show ∀ b oo s, a5 = some ⟨b, oo, s⟩ → u7.ownBlock ≠ some b ∧ b < w5.heap.size from fun b oo s h => by
        obtain ⟨k1, k2⟩ := hn5 _ _ _ (by rw [h])
        exact ⟨fun he => by have := HO.out.lt he; have k3 := Grow.sz hH; dsimp only at k1; omega, k2⟩)
      have HO5 := Lib.hid (HO.out.grow hH3)
      have HG5 := Lib.hid (HG.out.trans hH3)
      have hz5 := Grow.sz hH3
      clear jk hx5 hn5 hg5
      go_wp2_with fail
      refine hK.out _ _ hH3 (fun hH2 => ?_)
      clear hK K hH
      have hH := hH2
      clear hH2
      try simp only [List.getElem_toArray, List.getElem_cons_succ, List.getElem_cons_zero, Act.put, List.setIfInBounds_toArray, List.set_cons_zero, List.set_cons_succ]
      refine wpAnyH_take (i := 12) (v := .tuple #[.slice a5 (sliceM p xs o).length c5, .int .i64 0]) rfl (by kernel_rfl) (by kernel_rfl) (by kernel_rfl) (fun _ _ _ h => h) (Or.inl ⟨by rfl, ?_⟩) hH ?_
      · intro w9 hw9
        go_simp
      try simp only [List.getElem_toArray, List.getElem_cons_succ, List.getElem_cons_zero, Act.put, List.setIfInBounds_toArray, List.set_cons_zero, List.set_cons_succ]
      refine wpAnyH_take (i := 13) (v := .slice a5 (sliceM p xs o).length c5) rfl (by kernel_rfl) (by kernel_rfl) (by kernel_rfl) (fun _ _ _ h => h) (Or.inl ⟨by rfl, ?_⟩) hH ?_
      · intro w9 hw9
        go_simp
      try simp only [List.getElem_toArray, List.getElem_cons_succ, List.getElem_cons_zero, Act.put, List.setIfInBounds_toArray, List.set_cons_zero, List.set_cons_succ]
      refine wpAnyH_take (i := 14) (v := .int .i64 0) rfl (by kernel_rfl) (by kernel_rfl) (by kernel_rfl) (fun _ _ _ h => h) (Or.inl ⟨by rfl, ?_⟩) hH ?_
      · intro w9 hw9
        go_simp
      try simp only [List.getElem_toArray, List.getElem_cons_succ, List.getElem_cons_zero, Act.put, List.setIfInBounds_toArray, List.set_cons_zero, List.set_cons_succ]
      refine wpAnyH_take (i := 15) (v := .slice a5 (sliceM p xs o).length c5) rfl (by kernel_rfl) (by kernel_rfl) (by kernel_rfl) (fun _ _ _ h => h) (Or.inl ⟨by rfl, ?_⟩) hH ?_
      · intro w9 hw9
        go_simp
      try simp only [List.getElem_toArray, List.getElem_cons_succ, List.getElem_cons_zero, Act.put, List.setIfInBounds_toArray, List.set_cons_zero, List.set_cons_succ]
      refine wpAnyH_take (i := 16) (v := .int .i64 0) rfl (by kernel_rfl) (by kernel_rfl) (by kernel_rfl) (fun _ _ _ h => h) (Or.inl ⟨by rfl, ?_⟩) hH ?_
      · intro w9 hw9
        go_simp
      try simp only [List.getElem_toArray, List.getElem_cons_succ, List.getElem_cons_zero, Act.put, List.setIfInBounds_toArray, List.set_cons_zero, List.set_cons_succ]
      refine wpAnyH_done (by kernel_rfl) ?_ _
      clear hH hH3
      go_wp2_with (at_builtin; refine wpList_appAt _ rfl (.tmp 39) (.tmp 41) 22 rfl w2.heap.size 29 Tryz.underlying22 info_sli rfl (by decide) (by decide) encLo encLo_len encLo_one _ L rfl (((Grow.refl w5).alloc _).owns HO5.out.row) _ (⟨a5, (sliceM p xs o).length, c5, sliceM p xs o⟩ : Lo Int) 1 rfl (newsG _ _ (by simp) (encLo (⟨a5, (sliceM p xs o).length, c5, sliceM p xs o⟩ : Lo Int)) _) HLE.out (by simp; omega) ?_; intro out2 w6 hown6 hgr6 hat6)
      have hgA := (Grow.refl w5).alloc (.cells #[.slice a5 (sliceM p xs o).length c5] 29)
      have HG6 := Lib.hid (show Grow w2 w6 from grown_below HO5.out.row hgr6 (Nat.le_refl _) (by simp; omega) (HG5.out.alloc _))
      have hoff : ∀ b oo s, a5 = some ⟨b, oo, s⟩ → u7.ownBlock ≠ some b ∧ b < (w5.alloc (.cells #[.slice a5 (sliceM p xs o).length c5] 29)).heap.size := fun b oo s h => ⟨(HOF.out b oo s h).1, by have := (HOF.out b oo s h).2; simp; omega⟩
      have HO6 := Lib.hid ((HO5.out.grow hgA).app (t := (⟨a5, (sliceM p xs o).length, c5, sliceM p xs o⟩ : Lo Int)) hgr6 hown6 hat6 (HX5.out.grow hgA) hoff)
      clear hown6 hgr6 hat6 hoff hgA
      go_roundw
      case rel => exact ⟨k + 1, L ++ [(⟨a5, (sliceM p xs o).length, c5, sliceM p xs o⟩ : Lo Int)], by omega, by go_num, HG6.out, HO6.out, by rw [List.map_append, HMP.out, HTK.out]; rfl⟩
      case measure => simp [intOf]; omega
    · have hkn : k = FL.length := by omega
      have hmp := HMP.out
      rw [hkn, List.take_length, ← HFL.out, slK_all] at hmp
      have HF := Lib.hid (HR.out wr _ (HG2.out.trans HG.out) ⟨L, HO.out.at_, HO.out.ins, hmp⟩)
      clear hkn hmp
      go_wp2_with fail
      exact HF.out
end Go.Proofs.YtmlbgfnddgbpbaaGreat

namespace Go.Proofs.YtmlbgfnddgbpbaaGreat
open Go.RowKit
open Mk Bm

/-- Nothing that was there has turned but the block bo and the block of the list v; the list is v' now. -/
structure ButO (bo : Nat) (v : Value) (a b : World) (v' : Value) : Prop where
  size : a.heap.size ≤ b.heap.size
  block : ∀ k, k < a.heap.size → k ≠ bo → v.ownBlock ≠ some k → b.heap[k]? = a.heap[k]?
  own : v'.ownBlock = v.ownBlock ∨ ∃ k, v'.ownBlock = some k ∧ a.heap.size ≤ k
/-- A slice lies elsewhere. -/
def OffO (bo : Nat) (v : Value) (W : World) (lv : Value) : Prop := ∀ b o s n c, lv = .slice (some ⟨b, o, s⟩) n c → b ≠ bo ∧ v.ownBlock ≠ some b ∧ b < W.heap.size
namespace ButO
variable {bo : Nat} {v v' v'' : Value} {a b c : World}
theorem refl (bo : Nat) (v : Value) (a : World) : ButO bo v a a v := ⟨Nat.le_refl _, fun _ _ _ _ => rfl, .inl rfl⟩
theorem trans (h : ButO bo v a b v') (k : ButO bo v' b c v'') : ButO bo v a c v'' := by
  refine ⟨Nat.le_trans h.size k.size, fun i hi h1 h2 => ?_, ?_⟩
  · rw [k.block i (Nat.lt_of_lt_of_le hi h.size) h1 ?_, h.block i hi h1 h2]
    rcases h.own with e | ⟨j, e, hj⟩
    · rw [e]; exact h2
    · rw [e]; intro e2; cases e2; omega
  · rcases k.own with e | ⟨j, e, hj⟩
    · rw [e]; exact h.own
    · exact .inr ⟨j, e, Nat.le_trans h.size hj⟩
theorem of_grow (h : Grow a b) : ButO bo v a b v := ⟨h.sz, fun _ hk _ _ => h.heap hk, .inl rfl⟩
theorem blk (h : ButO bo v a b v') {k : Nat} {o : Obj} (hk : a.heap[k]? = some o) (h1 : k ≠ bo) (h2 : v.ownBlock ≠ some k) : b.heap[k]? = some o := (h.block k (lt_of_block hk) h1 h2).trans hk
theorem off (h : ButO bo v a b v') {lv : Value} (hl : OffO bo v a lv) : OffO bo v' b lv := fun i o s n c e => by
  obtain ⟨h1, h2, h3⟩ := hl i o s n c e
  refine ⟨h1, ?_, Nat.lt_of_lt_of_le h3 h.size⟩
  rcases h.own with e | ⟨j, e, hj⟩
  · rw [e]; exact h2
  · rw [e]; intro e2; cases e2; omega
theorem slc {α : Type} {k : Nat} {enc : α → List Value} {lv : Value} {xs : List α} (h : ButO bo v a b v') (hs : SlcAt k enc a lv xs) (hl : OffO bo v a lv) : SlcAt k enc b lv xs := by
  obtain ⟨p, c, h1, h2, h3, h4⟩ := hs
  refine ⟨p, c, h1, h2, h3, h4.imp id ?_⟩
  rintro ⟨i, o, e, hb, hc⟩
  subst e
  obtain ⟨n1, n2, _⟩ := hl i o none _ _ h1
  refine ⟨i, o, rfl, Nat.lt_of_lt_of_le hb h.size, fun j x hx q u hu => ?_⟩
  have hcc := hc j x hx q u hu
  have := h.block i hb n1 n2
  unfold World.cell? at *
  rw [this]; exact hcc
end ButO
theorem OffO.nil (bo : Nat) (v : Value) (W : World) : OffO bo v W (.slice none 0 0) := fun _ _ _ _ _ e => by cases e
/-- A list that was made later. -/
theorem OffO.new {bo : Nat} {v : Value} {W' : World} {k : Nat} {base : Nat} {e : TypeId} {x : Value} {n : Nat} {xs : List Value} (h : W'.ownsRow base e k x n xs) (h1 : bo < base) (h2 : ∀ j, v.ownBlock = some j → j < base) : OffO bo v W' x := fun b o s n c he => by
  subst he
  obtain ⟨h3, h4⟩ := h.lt b rfl
  exact ⟨by omega, fun e => by have := h2 b e; omega, h4⟩
/-- The list that is made, in its box. -/
structure OutO (bo base : Nat) (W : World) (v : Value) (acc : List (List Int)) : Prop where
  box : W.heap[bo]? = some (.cells #[v] 22 (0, 0))
  row : ∃ L, LoOwn base 29 1 encI W v L ∧ L.map Lo.x = acc ∧ ∀ t ∈ L, ∀ b o s, t.a = some ⟨b, o, s⟩ → b ≠ bo
theorem OutO.grow {bo base : Nat} {W W' : World} {v : Value} {acc : List (List Int)} (h : OutO bo base W v acc) (g : Grow W W') : OutO bo base W' v acc :=
  ⟨g.blk h.box, let ⟨L, h1, h2, h3⟩ := h.row; ⟨L, h1.grow g, h2, h3⟩⟩
theorem OutO.ge {bo base : Nat} {W : World} {v : Value} {acc : List (List Int)} (h : OutO bo base W v acc) {j : Nat} (hj : v.ownBlock = some j) : base ≤ j ∧ j < W.heap.size := let ⟨_, h1, _⟩ := h.row; h1.row.lt j hj
theorem OutO.fam {bo base : Nat} {W : World} {v : Value} {acc : List (List Int)} (h : OutO bo base W v acc) : FamAt W v acc := let ⟨L, h1, h2, _⟩ := h.row; ⟨L, h1.at_, h1.ins, h2⟩
/-- One more list. -/
theorem OutO.app {bo base : Nat} {W W6 : World} {v v' : Value} {L : List (Lo Int)} {t : Lo Int} {lit : Obj} (hbo : bo < base) (hbox : W.heap[bo]? = some (.cells #[v] 22 (0, 0))) (hL : LoOwn base 29 1 encI W v L) (hN : ∀ t ∈ L, ∀ b o s, t.a = some ⟨b, o, s⟩ → b ≠ bo)
    (ht : IntsAt W t.v t.x) (hoff : ∀ b o s, t.a = some ⟨b, o, s⟩ → b ≠ bo ∧ v.ownBlock ≠ some b ∧ b < W.heap.size)
    (hown : W6.ownsRow base 29 1 v' (L ++ [t]).length ((L ++ [t]).flatMap encLo)) (hgr : (W.alloc lit).grownBy W6 v.ownBlock) (hat : v'.ownBlock = v.ownBlock ∨ v'.ownBlock = some (W.alloc lit).heap.size) :
    W6.heap[bo]? = some (.cells #[v] 22 (0, 0)) ∧ OutO bo base (W6.setCell ⟨bo, 0, none⟩ v') v' ((L ++ [t]).map Lo.x) ∧ ButO bo v W (W6.setCell ⟨bo, 0, none⟩ v') v' := by
  have hga : Grow W (W.alloc lit) := (Grow.refl W).alloc lit
  have hvb : v.ownBlock ≠ some bo := fun e => by have := (hL.row.lt bo e).1; omega
  have hA := (hL.grow hga).app hgr hown hat (ht.grow hga) (fun b o s e => ⟨(hoff b o s e).2.1, Nat.lt_of_lt_of_le (hoff b o s e).2.2 hga.sz⟩)
  have hbx : W6.heap[bo]? = some (.cells #[v] 22 (0, 0)) := by
    have h1 := hga.blk hbox
    rw [hgr.block bo (lt_of_block h1) (fun e => hvb e.symm)]; exact h1
  have hNN : ∀ u ∈ L ++ [t], ∀ b o s, u.a = some ⟨b, o, s⟩ → b ≠ bo := fun u hu b o s e => by
    rcases List.mem_append.1 hu with hu | hu
    · exact hN u hu b o s e
    · simp at hu; subst hu; exact (hoff b o s e).1
  have hkeep : ∀ j, j ≠ bo → (W6.setCell ⟨bo, 0, none⟩ v').heap[j]? = W6.heap[j]? := fun j hj => Below.heap_setCell _ _ _ _ (by simpa using hj)
  refine ⟨hbx, ⟨by rw [heap_setCell_same W6 bo _ _ _ _ hbx]; rfl, L ++ [t], ⟨?_, ?_, ?_⟩, rfl, hNN⟩, ⟨?_, ?_, ?_⟩⟩
  · simpa using ownsRow_setCell_below hown (by simpa using hbo) v'
  · intro u hu
    obtain ⟨p, c, h1, h2, h3, h4⟩ := hA.ins u hu
    refine ⟨p, c, h1, h2, h3, h4.imp id ?_⟩
    rintro ⟨i, o, e, hb, hc⟩
    have hne : i ≠ bo := hNN u hu i o none (by have h5 : (Value.slice u.a u.n u.c) = .slice p u.x.length c := h1; injection h5 with h6; rw [h6, e])
    refine ⟨i, o, e, by rw [World.size_setCell]; exact hb, fun j x hx q z hz => ?_⟩
    have hcc := hc j x hx q z hz
    have := hkeep i hne
    unfold World.cell? at *
    rw [this]; exact hcc
  · intro u hu b o s e
    have := hA.off u hu b o s e
    exact ⟨this.1, by rw [World.size_setCell]; exact this.2⟩
  · rw [World.size_setCell]; exact Nat.le_trans hga.sz hgr.size
  · intro k hk h1 h2
    rw [hkeep k h1, hgr.block k (Nat.lt_of_lt_of_le hk hga.sz) (fun e => h2 e.symm)]
    exact hga.heap hk
  · rcases hat with e | e
    · exact .inl e
    · exact .inr ⟨_, e, hga.sz⟩
end Go.Proofs.YtmlbgfnddgbpbaaGreat

namespace Go.Proofs.YtmlbgfnddgbpbaaGreat
open Go.RowKit
open Mk Bm

/-- What the search has captured: the cells that hold its variables. -/
def tryV (bs bp bl bo bg : Nat) : Value := .func (.func 82) #[] #[.pointer (some ⟨bs, 0, none⟩), .pointer (some ⟨bp, 0, none⟩), .pointer (some ⟨bl, 0, none⟩), .pointer (some ⟨bo, 0, none⟩), .pointer (some ⟨bg, 0, none⟩)]
/-- The world W1 in which the search begins. -/
structure TryW (p : List Ln) (ts : List Tst) (pv tv : Value) (k bs bp bl : Nat) (W1 : World) : Prop where
  hs : W1.heap[bs]? = some (.cells #[.int .i64 (k : Int)] 3 (0, 0))
  hp : W1.heap[bp]? = some (.cells #[pv] 35 (0, 0))
  hl : W1.heap[bl]? = some (.cells #[tv] 43 (0, 0))
  lines : LinesAt W1 pv p
  tests : TestsAt W1 tv ts
theorem TryW.grow {p : List Ln} {ts : List Tst} {pv tv : Value} {k bs bp bl : Nat} {W1 W : World} (h : TryW p ts pv tv k bs bp bl W1) (g : Grow W1 W) : TryW p ts pv tv k bs bp bl W :=
  ⟨g.blk h.hs, g.blk h.hp, g.blk h.hl, h.lines.grow g, h.tests.grow g⟩
/-- The state of the search. -/
structure TryS (W1 : World) (gv : Value) (bo bg base : Nat) (W : World) (v : Value) (acc : List (List Int)) : Prop where
  old : Grow W1 W
  hg : W.heap[bg]? = some (.cells #[gv] 76 (0, 0))
  out : OutO bo base W v acc
theorem TryS.grow {W1 : World} {gv : Value} {bo bg base : Nat} {W W' : World} {v : Value} {acc : List (List Int)} (h : TryS W1 gv bo bg base W v acc) (g : Grow W W') : TryS W1 gv bo bg base W' v acc :=
  ⟨h.old.trans g, g.blk h.hg, h.out.grow g⟩
theorem OffO.grow {bo : Nat} {v : Value} {W W' : World} {lv : Value} (h : OffO bo v W lv) (g : Grow W W') : OffO bo v W' lv := fun b o s n c e => by
  obtain ⟨h1, h2, h3⟩ := h b o s n c e
  exact ⟨h1, h2, Nat.lt_of_lt_of_le h3 g.sz⟩
/-- How many sets are found at most. -/
theorem comb_le {p : List Ln} : ∀ (n k i : Nat) (acc : List Int), p.length ≤ i + n → (comb p k acc i).length ≤ 2 ^ n
  | n, 0, i, acc, h => by rw [comb_zero]; exact Nat.one_le_two_pow
  | 0, k + 1, i, acc, h => by rw [comb_end (p := p) (k := k) (i := i) acc (by omega)]; simp
  | n + 1, k + 1, i, acc, h => by
    by_cases hi : i < p.length
    · rw [comb_at acc hi, List.length_append, Nat.pow_succ]
      have h2 := comb_le (p := p) n (k + 1) (i + 1) acc (by omega)
      split
      · have h1 := comb_le (p := p) n k (i + 1) (acc ++ [(i : Int)]) (by omega)
        omega
      · simp; omega
    · rw [comb_end (p := p) (k := k) (i := i) acc (by omega)]; simp

theorem lnE_snoc {p : List Ln} {lines : List Int} {j : Nat} (h : lnE p lines = 0) (hlt : ∀ x ∈ lines, x < (j : Int)) (hj : j < p.length) (hw : wrB (p.getD j default).op = true) (hl : lines.length + 1 ≤ 2) : lnE p (lines ++ [(j : Int)]) = 0 := by
  obtain ⟨h1, h2, h3, h4⟩ := lnE_ok.1 h
  refine lnE_ok.2 ⟨asc_pw.2 ?_, fun i hi => ?_, by rw [List.length_append]; simpa using hl, fun i hi => ?_⟩
  · refine List.pairwise_append.2 ⟨asc_pw.1 h1, List.pairwise_singleton _ _, fun a ha b hb => ?_⟩
    simp at hb; subst hb; exact hlt a ha
  · rcases List.mem_append.1 hi with hi | hi
    · exact h2 i hi
    · simp at hi; subst hi; exact ⟨by omega, by omega⟩
  · rcases List.mem_append.1 hi with hi | hi
    · exact h4 i hi
    · simp at hi; subst hi; simpa using hw
/-- What is captured, as the search meets it. -/
theorem TryS.step {W1 W2 : World} {gv : Value} {bo bg base : Nat} {W : World} {v v' : Value} {acc acc' : List (List Int)} (h : TryS W1 gv bo bg base W v acc) (hbg : bg < base) (hgo : bg ≠ bo) (ho : OutO bo base W2 v' acc') (hb : ButO bo v W W2 v') (hg : Grow W1 W2) : TryS W1 gv bo bg base W2 v' acc' :=
  ⟨hg, hb.blk h.hg hgo (fun e => by have := (h.out.ge e).1; omega), ho⟩

set_option maxRecDepth 100000 in
set_option maxHeartbeats 16000000 in
theorem try0_any (p : List Ln) (ts : List Tst) (hc : chkT p ts = 0) (pv tv : Value) (k bs bp bl bo bg base : Nat) (W1 : World) (hW : TryW p ts pv tv k bs bp bl W1) (hbo : W1.heap.size ≤ bo) (hbb : bo < base) (hbg : bg < base) (hgo : bg ≠ bo)
    (i : Int) (lines : List Int) (hlen : lines.length = k) (hln : lnE p lines = 0) (lv v : Value) (acc : List (List Int)) (w : World) (hS : TryS W1 (tryV bs bp bl bo bg) bo bg base w v acc) (hb : base ≤ w.heap.size) (hl : IntsAt w lv lines) (hoff : OffO bo v w lv) (hacc : acc.length < 100000)
    (R : Ending → World → Prop) (hR : ∀ w' v', TryS W1 (tryV bs bp bl bo bg) bo bg base w' v' (acc ++ if blm p ts lines then [lines] else []) → ButO bo v w w' v' → R (.returned (.tuple #[])) w') :
    Calls Tryz.prog 82 #[lv, .int .i64 i, .pointer (some ⟨bs, 0, none⟩), .pointer (some ⟨bp, 0, none⟩), .pointer (some ⟨bl, 0, none⟩), .pointer (some ⟨bo, 0, none⟩), .pointer (some ⟨bg, 0, none⟩)] w R := by
  have HC := Lib.hid hc
  have HS := Lib.hid hS
  have HL := Lib.hid hl
  have HOFF := Lib.hid hoff
  have HR := Lib.hid hR
  have HLN := Lib.hid hln
  have hw1 := hW.grow hS.old
  have c0 := box1 hw1.hs
  have z0 := lt_of_block hw1.hs
  have c1 := box1 hw1.hp
  have z1 := lt_of_block hw1.hp
  have c2 := box1 hw1.hl
  have z2 := lt_of_block hw1.hl
  have HP := Lib.hid hw1.lines
  have HT := Lib.hid hw1.tests
  obtain ⟨pa, pc, rfl, _⟩ := HP.out
  obtain ⟨⟨ta, tc, rfl, _⟩, _⟩ := HT.out
  obtain ⟨la, lc, rfl, _⟩ := hl
  have t1 : ((lines.length : Int) == (k : Int)) = true := by rw [hlen]; simp
  have t3 : (lines.length : Int) = (k : Int) := by rw [hlen]
  clear hS hoff hR hln hw1 hW hc hlen
  go_enter Tryz.func82, Tryz.ntmps82
  go_wp2_with fail
  refine isToBlame_any p ts lines _ _ _ _ HP.out HT.out HL.out HC.out HLN.out _ ?_
  intro w2 hg2
  have HS2 := Lib.hid (HS.out.grow hg2)
  have HB2 := Lib.hid (ButO.of_grow (bo := bo) (v := v) hg2)
  have HL2 := Lib.hid (HL.out.grow hg2)
  have HOFF2 := Lib.hid (HOFF.out.grow hg2)
  have hz2 := hg2.sz
  clear hg2
  cases hb : blm p ts lines with
  | false =>
    have hr := HR.out
    rw [hb, if_neg (by decide), List.append_nil] at hr
    have HF := Lib.hid (hr w2 v HS2.out HB2.out)
    clear hr hb
    go_wp2_with fail
    first | exact HF.out | exact bodyPost_ret (v := .tuple #[]) (by simp [results, Tryz.results82, go_sem]) rfl HF.out
  | true =>
    have hr := HR.out
    rw [hb, if_pos rfl] at hr
    have HR2 := Lib.hid hr
    obtain ⟨L, hL, hmp, hN⟩ := HS2.out.out.row
    have HLL := Lib.hid hL
    have HMP := Lib.hid hmp
    have HN := Lib.hid hN
    have hbx := HS2.out.out.box
    have c3 := box1 hbx
    have z3 := lt_of_block hbx
    have HLE := Lib.hid (show L.length < 100000000000 by have := congrArg List.length hmp; rw [List.length_map] at this; omega)
    have HBX := Lib.hid hbx
    clear hr hb hL hmp hN hbx
    go_wp2_with (at_builtin; refine Classical.byContradiction (fun hcon => ?_))
    refine hcon ?_
    clear hcon
    refine wpList_appAt _ rfl (.tmp 18) (.tmp 20) 22 rfl base 29 Tryz.underlying22 info_sli rfl (by decide) (by decide) encLo encLo_len encLo_one v L rfl (((Grow.refl _).alloc _).owns HLL.out.row) _ (⟨la, lines.length, lc, lines⟩ : Lo Int) 1 rfl (newsG _ _ (by simp) (encLo (⟨la, lines.length, lc, lines⟩ : Lo Int)) _) HLE.out (by simp; omega) ?_
    intro v3 w3 hown3 hgr3 hat3
    obtain ⟨a3, c3, hv3, _⟩ := slc_of_owns encLo_len hown3
    obtain ⟨n3, hn3⟩ : ∃ n3, (L ++ [(⟨la, lines.length, lc, lines⟩ : Lo Int)]).length = n3 := ⟨_, rfl⟩
    rw [hn3] at hv3
    subst hv3
    clear hn3
    obtain ⟨hbx3, ho3, hb3⟩ := OutO.app hbb HBX.out HLL.out HN.out HL2.out (fun b o s e => by
      obtain ⟨q1, q2, q3⟩ := HOFF2.out b o s lines.length lc (by cases e; rfl)
      exact ⟨q1, q2, q3⟩) hown3 hgr3 hat3
    have c4 := box1 hbx3
    have z4 := lt_of_block hbx3
    have fz4 : w3.frozen? ⟨bo, 0, none⟩ = false := by simp [World.frozen?, hbx3]
    have HO3 := Lib.hid ho3
    have HB3 := Lib.hid hb3
    have HG3 := Lib.hid (show Grow W1 (w3.setCell ⟨bo, 0, none⟩ (.slice a3 n3 c3)) from by
      have h1 : Grow W1 w3 := grown_below HLL.out.row hgr3 (by omega) (by have := HS2.out.old.sz; simp; omega) (HS2.out.old.alloc _)
      exact Below.setCell h1 hbo _)
    clear hown3 hgr3 hat3 hbx3 ho3 hb3
    go_wp2_with fail
    have HF := Lib.hid (HR2.out _ _ (HS2.out.step hbg hgo (by have := HO3.out; rw [List.map_append, HMP.out] at this; exact this) HB3.out HG3.out) (HB2.out.trans HB3.out))
    first | exact HF.out | exact bodyPost_ret (v := .tuple #[]) (by simp [results, Tryz.results82, go_sem]) rfl HF.out

set_option maxRecDepth 100000 in
set_option maxHeartbeats 32000000 in
theorem try_any (p : List Ln) (ts : List Tst) (hc : chkT p ts = 0) (pv tv : Value) (k bs bp bl bo bg base : Nat) (W1 : World) (hW : TryW p ts pv tv k bs bp bl W1) (hbo : W1.heap.size ≤ bo) (hbb : bo < base) (hbg : bg < base) (hgo : bg ≠ bo) (hk2 : k ≤ 2) :
    ∀ (q i : Nat) (lines : List Int), lines.length + q = k → lnE p lines = 0 → (∀ x ∈ lines, x < (i : Int)) → ∀ (lv v : Value) (acc : List (List Int)) (w : World), TryS W1 (tryV bs bp bl bo bg) bo bg base w v acc → base ≤ w.heap.size → IntsAt w lv lines → OffO bo v w lv → acc.length + (comb p q lines i).length < 100000 →
    ∀ R : Ending → World → Prop, (∀ w' v', TryS W1 (tryV bs bp bl bo bg) bo bg base w' v' (acc ++ (comb p q lines i).filter (blm p ts)) → ButO bo v w w' v' → R (.returned (.tuple #[])) w') →
    Calls Tryz.prog 82 #[lv, .int .i64 (i : Int), .pointer (some ⟨bs, 0, none⟩), .pointer (some ⟨bp, 0, none⟩), .pointer (some ⟨bl, 0, none⟩), .pointer (some ⟨bo, 0, none⟩), .pointer (some ⟨bg, 0, none⟩)] w R := by
  intro q
  induction q with
  | zero =>
    intro i lines hlen hln hlt lv v acc w hS hb hl hoff hacc R hR
    refine try0_any p ts hc pv tv k bs bp bl bo bg base W1 hW hbo hbb hbg hgo i lines (by omega) hln lv v acc w hS hb hl hoff (by omega) R ?_
    intro w' v' h1 h2
    refine hR w' v' ?_ h2
    rw [comb_zero, List.filter_cons, List.filter_nil]
    exact h1
  | succ q ih =>
    intro i lines hlen hln hlt lv v acc w hS hb hl hoff hacc R hR
    have IH := Lib.hid ih
    have HC := Lib.hid hc
    have HW := Lib.hid hW
    have HS := Lib.hid hS
    have HL := Lib.hid hl
    have HOFF := Lib.hid hoff
    have HR := Lib.hid hR
    have HLN := Lib.hid hln
    have HLT := Lib.hid hlt
    have HLEN := Lib.hid hlen
    have HVAL := Lib.hid (chkT_ok.1 hc).1
    have hp8 := (valP_ok.1 (chkT_ok.1 hc).1).1
    have HACC := Lib.hid hacc
    have hw1 := hW.grow hS.old
    have c0 := box1 hw1.hs
    have z0 := lt_of_block hw1.hs
    have t3 : ¬ (lines.length : Int) = (k : Int) := by omega
    have t1 : ((lines.length : Int) == (k : Int)) = false := beq_eq_false_iff_ne.2 t3
    have hln2 : lines.length ≤ 1 := by omega
    obtain ⟨la, lc, rfl, _⟩ := hl
    obtain ⟨pa, pc, hpv, _⟩ := hw1.lines
    have HPV := Lib.hid hpv
    have HBS := Lib.hid hb
    clear ih hS hoff hR hln hlt hw1 hW hc hlen hacc hpv t3
    go_enter Tryz.func82, Tryz.ntmps82
    go_wp2_with fail
    clear c0 z0
    go_loopw [9] (fun iv wr => ∃ (j : Nat) (v1 : Value) (acc1 : List (List Int)), i ≤ j ∧ iv = .int .i64 j ∧ j ≤ max i p.length ∧ TryS W1 (tryV bs bp bl bo bg) bo bg base wr v1 acc1 ∧ ButO bo v w wr v1 ∧ acc1 ++ (comb p (q + 1) lines j).filter (blm p ts) = acc ++ (comb p (q + 1) lines i).filter (blm p ts) ∧ acc1.length + (comb p (q + 1) lines j).length < 100000) (fun iv _ => p.length - (intOf iv).toNat)
    case atStart => exact ⟨i, v, acc, Nat.le_refl _, rfl, Nat.le_max_left _ _, HS.out, ButO.refl _ _ _, rfl, HACC.out⟩
    case round =>
      obtain ⟨j, v1, acc1, hij, rfl, hjm, hS1, hB1, heq, hacc1⟩ := hrel
      have HS1 := Lib.hid hS1
      have HB1 := Lib.hid hB1
      have HEQ := Lib.hid heq
      have HACC1 := Lib.hid hacc1
      have hw1 := HW.out.grow hS1.old
      have c1 := box1 hw1.hp
      have z1 := lt_of_block hw1.hp
      rw [HPV.out] at c1
      have hbz : base ≤ wr.heap.size := Nat.le_trans HBS.out hB1.size
      have HLW := Lib.hid (hB1.slc HL.out HOFF.out)
      have HOFW := Lib.hid (hB1.off HOFF.out)
      have hpl := hw1.lines
      rw [HPV.out] at hpl
      clear hS1 hB1 heq hacc1
      by_cases hjl : j < p.length
      · obtain ⟨⟨op, d, a, b'⟩, hx⟩ : ∃ l, p[j]? = some l := ⟨_, List.getElem?_eq_getElem hjl⟩
        have HWR := Lib.hid (wrI_at HVAL.out hx)
        obtain ⟨gb, o, rfl, hgb, e0, e1, e2, e3⟩ := lines_at hpl hx
        have hjl2 : (j : Int) < (p.length : Int) := by omega
        have hcmb := comb_at (p := p) (k := q) lines hjl
        clear hx hpl hw1
        go_wp2_with fail
        refine bwrites_any op d a b' _ _ ?_
        intro w2 hg2
        rw [HWR.out]
        have HG2 := Lib.hid hg2
        have HS2 := Lib.hid (HS1.out.grow hg2)
        have HB2 := Lib.hid (HB1.out.trans (ButO.of_grow hg2))
        have hz2 := hg2.sz
        clear hg2 c1 z1 e0 e1 e2 e3
        cases hwr : wrB (p.getD j default).op with
        | false =>
          have heq := HEQ.out
          have hacc1 := HACC1.out
          rw [hcmb, hwr, if_neg (by decide), List.nil_append] at heq hacc1
          have HEQ2 := Lib.hid heq
          have HACC2 := Lib.hid hacc1
          clear heq hacc1 hcmb hwr
          go_wp2_with fail
          go_roundw
          case rel => exact ⟨j + 1, v1, acc1, by omega, by go_num, by omega, HS2.out, HB2.out, HEQ2.out, HACC2.out⟩
          case measure => simp [intOf]; omega
        | true =>
          have heq := HEQ.out
          have hacc1 := HACC1.out
          rw [hcmb, hwr, if_pos rfl, List.filter_append, ← List.append_assoc] at heq
          rw [hcmb, hwr, if_pos rfl, List.length_append] at hacc1
          have HEQ2 := Lib.hid heq
          have HACC2 := Lib.hid hacc1
          have HLN2 := Lib.hid (lnE_snoc HLN.out (fun x hx => by have := HLT.out x hx; omega) hjl hwr (by omega))
          have HLT2 := Lib.hid (show ∀ x ∈ lines ++ [(j : Int)], x < ((j + 1 : Nat) : Int) from fun x hx => by
            rcases List.mem_append.1 hx with hx | hx
            · have := HLT.out x hx; omega
            · simp at hx; subst hx; omega)
          have HLL := Lib.hid (show (lines ++ [(j : Int)]).length + q = k by have := HLEN.out; rw [List.length_append]; simp; omega)
          have HBG := Lib.hid HS2.out.hg
          have hbgz := lt_of_block HS2.out.hg
          have hwj : IntKind.i64.wrap ((j : Int) + 1) = (j : Int) + 1 := IntWalk.i64_in _ (by omega)
          have HLD := Lib.hid ((HLW.out.grow HG2.out).grow (Grow.refl w2).drew)
          have HSD := Lib.hid (HS2.out.grow (Grow.refl w2).drew)
          have HBD := Lib.hid (HB2.out.trans (ButO.of_grow (Grow.refl w2).drew))
          have HGE := Lib.hid (fun m (h : v1.ownBlock = some m) => (HS2.out.out.ge h).2)
          have hdz : w2.drew.heap.size = w2.heap.size := rfl
          clear heq hacc1 hcmb hwr
          go_wp2_with fail
          refine wp_region_held_drew (S := fun X => X.heap[bg]? = some (.cells #[tryV bs bp bl bo bg] 76 (0, 0))) (by kernel_rfl) (((Grow.refl w2).drew).blk HBG.out) (fun hH => ?_)
          refine wpAnyH_take (i := 0) (v := (.func (.func 82) #[] #[.pointer (some ⟨bs, 0, none⟩), .pointer (some ⟨bp, 0, none⟩), .pointer (some ⟨bl, 0, none⟩), .pointer (some ⟨bo, 0, none⟩), .pointer (some ⟨bg, 0, none⟩)])) rfl (by kernel_rfl) (by kernel_rfl) (by kernel_rfl) (fun _ _ _ h => h) (Or.inl ⟨by rfl, ?_⟩) hH ?_
          · intro w9 hw9
            have u0 := box1 hw9
            unfold tryV at u0
            go_simp
          try simp only [List.getElem_toArray, List.getElem_cons_zero, Act.put, List.setIfInBounds_toArray, List.set_cons_zero, List.set_cons_succ]
          refine wpAnyH_take (i := 1) (v := .slice la lines.length lc) rfl (by kernel_rfl) (by kernel_rfl) (by kernel_rfl) (fun _ _ _ h => h) (Or.inl ⟨by rfl, ?_⟩) hH ?_
          · intro w9 hw9
            go_simp
          try simp only [List.getElem_toArray, List.getElem_cons_succ, List.getElem_cons_zero, Act.put, List.setIfInBounds_toArray, List.set_cons_zero, List.set_cons_succ]
          refine wpAnyH_take (i := 3) (v := .int .i64 (j : Int)) rfl (by kernel_rfl) (by kernel_rfl) (by kernel_rfl) (fun _ _ _ h => h) (Or.inl ⟨by rfl, ?_⟩) hH ?_
          · intro w9 hw9
            go_simp
          try simp only [List.getElem_toArray, List.getElem_cons_succ, List.getElem_cons_zero, Act.put, List.setIfInBounds_toArray, List.set_cons_zero, List.set_cons_succ]
          refine wpAnyH_take (i := 6) (v := .int .i64 (j : Int)) rfl (by kernel_rfl) (by kernel_rfl) (by kernel_rfl) (fun _ _ _ h => h) (Or.inl ⟨by rfl, ?_⟩) hH ?_
          · intro w9 hw9
            go_simp
          try simp only [List.getElem_toArray, List.getElem_cons_succ, List.getElem_cons_zero, Act.put, List.setIfInBounds_toArray, List.set_cons_zero, List.set_cons_succ]
          refine wpAnyH_take (i := 7) (v := .int .i64 ((j : Int) + 1)) rfl (by kernel_rfl) (by kernel_rfl) (by kernel_rfl) (fun _ _ _ h => h) (Or.inl ⟨by rfl, ?_⟩) hH ?_
          · intro w9 hw9
            go_simp
          try simp only [List.getElem_toArray, List.getElem_cons_succ, List.getElem_cons_zero, Act.put, List.setIfInBounds_toArray, List.set_cons_zero, List.set_cons_succ]
          refine wpAnyH_ready (rs := [2, 4]) (by kernel_rfl) (by simp) ?_
          refine AllReadyH.cons rfl (fun K hK => ?_) (AllReadyH.cons rfl (fun K hK => ?_) AllReadyH.nil)
          · skip
            go_simp
            refine cloneR_any lines _ _ (HLD.out.grow (Grow.refl _)) (by omega) _ ?_
            intro w8 v8 hg8 hv8
            go_wp2_with fail
            refine hK.out _ _ (hg8.blk hH) (fun hH2 => ?_)
            clear hK K hH
            have hH := hH2
            clear hH2
            try simp only [List.getElem_toArray, List.getElem_cons_succ, List.getElem_cons_zero, Act.put, List.setIfInBounds_toArray, List.set_cons_zero, List.set_cons_succ]
            refine wpAnyH_ready (rs := [4]) (by kernel_rfl) (by simp) ?_
            refine AllReadyH.cons rfl (fun K hK => ?_) AllReadyH.nil
            go_simp
            refine hK.out _ _ (((Grow.refl _).alloc _).blk hH) (fun hH2 => ?_)
            clear hK K hH
            have hH := hH2
            clear hH2
            try simp only [List.getElem_toArray, List.getElem_cons_succ, List.getElem_cons_zero, Act.put, List.setIfInBounds_toArray, List.set_cons_zero, List.set_cons_succ]
            have hz8 := hg8.sz
            refine wpAnyH_ready (rs := [5]) (by kernel_rfl) (by simp) ?_
            refine AllReadyH.cons rfl (fun K hK => ?_) AllReadyH.nil
            refine step_appAt rfl (.tmp 36) (.tmp 38) 29 rfl w2.drew.heap.size 3 Tryz.underlying29 info_int rfl (by decide) (by decide) encI encI_len encI_one v8 lines (by simp [Act.eval]) (((Grow.refl w8).alloc (.cells #[.int .i64 (j : Int)] 3)).owns hv8) _ (j : Int) 1 (by simp [Act.eval] <;> rfl) (newsG w8 _ rfl (encI (j : Int)) 3) (by omega) (by simp; omega) ?_
            intro v9 w9 hown9 hgr9 hat9
            have hg9 : Grow w2.drew w9 := grown_below (((Grow.refl w8).alloc (.cells #[.int .i64 (j : Int)] 3)).owns hv8) hgr9 (Nat.le_refl _) (by simp; omega) (hg8.alloc (.cells #[.int .i64 (j : Int)] 3))
            have hH9 := grown_keep (((Grow.refl w8).alloc (.cells #[.int .i64 (j : Int)] 3)).owns hv8) hgr9 (show bg < w2.drew.heap.size from hbgz) hH
            have HX9 := Lib.hid (slc_of_owns encI_len hown9)
            have HG9 := Lib.hid hg9
            have HOF9 := Lib.hid (OffO.new (bo := bo) (v := v1) hown9 (by omega) (fun m hm => by have := HGE.out m hm; omega))
            clear hown9 hgr9 hat9 hg9 hv8
            refine hK.out _ _ hH9 (fun hH2 => ?_)
            clear hK K hH
            have hH := hH2
            clear hH2
            try simp only [List.getElem_toArray, List.getElem_cons_succ, List.getElem_cons_zero, Act.put, List.setIfInBounds_toArray, List.set_cons_zero, List.set_cons_succ]
            refine wpAnyH_ready (rs := [8]) (by kernel_rfl) (by simp) ?_
            refine AllReadyH.cons rfl (fun K hK => ?_) AllReadyH.nil
            go_simp
            refine IH.out (j + 1) (lines ++ [(j : Int)]) HLL.out HLN2.out HLT2.out _ v1 acc1 _ (HSD.out.grow HG9.out) (by have := HG9.out.sz; omega) HX9.out HOF9.out (by have := HACC2.out; omega) _ ?_
            intro w10 v10 hS10 hB10
            have HS10 := Lib.hid hS10
            have HB10 := Lib.hid ((HBD.out.trans (ButO.of_grow HG9.out)).trans hB10)
            have hH10 := hS10.hg
            clear hS10 hB10
            go_wp2_with fail
            refine hK.out _ _ hH10 (fun hH2 => ?_)
            clear hK K hH
            have hH := hH2
            clear hH2
            try simp only [List.getElem_toArray, List.getElem_cons_succ, List.getElem_cons_zero, Act.put, List.setIfInBounds_toArray, List.set_cons_zero, List.set_cons_succ]
            refine wpAnyH_done (by kernel_rfl) ?_ _
            clear hH hH10
            go_wp2_with fail
            go_roundw
            case rel => exact ⟨j + 1, v10, _, by omega, by go_num, by omega, HS10.out, HB10.out, HEQ2.out, by have := HACC2.out; have := List.length_filter_le (blm p ts) (comb p q (lines ++ [(j : Int)]) (j + 1)); rw [List.length_append]; omega⟩
            case measure => simp [intOf]; omega
          · skip
            go_simp
            refine hK.out _ _ (((Grow.refl _).alloc _).blk hH) (fun hH2 => ?_)
            clear hK K hH
            have hH := hH2
            clear hH2
            try simp only [List.getElem_toArray, List.getElem_cons_succ, List.getElem_cons_zero, Act.put, List.setIfInBounds_toArray, List.set_cons_zero, List.set_cons_succ]
            refine wpAnyH_ready (rs := [2]) (by kernel_rfl) (by simp) ?_
            refine AllReadyH.cons rfl (fun K hK => ?_) AllReadyH.nil
            go_simp
            refine cloneR_any lines _ _ (HLD.out.grow ((Grow.refl _).alloc _)) (by omega) _ ?_
            intro w8 v8 hg8 hv8
            go_wp2_with fail
            refine hK.out _ _ (hg8.blk hH) (fun hH2 => ?_)
            clear hK K hH
            have hH := hH2
            clear hH2
            try simp only [List.getElem_toArray, List.getElem_cons_succ, List.getElem_cons_zero, Act.put, List.setIfInBounds_toArray, List.set_cons_zero, List.set_cons_succ]
            have hz8 := hg8.sz
            rw [World.size_alloc] at hz8
            refine wpAnyH_ready (rs := [5]) (by kernel_rfl) (by simp) ?_
            refine AllReadyH.cons rfl (fun K hK => ?_) AllReadyH.nil
            refine step_appAt rfl (.tmp 36) (.tmp 38) 29 rfl (w2.drew.alloc (.cells #[.int .i64 (j : Int)] 3)).heap.size 3 Tryz.underlying29 info_int rfl (by decide) (by decide) encI encI_len encI_one v8 lines (by simp [Act.eval]) (hv8) _ (j : Int) 1 (by simp [Act.eval] <;> rfl) (fun q u hq => hg8.cell (newsG w2.drew _ rfl (encI (j : Int)) 3 q u hq)) (by omega) (hg8.sz) ?_
            intro v9 w9 hown9 hgr9 hat9
            have hg9 : Grow w2.drew w9 := grown_below (hv8) hgr9 (by simp) (by omega) ((((Grow.refl w2.drew).alloc (.cells #[.int .i64 (j : Int)] 3)).trans hg8))
            have hH9 := grown_keep (hv8) hgr9 (show bg < (w2.drew.alloc (.cells #[.int .i64 (j : Int)] 3)).heap.size from (by simp; omega)) hH
            have HX9 := Lib.hid (slc_of_owns encI_len hown9)
            have HG9 := Lib.hid hg9
            have HOF9 := Lib.hid (OffO.new (bo := bo) (v := v1) hown9 (by simp; omega) (fun m hm => by have := HGE.out m hm; simp; omega))
            clear hown9 hgr9 hat9 hg9 hv8
            refine hK.out _ _ hH9 (fun hH2 => ?_)
            clear hK K hH
            have hH := hH2
            clear hH2
            try simp only [List.getElem_toArray, List.getElem_cons_succ, List.getElem_cons_zero, Act.put, List.setIfInBounds_toArray, List.set_cons_zero, List.set_cons_succ]
            refine wpAnyH_ready (rs := [8]) (by kernel_rfl) (by simp) ?_
            refine AllReadyH.cons rfl (fun K hK => ?_) AllReadyH.nil
            go_simp
            refine IH.out (j + 1) (lines ++ [(j : Int)]) HLL.out HLN2.out HLT2.out _ v1 acc1 _ (HSD.out.grow HG9.out) (by have := HG9.out.sz; omega) HX9.out HOF9.out (by have := HACC2.out; omega) _ ?_
            intro w10 v10 hS10 hB10
            have HS10 := Lib.hid hS10
            have HB10 := Lib.hid ((HBD.out.trans (ButO.of_grow HG9.out)).trans hB10)
            have hH10 := hS10.hg
            clear hS10 hB10
            go_wp2_with fail
            refine hK.out _ _ hH10 (fun hH2 => ?_)
            clear hK K hH
            have hH := hH2
            clear hH2
            try simp only [List.getElem_toArray, List.getElem_cons_succ, List.getElem_cons_zero, Act.put, List.setIfInBounds_toArray, List.set_cons_zero, List.set_cons_succ]
            refine wpAnyH_done (by kernel_rfl) ?_ _
            clear hH hH10
            go_wp2_with fail
            go_roundw
            case rel => exact ⟨j + 1, v10, _, by omega, by go_num, by omega, HS10.out, HB10.out, HEQ2.out, by have := HACC2.out; have := List.length_filter_le (blm p ts) (comb p q (lines ++ [(j : Int)]) (j + 1)); rw [List.length_append]; omega⟩
            case measure => simp [intOf]; omega
      · have hj3 : ¬ (j : Int) < (p.length : Int) := by omega
        have heq := HEQ.out
        rw [comb_end lines (by omega), List.filter_nil, List.append_nil] at heq
        have HF := Lib.hid (HR.out wr v1 (heq ▸ HS1.out) HB1.out)
        clear heq hpl hw1
        go_wp2_with fail
        first | exact HF.out | exact bodyPost_ret (v := .tuple #[]) (by simp [results, Tryz.results82, go_sem]) rfl HF.out
def bdE (p : List Ln) (ts : List Tst) (n : Int) : Int := if chkT p ts = 0 then (if inB n 1 2 then 0 else 1) else chkT p ts
def bdO (p : List Ln) (ts : List Tst) (n : Int) : List (List Int) := ifOK (bdE p ts n) (bmd p ts n.toNat)
theorem heaps5 (w : World) (A B C D E : Obj) : let W := ((((w.alloc A).alloc B).alloc C).alloc D).alloc E
    W.heap[w.heap.size]? = some A ∧ W.heap[w.heap.size + 1]? = some B ∧ W.heap[w.heap.size + 1 + 1]? = some C ∧ W.heap[w.heap.size + 1 + 1 + 1]? = some D ∧ W.heap[w.heap.size + 1 + 1 + 1 + 1]? = some E := by
  have up : ∀ {X : World} {k : Nat} {o p : Obj}, X.heap[k]? = some o → (X.alloc p).heap[k]? = some o := fun {X k o p} h => ((Grow.refl X).alloc p).blk h
  have hn : ∀ {X : World} {n : Nat} {o : Obj}, X.heap.size = n → (X.alloc o).heap[n]? = some o := fun {X n o} e => e ▸ heap_alloc_new X o
  exact ⟨up (up (up (up (hn rfl)))), up (up (up (hn (by simp)))), up (up (hn (by simp))), up (hn (by simp)), hn (by simp)⟩
set_option maxRecDepth 100000 in
set_option maxHeartbeats 16000000 in
theorem Blamed_any (p : List Ln) (ts : List Tst) (n : Int) (pv tv : Value) (w : World) (hp : LinesAt w pv p) (ht : TestsAt w tv ts) (R : Ending → World → Prop)
    (hR : ∀ w' v, Grow w w' → FamAt w' v (bdO p ts n) → R (.returned (.tuple #[v, .int .i64 (bdE p ts n)])) w') :
    Calls Tryz.prog 33 #[pv, tv, .int .i64 n] w R := by
  have HP := Lib.hid hp
  have HT := Lib.hid ht
  unfold bdO at hR
  obtain ⟨e, he⟩ : ∃ e, chkT p ts = e := ⟨_, rfl⟩
  have hE : bdE p ts n = if e = 0 then (if inB n 1 2 then 0 else 1) else e := by unfold bdE; rw [he]
  rw [hE] at hR
  have HR := Lib.hid hR
  have HE := Lib.hid he
  obtain ⟨pa, pc, rfl, _⟩ := hp
  obtain ⟨⟨ta, tc, rfl, _⟩, _⟩ := ht
  clear hR he hE
  by_cases h0 : e = 0
  rotate_left
  · rw [if_neg h0] at HR
    have t1 : (e != 0) = true := by simpa using h0
    have HF := Lib.hid (fun w' h => HR.out w' (.slice none 0 0) h (by rw [ifOK_err h0]; exact FamAt.nil _))
    clear h0
    go_enter Tryz.func33, Tryz.ntmps33
    go_wp2_with fail
    obtain ⟨k0, k1, k2⟩ := heaps3 w (.cells #[.slice pa p.length pc] 35) (.cells #[.slice ta ts.length tc] 43) (.cells #[.int .i64 n] 3)
    have hgW : Grow w (((w.alloc (.cells #[.slice pa p.length pc] 35)).alloc (.cells #[.slice ta ts.length tc] 43)).alloc (.cells #[.int .i64 n] 3)) := (((Grow.refl w).alloc _).alloc _).alloc _
    generalize ((w.alloc (.cells #[.slice pa p.length pc] 35)).alloc (.cells #[.slice ta ts.length tc] 43)).alloc (.cells #[.int .i64 n] 3) = W at k0 k1 k2 hgW ⊢
    obtain ⟨B, hB⟩ : ∃ b, w.heap.size = b := ⟨_, rfl⟩
    rw [hB] at k0 k1 k2 ⊢
    have HK0 := Lib.hid k0
    have HK1 := Lib.hid k1
    have HK2 := Lib.hid k2
    have HGW := Lib.hid hgW
    clear k0 k1 k2 hgW hB
    refine bprograms_any p ts _ _ _ (HP.out.grow HGW.out) (HT.out.grow HGW.out) _ ?_
    intro w1 hg1
    rw [HE.out]
    have HF2 := Lib.hid (HF.out w1 (HGW.out.trans hg1))
    clear hg1
    go_wp2_with fail
    exact HF2.out
  subst h0
  rw [if_pos rfl] at HR
  cases hin : inB n 1 2 with
  | false =>
    rw [hin, if_neg (by decide)] at HR
    have HIN := Lib.hid hin
    clear hin
    go_enter Tryz.func33, Tryz.ntmps33
    go_wp2_with fail
    obtain ⟨k0, k1, k2⟩ := heaps3 w (.cells #[.slice pa p.length pc] 35) (.cells #[.slice ta ts.length tc] 43) (.cells #[.int .i64 n] 3)
    have hgW : Grow w (((w.alloc (.cells #[.slice pa p.length pc] 35)).alloc (.cells #[.slice ta ts.length tc] 43)).alloc (.cells #[.int .i64 n] 3)) := (((Grow.refl w).alloc _).alloc _).alloc _
    generalize ((w.alloc (.cells #[.slice pa p.length pc] 35)).alloc (.cells #[.slice ta ts.length tc] 43)).alloc (.cells #[.int .i64 n] 3) = W at k0 k1 k2 hgW ⊢
    obtain ⟨B, hB⟩ : ∃ b, w.heap.size = b := ⟨_, rfl⟩
    rw [hB] at k0 k1 k2 ⊢
    have HK0 := Lib.hid k0
    have HK1 := Lib.hid k1
    have HK2 := Lib.hid k2
    have HGW := Lib.hid hgW
    clear k0 k1 k2 hgW hB
    refine bprograms_any p ts _ _ _ (HP.out.grow HGW.out) (HT.out.grow HGW.out) _ ?_
    intro w1 hg1
    rw [HE.out]
    have HG1 := Lib.hid (HGW.out.trans hg1)
    have HJ0 := Lib.hid (hg1.blk HK0.out)
    have HJ1 := Lib.hid (hg1.blk HK1.out)
    have HJ2 := Lib.hid (hg1.blk HK2.out)
    have c2 := box1 HJ2.out
    have z2 := lt_of_block HJ2.out
    clear hg1
    go_wp2_with fail
    refine bwithin_any _ _ _ _ _ ?_
    rw [HIN.out]
    have HF := Lib.hid (HR.out w1 (.slice none 0 0) HG1.out (by rw [ifOK_err (by decide)]; exact FamAt.nil _))
    go_wp2_with fail
    exact HF.out
  | true =>
    rw [hin, if_pos rfl] at HR
    obtain ⟨i0, i1⟩ := inB_true.1 hin
    obtain ⟨k, rfl⟩ : ∃ k : Nat, n = k := ⟨n.toNat, by omega⟩
    have hk1 : 1 ≤ k := by omega
    have hk2 : k ≤ 2 := by omega
    have HIN := Lib.hid hin
    clear hin i0 i1
    go_enter Tryz.func33, Tryz.ntmps33
    go_wp2_with fail
    obtain ⟨k0, k1, k2⟩ := heaps3 w (.cells #[.slice pa p.length pc] 35) (.cells #[.slice ta ts.length tc] 43) (.cells #[.int .i64 (k : Int)] 3)
    have hgW : Grow w (((w.alloc (.cells #[.slice pa p.length pc] 35)).alloc (.cells #[.slice ta ts.length tc] 43)).alloc (.cells #[.int .i64 (k : Int)] 3)) := (((Grow.refl w).alloc _).alloc _).alloc _
    generalize ((w.alloc (.cells #[.slice pa p.length pc] 35)).alloc (.cells #[.slice ta ts.length tc] 43)).alloc (.cells #[.int .i64 (k : Int)] 3) = W at k0 k1 k2 hgW ⊢
    obtain ⟨B, hB⟩ : ∃ b, w.heap.size = b := ⟨_, rfl⟩
    rw [hB] at k0 k1 k2 ⊢
    have HK0 := Lib.hid k0
    have HK1 := Lib.hid k1
    have HK2 := Lib.hid k2
    have HGW := Lib.hid hgW
    clear k0 k1 k2 hgW hB
    refine bprograms_any p ts _ _ _ (HP.out.grow HGW.out) (HT.out.grow HGW.out) _ ?_
    intro w1 hg1
    rw [HE.out]
    have HG1 := Lib.hid (HGW.out.trans hg1)
    have HJ0 := Lib.hid (hg1.blk HK0.out)
    have HJ1 := Lib.hid (hg1.blk HK1.out)
    have HJ2 := Lib.hid (hg1.blk HK2.out)
    have c2 := box1 HJ2.out
    have z2 := lt_of_block HJ2.out
    clear hg1
    go_wp2_with fail
    refine bwithin_any _ _ _ _ _ ?_
    rw [HIN.out]
    clear c2 z2
    go_wp2_with fail
    obtain ⟨bo, hbo⟩ : ∃ b, w1.heap.size = b := ⟨_, rfl⟩
    have k3 := heap_two0 w1 (.cells #[.slice none 0 0] 22) (.cells #[tryV (B + 1 + 1) B (B + 1) w1.heap.size (w1.heap.size + 1)] 76)
    have k4 := heap_two1 w1 (.cells #[.slice none 0 0] 22) (.cells #[tryV (B + 1 + 1) B (B + 1) w1.heap.size (w1.heap.size + 1)] 76)
    have hg3 : Grow w1 ((w1.alloc (.cells #[.slice none 0 0] 22)).alloc (.cells #[tryV (B + 1 + 1) B (B + 1) w1.heap.size (w1.heap.size + 1)] 76)) := ((Grow.refl w1).alloc _).alloc _
    have hz3 : ((w1.alloc (.cells #[.slice none 0 0] 22)).alloc (.cells #[tryV (B + 1 + 1) B (B + 1) w1.heap.size (w1.heap.size + 1)] 76)).heap.size = w1.heap.size + 2 := by simp
    have hTW : TryW p ts (.slice pa p.length pc) (.slice ta ts.length tc) k (B + 1 + 1) B (B + 1) w1 := ⟨HJ2.out, HJ0.out, HJ1.out, HP.out.grow HG1.out, HT.out.grow HG1.out⟩
    rw [show (Value.func (.func 82) #[] #[.pointer (some ⟨B + 1 + 1, 0, none⟩), .pointer (some ⟨B, 0, none⟩), .pointer (some ⟨B + 1, 0, none⟩), .pointer (some ⟨w1.heap.size, 0, none⟩), .pointer (some ⟨w1.heap.size + 1, 0, none⟩)]) = tryV (B + 1 + 1) B (B + 1) w1.heap.size (w1.heap.size + 1) from rfl]
    generalize (w1.alloc (.cells #[.slice none 0 0] 22)).alloc (.cells #[tryV (B + 1 + 1) B (B + 1) w1.heap.size (w1.heap.size + 1)] 76) = W3 at k3 k4 hg3 hz3 ⊢
    rw [hbo] at k3 k4 hz3 ⊢
    have hTS : TryS w1 (tryV (B + 1 + 1) B (B + 1) bo (bo + 1)) bo (bo + 1) (bo + 2) W3 (.slice none 0 0) [] := ⟨hg3, k4, ⟨k3, [], LoOwn.nil _ _ _ _ _, rfl, fun t ht => by cases ht⟩⟩
    have hp8 := (valP_ok.1 (chkT_ok.1 HE.out).1).1
    have hcl := comb_le (p := p) p.length k 0 [] (by omega)
    have hpw : 2 ^ p.length ≤ 2 ^ 8 := Nat.pow_le_pow_right (by decide) hp8
    have hpe : (2 : Nat) ^ 8 = 256 := rfl
    have HG13 := Lib.hid (HG1.out.trans hg3)
    refine try_any p ts HE.out _ _ k _ _ _ bo (bo + 1) (bo + 2) w1 hTW (by omega) (by omega) (by omega) (by omega) hk2 k 0 [] (by simp) (lnE_ok.2 ⟨rfl, by simp, by simp, by simp⟩) (by simp) (.slice none 0 0) (.slice none 0 0) [] W3 hTS (by omega) (SlcAt.nil _ _ _) (OffO.nil _ _ _) (by simp; omega) _ ?_
    intro w5 v5 hS5 _
    have hG5 := HG1.out.trans hS5.old
    have hbx := hS5.out.box
    have hfm := hS5.out.fam
    rw [List.nil_append] at hfm
    have c9 := box1 hbx
    have z9 := lt_of_block hbx
    have HF := Lib.hid (HR.out w5 v5 hG5 (by rw [ifOK_ok, Int.toNat_natCast]; exact hfm))
    obtain ⟨a5, c5, rfl, _⟩ := hfm.out
    clear hS5 hG5 hbx hfm hTS hTW hg3 k3 k4 hz3 hbo hcl hpw hpe hp8
    go_wp2_with fail
    exact HF.out
end Go.Proofs.YtmlbgfnddgbpbaaGreat

namespace Go.Proofs.YtmlbgfnddgbpbaaGreat
open Go.RowKit
open Mk Bm

theorem slc_blk {α : Type} {k : Nat} {enc : α → List Value} (hk : ∀ x, (enc x).length = k) {w : World} {b : Nat} {xs : List α} {e : TypeId} (h : w.heap[b]? = some (.cells (xs.flatMap enc).toArray e (0, 0))) (hl : xs.length < 1000000) : SlcAt k enc w (.slice (some ⟨b, 0, none⟩) xs.length xs.length) xs := by
  refine ⟨_, _, rfl, Nat.le_refl _, by omega, .inr ⟨b, 0, rfl, lt_of_block h, fun j x hj i u hu => ?_⟩⟩
  have hi : i < k := by rw [← hk x]; exact (List.getElem?_eq_some_iff.1 hu).1
  rw [show 0 + j * k + i = j * k + i by omega]
  exact cells_at h _ _ (by rw [flatMap_getElem? hk xs j x hj i hi]; exact hu)
def exP : List Ln := [⟨1, 0, 3, 0⟩, ⟨3, 0, 0, 0⟩]
theorem ex_val : valF [[0, 1], [1, 2]] = 0 := by decide
theorem ex_bk : bkM [[0, 1], [1, 2]] = [[0, 2], [1]] := by decide +kernel
theorem ex_bdE (v : Value) : bdE exP [⟨v, [0, 0, 0, 0], 0, 7⟩] 1 = 0 := by kernel_rfl
theorem ex_bd (v : Value) : bmd exP [⟨v, [0, 0, 0, 0], 0, 7⟩] 1 = [[1]] := by kernel_rfl
set_option maxRecDepth 100000 in
set_option maxHeartbeats 8000000 in
theorem known3_any (w : World) (R : Ending → World → Prop) (hR : ∀ w', Grow w w' → R (.returned (.bool true)) w') : Calls Tryz.prog 18 #[] w R := by
  have HR := Lib.hid hR
  clear hR
  go_enter Tryz.func18, Tryz.ntmps18
  go_wp2_with fail
  obtain ⟨k0, k1, k2⟩ := heaps3 w (.cells #[.int .i64 0, .int .i64 1] 3) (.cells #[.int .i64 1, .int .i64 2] 3) (.cells #[.slice (some ⟨w.heap.size, 0, none⟩) 2 2, .slice (some ⟨w.heap.size + 1, 0, none⟩) 2 2] 29)
  have hgW : Grow w (((w.alloc (.cells #[.int .i64 0, .int .i64 1] 3)).alloc (.cells #[.int .i64 1, .int .i64 2] 3)).alloc (.cells #[.slice (some ⟨w.heap.size, 0, none⟩) 2 2, .slice (some ⟨w.heap.size + 1, 0, none⟩) 2 2] 29)) := (((Grow.refl w).alloc _).alloc _).alloc _
  generalize ((w.alloc (.cells #[.int .i64 0, .int .i64 1] 3)).alloc (.cells #[.int .i64 1, .int .i64 2] 3)).alloc (.cells #[.slice (some ⟨w.heap.size, 0, none⟩) 2 2, .slice (some ⟨w.heap.size + 1, 0, none⟩) 2 2] 29) = W at k0 k1 k2 hgW ⊢
  obtain ⟨q, hq⟩ : ∃ b, w.heap.size = b := ⟨_, rfl⟩
  rw [hq] at k0 k1 k2 ⊢
  have hf0 : FamAt W (.slice (some ⟨q + 1 + 1, 0, none⟩) 2 2) [[0, 1], [1, 2]] := fam_blk (L := [⟨some ⟨q, 0, none⟩, 2, 2, [0, 1]⟩, ⟨some ⟨q + 1, 0, none⟩, 2, 2, [1, 2]⟩]) k2 (by simp) (fun t ht => by
    rcases List.mem_cons.1 ht with rfl | ht
    · exact ints_blk (xs := [0, 1]) k0 (by decide)
    · simp at ht; subst ht; exact ints_blk (xs := [1, 2]) k1 (by decide))
  have HGW := Lib.hid hgW
  clear k0 k1 k2 hgW hq
  refine Blocker_any [[0, 1], [1, 2]] _ _ hf0 _ ?_
  intro w1 v1 hg1 hv1
  have hb1 : bkO [[0, 1], [1, 2]] = [[0, 2], [1]] := by unfold bkO; rw [ex_val, ifOK_ok, ex_bk]
  rw [hb1] at hv1
  rw [ex_val]
  have hf1 : FamAt w1 v1 [[0, 2], [1]] := hv1.fam
  have HF1 := Lib.hid hf1
  have HG1 := Lib.hid (HGW.out.trans hg1)
  obtain ⟨a1, c1, rfl, _⟩ := hf1.out
  rw [show ([[0, 2], [1]] : List (List Int)).length = 2 from rfl]
  clear hf0 hf1 hv1 hg1 hb1
  go_wp2_with fail
  obtain ⟨k0, k1, k2⟩ := heaps3 w1 (.cells #[.int .i64 1, .int .i64 0, .int .i64 3, .int .i64 0, .int .i64 3, .int .i64 0, .int .i64 0, .int .i64 0] 67) (.cells #[.int .i64 0, .int .i64 0, .int .i64 0, .int .i64 0] 3) (.cells #[.slice (some ⟨w1.heap.size + 1, 0, none⟩) 4 4, .int .i64 0, .int .i64 7] 37)
  have hgW : Grow w1 (((w1.alloc (.cells #[.int .i64 1, .int .i64 0, .int .i64 3, .int .i64 0, .int .i64 3, .int .i64 0, .int .i64 0, .int .i64 0] 67)).alloc (.cells #[.int .i64 0, .int .i64 0, .int .i64 0, .int .i64 0] 3)).alloc (.cells #[.slice (some ⟨w1.heap.size + 1, 0, none⟩) 4 4, .int .i64 0, .int .i64 7] 37)) := (((Grow.refl w1).alloc _).alloc _).alloc _
  generalize ((w1.alloc (.cells #[.int .i64 1, .int .i64 0, .int .i64 3, .int .i64 0, .int .i64 3, .int .i64 0, .int .i64 0, .int .i64 0] 67)).alloc (.cells #[.int .i64 0, .int .i64 0, .int .i64 0, .int .i64 0] 3)).alloc (.cells #[.slice (some ⟨w1.heap.size + 1, 0, none⟩) 4 4, .int .i64 0, .int .i64 7] 37) = W2 at k0 k1 k2 hgW ⊢
  obtain ⟨q2, hq⟩ : ∃ b, w1.heap.size = b := ⟨_, rfl⟩
  rw [hq] at k0 k1 k2 ⊢
  have hp2 : LinesAt W2 (.slice (some ⟨q2, 0, none⟩) 2 2) exP := slc_blk encL_len (xs := exP) k0 (by decide)
  have ht2 : TestsAt W2 (.slice (some ⟨q2 + 1 + 1, 0, none⟩) 1 1) [⟨.slice (some ⟨q2 + 1, 0, none⟩) 4 4, [0, 0, 0, 0], 0, 7⟩] := ⟨slc_blk encTs_len (xs := [⟨.slice (some ⟨q2 + 1, 0, none⟩) 4 4, [0, 0, 0, 0], 0, 7⟩]) k2 (by simp), fun t ht => by simp at ht; subst ht; exact ints_blk (xs := [0, 0, 0, 0]) k1 (by simp)⟩
  have HGW2 := Lib.hid (HG1.out.trans hgW)
  have HF2 := Lib.hid (HF1.out.grow hgW)
  clear k0 k1 k2 hgW hq HF1
  refine Blamed_any exP [⟨.slice (some ⟨q2 + 1, 0, none⟩) 4 4, [0, 0, 0, 0], 0, 7⟩] 1 _ _ _ hp2 ht2 _ ?_
  intro w3 v3 hg3 hv3
  have hb3 : bdO exP [⟨.slice (some ⟨q2 + 1, 0, none⟩) 4 4, [0, 0, 0, 0], 0, 7⟩] 1 = [[1]] := by unfold bdO; rw [ex_bdE, ifOK_ok]; exact ex_bd _
  rw [hb3] at hv3
  rw [ex_bdE]
  have HV3 := Lib.hid hv3
  have HG3 := Lib.hid (HGW2.out.trans hg3)
  have HF3 := Lib.hid (HF2.out.grow hg3)
  obtain ⟨a3, c3, rfl, _⟩ := hv3.out
  rw [show ([[1]] : List (List Int)).length = 1 from rfl]
  clear hp2 ht2 hv3 hg3 hb3 HF2
  go_wp2_with fail
  obtain ⟨k0, k1, k2⟩ := heaps3 w3 (.cells #[.int .i64 0, .int .i64 2] 3) (.cells #[.int .i64 1] 3) (.cells #[.slice (some ⟨w3.heap.size, 0, none⟩) 2 2, .slice (some ⟨w3.heap.size + 1, 0, none⟩) 1 1] 29)
  have hgW : Grow w3 (((w3.alloc (.cells #[.int .i64 0, .int .i64 2] 3)).alloc (.cells #[.int .i64 1] 3)).alloc (.cells #[.slice (some ⟨w3.heap.size, 0, none⟩) 2 2, .slice (some ⟨w3.heap.size + 1, 0, none⟩) 1 1] 29)) := (((Grow.refl w3).alloc _).alloc _).alloc _
  generalize ((w3.alloc (.cells #[.int .i64 0, .int .i64 2] 3)).alloc (.cells #[.int .i64 1] 3)).alloc (.cells #[.slice (some ⟨w3.heap.size, 0, none⟩) 2 2, .slice (some ⟨w3.heap.size + 1, 0, none⟩) 1 1] 29) = W4 at k0 k1 k2 hgW ⊢
  obtain ⟨q4, hq⟩ : ∃ b, w3.heap.size = b := ⟨_, rfl⟩
  rw [hq] at k0 k1 k2 ⊢
  have hf4 : FamAt W4 (.slice (some ⟨q4 + 1 + 1, 0, none⟩) 2 2) [[0, 2], [1]] := fam_blk (L := [⟨some ⟨q4, 0, none⟩, 2, 2, [0, 2]⟩, ⟨some ⟨q4 + 1, 0, none⟩, 1, 1, [1]⟩]) k2 (by simp) (fun t ht => by
    rcases List.mem_cons.1 ht with rfl | ht
    · exact ints_blk (xs := [0, 2]) k0 (by decide)
    · simp at ht; subst ht; exact ints_blk (xs := [1]) k1 (by decide))
  have HG4 := Lib.hid (HG3.out.trans hgW)
  have HF4 := Lib.hid (HF3.out.grow hgW)
  have HV4 := Lib.hid (HV3.out.grow hgW)
  clear k0 k1 k2 hgW hq HF3 HV3
  refine sameF_any [[0, 2], [1]] [[0, 2], [1]] _ _ _ HF4.out hf4 _ ?_
  intro w5 hg5
  rw [show decide (([[0, 2], [1]] : List (List Int)) = [[0, 2], [1]]) = true from decide_eq_true rfl]
  have HG5 := Lib.hid (HG4.out.trans hg5)
  have HV5 := Lib.hid (HV4.out.grow hg5)
  clear hf4 hg5 HF4 HV4
  go_wp2_with fail
  have k0 := heap_two0 w5 (.cells #[.int .i64 1] 3) (.cells #[.slice (some ⟨w5.heap.size, 0, none⟩) 1 1] 29)
  have k1 := heap_two1 w5 (.cells #[.int .i64 1] 3) (.cells #[.slice (some ⟨w5.heap.size, 0, none⟩) 1 1] 29)
  have hgW : Grow w5 ((w5.alloc (.cells #[.int .i64 1] 3)).alloc (.cells #[.slice (some ⟨w5.heap.size, 0, none⟩) 1 1] 29)) := ((Grow.refl w5).alloc _).alloc _
  generalize (w5.alloc (.cells #[.int .i64 1] 3)).alloc (.cells #[.slice (some ⟨w5.heap.size, 0, none⟩) 1 1] 29) = W6 at k0 k1 hgW ⊢
  obtain ⟨q6, hq⟩ : ∃ b, w5.heap.size = b := ⟨_, rfl⟩
  rw [hq] at k0 k1 ⊢
  have hf6 : FamAt W6 (.slice (some ⟨q6 + 1, 0, none⟩) 1 1) [[1]] := fam_blk (L := [⟨some ⟨q6, 0, none⟩, 1, 1, [1]⟩]) k1 (by simp) (fun t ht => by simp at ht; subst ht; exact ints_blk (xs := [1]) k0 (by decide))
  have HG6 := Lib.hid (HG5.out.trans hgW)
  have HV6 := Lib.hid (HV5.out.grow hgW)
  clear k0 k1 hgW hq HV5
  refine sameF_any [[1]] [[1]] _ _ _ HV6.out hf6 _ ?_
  intro w7 hg7
  rw [show decide (([[1]] : List (List Int)) = [[1]]) = true from decide_eq_true rfl]
  have HF := Lib.hid (HR.out w7 (HG6.out.trans hg7))
  clear hf6 hg7
  go_wp2_with fail
  exact HF.out
end Go.Proofs.YtmlbgfnddgbpbaaGreat
