/-
The walks of package check: which tests a program passes.
The walks of package check: the tests that pass, and that fail.
-/
import Derived.Test.YtfbfkkaepgcggaaGreatQ04
import Derived.Test.YtfbfkkaepgcggaaGreatQ06
import Derived.Test.YtfbfkkaepgcggaaGreatQ01
import Derived.Deep.RegionHeld3
import Derived.Deep.RegionWith
namespace Go.Proofs.YtfbfkkaepgcggaaGreat
open Go.RowKit

theorem box1 {w : World} {b : Nat} {c0 : Value} {e : TypeId} (h : w.heap[b]? = some (.cells #[c0] e (0, 0))) : w.cell? ⟨b, 0, none⟩ = some c0 := by
  unfold World.cell?; simp only [h]; rfl
set_option maxHeartbeats 2000000 in
theorem tested1_any (p : List Ln) (ts : List Tst) (pv v : Value) (b : Nat) (w : World) (hp : LinesAt w pv p) (ht : TestsAt w v ts) (hb : w.heap[b]? = some (.cells #[pv] 23 (0, 0))) (R : Ending → World → Prop)
    (hR : ∀ w', Grow w w' → R (.returned (.int .i64 (chkT p ts))) w') :
    Calls Tryz.prog 136 #[v, .slice (some ⟨b, 0, none⟩) 1 1] w R := by
  have HP := Lib.hid hp
  have HT := Lib.hid ht
  have HB := Lib.hid hb
  have hc : chkT p ts = if valP p = 0 then valT ts else valP p := rfl
  rw [hc] at hR
  have HR := Lib.hid hR
  obtain ⟨e, he⟩ : ∃ e, valP p = e := ⟨_, rfl⟩
  rw [he] at HR
  have HE := Lib.hid he
  obtain ⟨pa, pc, rfl, _⟩ := hp
  obtain ⟨⟨ta, tc, rfl, _⟩, _⟩ := ht
  have c0 := box1 hb
  have hz := lt_of_block hb
  clear hR hc he hb
  go_enter Tryz.func136, Tryz.ntmps136
  go_wp2_with fail
  go_loopw [6, 7, 10] (fun _ _ i wr => Grow w wr ∧ (i = .int .i64 0 ∨ (i = .int .i64 1 ∧ e = 0))) (fun _ _ i _ => (1 - intOf i).toNat)
  case atStart => exact ⟨Grow.refl _, .inl rfl⟩
  case round =>
    obtain ⟨hg, hi⟩ := hrel
    have HG := Lib.hid hg
    have d0 := hg.cell c0
    have hz2 := hg.sz
    clear hg
    rcases hi with rfl | ⟨rfl, rfl⟩
    · by_cases h0 : e = 0
      · subst h0
        go_wp2_with fail
        refine validate_any p _ _ (HP.out.grow HG.out) _ ?_
        intro w1 hg1
        rw [HE.out]
        have HG1 := Lib.hid (HG.out.trans hg1)
        clear hg1
        go_wp2_with fail
        go_roundw
        case rel => exact ⟨HG1.out, .inr ⟨by first | rfl | go_num, by first | trivial | rfl⟩⟩
        case measure => simp [intOf]
      · rw [if_neg h0] at HR
        have t1 : (e != 0) = true := by simpa using h0
        clear h0
        go_wp2_with fail
        refine validate_any p _ _ (HP.out.grow HG.out) _ ?_
        intro w1 hg1
        rw [HE.out]
        have HF := Lib.hid (HR.out w1 (HG.out.trans hg1))
        clear hg1
        go_wp2_with fail
        exact HF.out
    · rw [if_pos rfl] at HR
      go_wp2_with fail
      refine validateTests_any ts _ _ (HT.out.grow HG.out) _ ?_
      intro w1 hg1
      have HF := Lib.hid (HR.out w1 (HG.out.trans hg1))
      clear hg1
      go_wp2_with fail
      exact HF.out

set_option maxHeartbeats 2000000 in
theorem end_any (p : List Ln) (s : List Int) (o : Int) (pv sv : Value) (w : World) (hp : LinesAt w pv p) (hs : IntsAt w sv s) (hok : chk p s = 0) (o0 : 0 ≤ o) (o3 : o ≤ 3) (R : Ending → World → Prop)
    (hR : ∀ w', Grow w w' → R (.returned (.int .i64 (endM p s o))) w') :
    Calls Tryz.prog 158 #[pv, sv, .int .i64 o] w R := by
  have HP := Lib.hid hp
  have HS := Lib.hid hs
  have hx : (runM p s)[o.toNat]? = some (endM p s o) := by
    unfold endM
    rw [List.getElem?_eq_getElem (show o.toNat < (runM p s).length by rw [runM_length]; omega)]
    rfl
  have HX := Lib.hid hx
  have HR := Lib.hid hR
  generalize endM p s o = q at HX HR
  have HOK := Lib.hid hok
  obtain ⟨n, rfl⟩ : ∃ n : Nat, o = n := ⟨o.toNat, by omega⟩
  obtain ⟨pa, pc, rfl, _⟩ := hp
  obtain ⟨sa, sc, rfl, _⟩ := hs
  clear hR hx hok
  go_enter Tryz.func158, Tryz.ntmps158
  go_wp2_with fail
  refine Run_any p s _ _ _ HP.out HS.out _ ?_
  intro w1 x1 hg1 hx1
  rw [HOK.out, ifOK_ok] at hx1
  rw [HOK.out]
  have hx2 := hx1.slc encI_len
  have hl := runM_length p s
  obtain ⟨a1, c1, rfl, q1, q2, q3⟩ := hx2
  have hx3 : IntsAt w1 (.slice a1 (runM p s).length c1) (runM p s) := ⟨a1, c1, rfl, q1, q2, q3⟩
  obtain ⟨b, off, rfl, hb, e0⟩ := ints_at hx3 (k := n) (x := q) (by have := HX.out; simpa using this)
  rw [hl]
  have hn : (n : Int) < 4 := by omega
  have HF := Lib.hid (HR.out w1 hg1)
  clear hg1 hx1 hx3 q1 q2 q3 hl
  go_wp2_with fail
  exact HF.out

theorem keep3 {w2 X Y : World} {a0 a1 a2 : Addr} {v0 v1 v2 : Value} (g : Grow X Y)
    (h : X.cell? a0 = some v0 ∧ X.cell? a1 = some v1 ∧ X.cell? a2 = some v2 ∧ Grow w2 X) :
    Y.cell? a0 = some v0 ∧ Y.cell? a1 = some v1 ∧ Y.cell? a2 = some v2 ∧ Grow w2 Y :=
  ⟨g.cell h.1, g.cell h.2.1, g.cell h.2.2.1, h.2.2.2.trans g⟩

set_option maxRecDepth 100000 in
set_option maxHeartbeats 4000000 in
theorem passes_any (p : List Ln) (t : Tst) (pv : Value) (w : World) (hp : LinesAt w pv p) (ht : IntsAt w t.v t.xs) (hok : valP p = 0) (htok : t.ok = true) (R : Ending → World → Prop)
    (hR : ∀ w', Grow w w' → R (.returned (.bool (passM p t))) w') :
    Calls Tryz.prog 139 #[pv, .agg #[t.v, .int .i64 t.o, .int .i64 t.wt]] w R := by
  obtain ⟨v, xs, o, wt⟩ := t
  obtain ⟨k1, ⟨k2, k3⟩, _⟩ := Tst.ok_iff.1 htok
  have hpm : passM p ⟨v, xs, o, wt⟩ = decide (endM p xs o = wt) := rfl
  rw [hpm] at hR
  have HR := Lib.hid hR
  dsimp only at ht k1 k2 k3 ⊢
  have HP := Lib.hid hp
  have HT := Lib.hid ht
  have HOK := Lib.hid (chk_ok.2 ⟨hok, k1⟩)
  have HK2 := Lib.hid k2
  have HK3 := Lib.hid k3
  obtain ⟨q, hq⟩ : ∃ q, endM p xs o = q := ⟨_, rfl⟩
  rw [hq] at HR
  have HQ := Lib.hid hq
  obtain ⟨pa, pc, rfl, _⟩ := hp
  obtain ⟨sa, sc, rfl, _⟩ := ht
  have t1 : (q == wt) = decide (q = wt) := by by_cases h : q = wt <;> simp [h]
  generalize decide (q = wt) = bb at HR t1
  clear hR hpm hq htok hok k1 k2 k3
  go_enter Tryz.func139, Tryz.ntmps139
  go_wp2_with fail
  have hb := heap_alloc_new w (.cells #[.slice sa xs.length sc, .int .i64 o, .int .i64 wt] 56)
  have hg := (Grow.refl w).alloc (.cells #[.slice sa xs.length sc, .int .i64 o, .int .i64 wt] 56)
  generalize w.alloc (.cells #[.slice sa xs.length sc, .int .i64 o, .int .i64 wt] 56) = W at hb hg ⊢
  obtain ⟨c0, c1, c2⟩ := box3 hb
  have hz := lt_of_block hb
  have HG := Lib.hid hg
  clear hb hg
  go_region_held3 (fun X => X.cell? ⟨w.heap.size, 0, none⟩ = some (.slice sa xs.length sc) ∧ X.cell? ⟨w.heap.size, 1, none⟩ = some (.int .i64 o) ∧ X.cell? ⟨w.heap.size, 2, none⟩ = some (.int .i64 wt) ∧ Grow W X)
    (first | exact ⟨c0, c1, c2, (Grow.refl W).drew⟩ | exact ⟨c0, c1, c2, Grow.refl W⟩ | exact keep3 hg8 (by assumption))
    (first | (go_at_call 158; refine end_any p xs o _ _ _ ?_ ?_ HOK.out HK2.out HK3.out _ ?_; exact HP.out.grow (HG.out.trans (And.right (And.right (And.right ‹_›)))); exact HT.out.grow (HG.out.trans (And.right (And.right (And.right ‹_›)))); intro w8 hg8; rw [HQ.out]))
  rename_i hx
  have hgf : Grow w w8 := HG.out.trans hx.2.2.2
  have HF := Lib.hid (HR.out w8 hgf)
  go_wp2_with fail
  first | exact HF.out | (rw [t1]; exact HF.out)


set_option maxHeartbeats 2000000 in
theorem failF_any (p : List Ln) (t : Tst) (pv : Value) (b : Nat) (w : World) (hp : LinesAt w pv p) (ht : IntsAt w t.v t.xs) (hb : w.heap[b]? = some (.cells #[pv] 23 (0, 0))) (hok : valP p = 0) (htok : t.ok = true) (R : Ending → World → Prop)
    (hR : ∀ w', Grow w w' → R (.returned (.bool (!passM p t))) w') :
    Calls Tryz.prog 138 #[.agg #[t.v, .int .i64 t.o, .int .i64 t.wt], .pointer (some ⟨b, 0, none⟩)] w R := by
  have HP := Lib.hid hp
  have HT := Lib.hid ht
  have HR := Lib.hid hR
  have HOK := Lib.hid hok
  have HTOK := Lib.hid htok
  obtain ⟨q, hq⟩ : ∃ q, passM p t = q := ⟨_, rfl⟩
  rw [hq] at HR
  have HQ := Lib.hid hq
  obtain ⟨pa, pc, rfl, _⟩ := hp
  obtain ⟨sa, sc, hv, _⟩ := ht
  obtain ⟨v, xs, o, wt⟩ := t
  dsimp only at hv
  subst hv
  dsimp only at HT ⊢
  have e0 := box1 hb
  have hz := lt_of_block hb
  clear hR hq hok htok hb
  go_enter Tryz.func138, Tryz.ntmps138
  go_wp2_with fail
  have hg := (Grow.refl w).alloc (.cells #[.slice sa xs.length sc, .int .i64 o, .int .i64 wt] 56)
  generalize w.alloc (.cells #[.slice sa xs.length sc, .int .i64 o, .int .i64 wt] 56) = W at hg ⊢
  refine passes_any p ⟨.slice sa xs.length sc, xs, o, wt⟩ _ _ (HP.out.grow hg) (HT.out.grow hg) HOK.out HTOK.out _ ?_
  intro w1 hg1
  rw [HQ.out]
  have HF := Lib.hid (HR.out w1 (hg.trans hg1))
  clear hg hg1
  cases q <;> (go_wp2_with fail; exact HF.out)


set_option maxHeartbeats 2000000 in
theorem passF_any (p : List Ln) (t : Tst) (pv : Value) (b : Nat) (w : World) (hp : LinesAt w pv p) (ht : IntsAt w t.v t.xs) (hb : w.heap[b]? = some (.cells #[pv] 23 (0, 0))) (hok : valP p = 0) (htok : t.ok = true) (R : Ending → World → Prop)
    (hR : ∀ w', Grow w w' → R (.returned (.bool (passM p t))) w') :
    Calls Tryz.prog 140 #[.agg #[t.v, .int .i64 t.o, .int .i64 t.wt], .pointer (some ⟨b, 0, none⟩)] w R := by
  have HP := Lib.hid hp
  have HT := Lib.hid ht
  have HR := Lib.hid hR
  have HOK := Lib.hid hok
  have HTOK := Lib.hid htok
  obtain ⟨q, hq⟩ : ∃ q, passM p t = q := ⟨_, rfl⟩
  rw [hq] at HR
  have HQ := Lib.hid hq
  obtain ⟨pa, pc, rfl, _⟩ := hp
  obtain ⟨sa, sc, hv, _⟩ := ht
  obtain ⟨v, xs, o, wt⟩ := t
  dsimp only at hv
  subst hv
  dsimp only at HT ⊢
  have e0 := box1 hb
  have hz := lt_of_block hb
  clear hR hq hok htok hb
  go_enter Tryz.func140, Tryz.ntmps140
  go_wp2_with fail
  have hg := (Grow.refl w).alloc (.cells #[.slice sa xs.length sc, .int .i64 o, .int .i64 wt] 56)
  generalize w.alloc (.cells #[.slice sa xs.length sc, .int .i64 o, .int .i64 wt] 56) = W at hg ⊢
  refine passes_any p ⟨.slice sa xs.length sc, xs, o, wt⟩ _ _ (HP.out.grow hg) (HT.out.grow hg) HOK.out HTOK.out _ ?_
  intro w1 hg1
  rw [HQ.out]
  have HF := Lib.hid (HR.out w1 (hg.trans hg1))
  clear hg hg1
  cases q <;> (go_wp2_with fail; exact HF.out)

end Go.Proofs.YtfbfkkaepgcggaaGreat

namespace Go.Proofs.YtfbfkkaepgcggaaGreat
open Go.RowKit

theorem newsG (W : World) (n : Nat) (hn : W.heap.size = n) (cs : List Value) (t : TypeId) : ∀ j v, cs[j]? = some v → (W.alloc (.cells cs.toArray t)).cell? ((⟨n, 0, none⟩ : Addr).add j) = some v := hn ▸ news_one W cs t
set_option maxRecDepth 100000 in
set_option maxHeartbeats 4000000 in
theorem where_any (g : Nat) (cb : Array Value) (eg : Enters Tryz.prog g) (pr : Tst → Bool) (ts : List Tst) (v : Value) (w : World) (hx : SlcAt 3 encTs w v ts) (hlen : ts.length ≤ 8) (hins : ∀ t ∈ ts, ∃ a n c, t.v = .slice a n c) (hp : PredT g cb w ts pr)
    (R : Ending → World → Prop) (hR : ∀ w' x, Grow w w' → OwnI w.heap.size w' x (whereL pr ts) → R (.returned x) w') :
    Calls Tryz.prog 137 #[v, .func (.func g) #[] cb] w R := by
  have HX := Lib.hid hx
  have HR := Lib.hid hR
  have HP := Lib.hid hp
  have HINS := Lib.hid hins
  obtain ⟨a, c, rfl, h1, h2, _⟩ := hx
  unfold Enters at eg
  clear hR hp hins
  go_enter Tryz.func137, Tryz.ntmps137
  go_wp2_with fail
  go_loopw [5, 6, 7, 10] (fun out _ _ i wr => ∃ k : Nat, k ≤ ts.length ∧ i = .int .i64 k ∧ Grow w wr ∧ wr.ownsRow w.heap.size 3 1 out (whereN pr ts k).length ((whereN pr ts k).flatMap encI)) (fun _ _ _ i _ => ts.length - (intOf i).toNat)
  case atStart => exact ⟨0, Nat.zero_le _, rfl, Grow.refl _, World.ownsRow_nil _ _ _ _⟩
  case round =>
    obtain ⟨k, hk, rfl, hg, how⟩ := hrel
    have HG := Lib.hid hg
    have HOW := Lib.hid how
    have hzw := hg.sz
    clear hg how
    by_cases hlt : k < ts.length
    · obtain ⟨t, ht⟩ : ∃ x, ts[k]? = some x := ⟨_, List.getElem?_eq_getElem hlt⟩
      obtain ⟨b, o, rfl, hb, e0, e1, e2⟩ := tests_at (HX.out.grow HG.out) ht
      have HMEM := Lib.hid (List.mem_of_getElem? ht)
      have HS := Lib.hid (whereN_succ (f := pr) ht)
      have HLB := Lib.hid (show (whereN pr ts k).length < 100000000000 by have := whereN_len pr ts k; omega)
      have hlt2 : (k : Int) < (ts.length : Int) := by omega
      obtain ⟨sa, sn, sc, hv⟩ := HINS.out t HMEM.out
      rw [hv] at e0
      have HV := Lib.hid hv
      obtain ⟨to_, hto⟩ : ∃ z, t.o = z := ⟨_, rfl⟩
      obtain ⟨tw, htw⟩ : ∃ z, t.wt = z := ⟨_, rfl⟩
      rw [hto] at e1
      rw [htw] at e2
      have htv : Value.agg #[.slice sa sn sc, .int .i64 to_, .int .i64 tw] = .agg #[t.v, .int .i64 t.o, .int .i64 t.wt] := by rw [hv, hto, htw]
      have HTV := Lib.hid htv
      clear ht hv htv hto htw
      go_wp2_with fail
      have hg1 := (Grow.refl wr).alloc (.cells #[.slice sa sn sc, .int .i64 to_, .int .i64 tw] 56)
      rw [HTV.out]
      refine HP.out t HMEM.out _ (HG.out.trans hg1) _ ?_
      intro w1 hgw
      have HGW := Lib.hid (hg1.trans hgw)
      clear hg1 hgw e0 e1 e2 hb
      cases hpr : pr t with
      | false =>
        have HPR := Lib.hid hpr
        clear hpr
        go_wp2_with fail
        go_roundw
        case rel => exact ⟨k + 1, by omega, by go_num, HG.out.trans HGW.out, by rw [HS.out, HPR.out, if_neg (by decide), List.append_nil]; exact HGW.out.owns HOW.out⟩
        case measure => simp [intOf]; omega
      | true =>
        have HPR := Lib.hid hpr
        clear hpr
        go_wp2_with (at_builtin; refine wpList_app _ rfl (.tmp 18) (.tmp 20) 25 rfl w.heap.size 3 Tryz.underlying25 info_int rfl (by decide) (by decide) encI encI_len encI_one _ (whereN pr ts k) rfl (((HGW.out.alloc _)).owns HOW.out) _ (k : Int) 1 rfl (newsG _ _ (by simp) (encI (k : Int)) _) HLB.out (by have := HG.out.sz; have := HGW.out.sz; simp; omega) ?_; intro out2 w2 hown2 hgr2)
        have HG2 := Lib.hid (show Grow w w2 from grown_below HOW.out hgr2 (Nat.le_refl _) (by have := HG.out.sz; have := HGW.out.sz; simp; omega) (HG.out.trans (HGW.out.alloc _)))
        have HO2 := Lib.hid hown2
        clear hown2 hgr2
        go_roundw
        case rel => exact ⟨k + 1, by omega, by go_num, HG2.out, by rw [HS.out, HPR.out, if_pos rfl]; exact HO2.out⟩
        case measure => simp [intOf]; omega
    · have hkn : k = ts.length := by omega
      have hfin : whereN pr ts k = whereL pr ts := by rw [hkn]; rfl
      have HO2 := HOW.out
      rw [hfin] at HO2
      have HF := Lib.hid (HR.out _ _ HG.out ⟨_, HO2⟩)
      clear HO2 hkn hfin
      go_wp2_with fail
      exact HF.out

theorem TestsAt.vals {w : World} {v : Value} {ts : List Tst} (h : TestsAt w v ts) : ∀ t ∈ ts, ∃ a n c, t.v = .slice a n c := fun t ht => by
  obtain ⟨a, c, hv, _⟩ := h.ins t ht
  exact ⟨a, _, c, hv⟩

set_option maxRecDepth 100000 in
set_option maxHeartbeats 4000000 in
theorem Failing_any (p : List Ln) (ts : List Tst) (pv v : Value) (w : World) (hp : LinesAt w pv p) (ht : TestsAt w v ts) (R : Ending → World → Prop)
    (hR : ∀ w' x, Grow w w' → OwnI w.heap.size w' x (ifOK (chkT p ts) (whereL (fun t => !passM p t) ts)) → R (.returned (.tuple #[x, .int .i64 (chkT p ts)])) w') :
    Calls Tryz.prog 109 #[pv, v] w R := by
  have HP := Lib.hid hp
  have HT := Lib.hid ht
  have HR := Lib.hid hR
  obtain ⟨e, he⟩ : ∃ e, chkT p ts = e := ⟨_, rfl⟩
  have hok := fun h : e = 0 => chkT_ok.1 (he.trans h)
  have HE := Lib.hid he
  rw [he] at HR
  obtain ⟨pa, pc, rfl, _⟩ := hp
  obtain ⟨⟨ta, tc, rfl, _⟩, _⟩ := ht
  clear hR he
  by_cases h0 : e = 0
  · subst h0
    obtain ⟨hv, hvt⟩ := hok rfl
    obtain ⟨hl8, htok⟩ := valT_ok.1 hvt
    have HV := Lib.hid hv
    have HL8 := Lib.hid hl8
    have HTOK := Lib.hid htok
    clear hok hv hvt hl8 htok
    have eg : Enters Tryz.prog 138 := enters_of Tryz.func138 (by kernel_rfl) rfl
    have EG := Lib.hid eg
    clear eg
    go_enter Tryz.func109, Tryz.ntmps109
    go_wp2_with fail
    have hb := heap_two0 w (.cells #[.slice pa p.length pc] 23) (.cells #[.slice pa p.length pc] 23)
    have hb1 := heap_two1 w (.cells #[.slice pa p.length pc] 23) (.cells #[.slice pa p.length pc] 23)
    have hg : Grow w ((w.alloc (.cells #[.slice pa p.length pc] 23)).alloc (.cells #[.slice pa p.length pc] 23)) := ((Grow.refl w).alloc _).alloc _
    generalize (w.alloc (.cells #[.slice pa p.length pc] 23)).alloc (.cells #[.slice pa p.length pc] 23) = W at hb hb1 hg ⊢
    refine tested1_any p ts _ _ _ _ (HP.out.grow hg) (HT.out.grow hg) hb1 _ ?_
    intro w1 hg1
    rw [HE.out]
    have HB := Lib.hid (hg1.blk hb)
    have HG := Lib.hid (hg.trans hg1)
    clear hb hb1 hg hg1
    go_wp2_with fail
    have hpred : PredT 138 #[.pointer (some ⟨w.heap.size, 0, none⟩)] w1 ts (fun t => !passM p t) := fun t htm W hgW R hR =>
      failF_any p t _ _ W (HP.out.grow (HG.out.trans hgW)) ((HT.out.ins t htm).grow (HG.out.trans hgW)) (hgW.blk HB.out) HV.out (HTOK.out t htm) R hR
    refine where_any 138 _ EG.out (fun t => !passM p t) ts _ _ (HT.out.grow HG.out).at_ HL8.out (HT.out.grow HG.out).vals hpred _ ?_
    intro w2 x2 hg2 hx2
    have HF := Lib.hid (HR.out w2 x2 (HG.out.trans hg2) (by rw [ifOK_ok]; exact hx2.mono HG.out.sz))
    clear hg2 hx2 hpred
    go_wp2_with fail
    exact HF.out
  · rw [ifOK_err h0] at HR
    have t1 : (e != 0) = true := by simpa using h0
    clear hok h0
    go_enter Tryz.func109, Tryz.ntmps109
    go_wp2_with fail
    have hb1 := heap_two1 w (.cells #[.slice pa p.length pc] 23) (.cells #[.slice pa p.length pc] 23)
    have hg : Grow w ((w.alloc (.cells #[.slice pa p.length pc] 23)).alloc (.cells #[.slice pa p.length pc] 23)) := ((Grow.refl w).alloc _).alloc _
    generalize (w.alloc (.cells #[.slice pa p.length pc] 23)).alloc (.cells #[.slice pa p.length pc] 23) = W at hb1 hg ⊢
    refine tested1_any p ts _ _ _ _ (HP.out.grow hg) (HT.out.grow hg) hb1 _ ?_
    intro w1 hg1
    rw [HE.out]
    have HF := Lib.hid (HR.out w1 (.slice none 0 0) (hg.trans hg1) (Own.nil _ _ _ _))
    clear hb1 hg hg1
    go_wp2_with fail
    exact HF.out


set_option maxRecDepth 100000 in
set_option maxHeartbeats 4000000 in
theorem Passing_any (p : List Ln) (ts : List Tst) (pv v : Value) (w : World) (hp : LinesAt w pv p) (ht : TestsAt w v ts) (R : Ending → World → Prop)
    (hR : ∀ w' x, Grow w w' → OwnI w.heap.size w' x (ifOK (chkT p ts) (whereL (fun t => passM p t) ts)) → R (.returned (.tuple #[x, .int .i64 (chkT p ts)])) w') :
    Calls Tryz.prog 110 #[pv, v] w R := by
  have HP := Lib.hid hp
  have HT := Lib.hid ht
  have HR := Lib.hid hR
  obtain ⟨e, he⟩ : ∃ e, chkT p ts = e := ⟨_, rfl⟩
  have hok := fun h : e = 0 => chkT_ok.1 (he.trans h)
  have HE := Lib.hid he
  rw [he] at HR
  obtain ⟨pa, pc, rfl, _⟩ := hp
  obtain ⟨⟨ta, tc, rfl, _⟩, _⟩ := ht
  clear hR he
  by_cases h0 : e = 0
  · subst h0
    obtain ⟨hv, hvt⟩ := hok rfl
    obtain ⟨hl8, htok⟩ := valT_ok.1 hvt
    have HV := Lib.hid hv
    have HL8 := Lib.hid hl8
    have HTOK := Lib.hid htok
    clear hok hv hvt hl8 htok
    have eg : Enters Tryz.prog 140 := enters_of Tryz.func140 (by kernel_rfl) rfl
    have EG := Lib.hid eg
    clear eg
    go_enter Tryz.func110, Tryz.ntmps110
    go_wp2_with fail
    have hb := heap_two0 w (.cells #[.slice pa p.length pc] 23) (.cells #[.slice pa p.length pc] 23)
    have hb1 := heap_two1 w (.cells #[.slice pa p.length pc] 23) (.cells #[.slice pa p.length pc] 23)
    have hg : Grow w ((w.alloc (.cells #[.slice pa p.length pc] 23)).alloc (.cells #[.slice pa p.length pc] 23)) := ((Grow.refl w).alloc _).alloc _
    generalize (w.alloc (.cells #[.slice pa p.length pc] 23)).alloc (.cells #[.slice pa p.length pc] 23) = W at hb hb1 hg ⊢
    refine tested1_any p ts _ _ _ _ (HP.out.grow hg) (HT.out.grow hg) hb1 _ ?_
    intro w1 hg1
    rw [HE.out]
    have HB := Lib.hid (hg1.blk hb)
    have HG := Lib.hid (hg.trans hg1)
    clear hb hb1 hg hg1
    go_wp2_with fail
    have hpred : PredT 140 #[.pointer (some ⟨w.heap.size, 0, none⟩)] w1 ts (fun t => passM p t) := fun t htm W hgW R hR =>
      passF_any p t _ _ W (HP.out.grow (HG.out.trans hgW)) ((HT.out.ins t htm).grow (HG.out.trans hgW)) (hgW.blk HB.out) HV.out (HTOK.out t htm) R hR
    refine where_any 140 _ EG.out (fun t => passM p t) ts _ _ (HT.out.grow HG.out).at_ HL8.out (HT.out.grow HG.out).vals hpred _ ?_
    intro w2 x2 hg2 hx2
    have HF := Lib.hid (HR.out w2 x2 (HG.out.trans hg2) (by rw [ifOK_ok]; exact hx2.mono HG.out.sz))
    clear hg2 hx2 hpred
    go_wp2_with fail
    exact HF.out
  · rw [ifOK_err h0] at HR
    have t1 : (e != 0) = true := by simpa using h0
    clear hok h0
    go_enter Tryz.func110, Tryz.ntmps110
    go_wp2_with fail
    have hb1 := heap_two1 w (.cells #[.slice pa p.length pc] 23) (.cells #[.slice pa p.length pc] 23)
    have hg : Grow w ((w.alloc (.cells #[.slice pa p.length pc] 23)).alloc (.cells #[.slice pa p.length pc] 23)) := ((Grow.refl w).alloc _).alloc _
    generalize (w.alloc (.cells #[.slice pa p.length pc] 23)).alloc (.cells #[.slice pa p.length pc] 23) = W at hb1 hg ⊢
    refine tested1_any p ts _ _ _ _ (HP.out.grow hg) (HT.out.grow hg) hb1 _ ?_
    intro w1 hg1
    rw [HE.out]
    have HF := Lib.hid (HR.out w1 (.slice none 0 0) (hg.trans hg1) (Own.nil _ _ _ _))
    clear hb1 hg hg1
    go_wp2_with fail
    exact HF.out

end Go.Proofs.YtfbfkkaepgcggaaGreat
