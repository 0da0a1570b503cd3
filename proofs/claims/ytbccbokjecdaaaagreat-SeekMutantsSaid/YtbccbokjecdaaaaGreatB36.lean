/- The walks of every, Count and Places. -/
import Derived.Test.YtbccbokjecdaaaaGreatB35
import Derived.Test.YtbccbokjecdaaaaGreatB08
namespace Go.Proofs.YtbccbokjecdaaaaGreat
open Go.RowKit
open Go.Sort (Holds putRow)

theorem holds_putRowD {w : World} {blk off : Nat} {zs ys : List Int} (h : Holds (Value.int .i64) w blk off zs.toArray) (hl : ys.length = zs.length) : Holds (Value.int .i64) (putRow (Value.int .i64) w blk off ys.toArray) blk off ys.toArray :=
  Go.Sort.holds_putRow _ _ _ _ zs.toArray _ h (by simpa using hl)
set_option maxHeartbeats 1000000 in
theorem compactO_any (base : Nat) (zs : List Int) (v : Value) (w : World) (ho : OwnI base w v zs) (hsz : zs.length < 1000000000000) (B : Nat) (hB : B ≤ base) (R : Ending → World → Prop)
    (hR : ∀ w' v', Below B w w' → IntsAt w' v' (Lib.compact zs) → R (.returned v') w') :
    Calls Tryz.prog 85 #[v] w R := by
  obtain ⟨e, h⟩ := ho
  have hs := slc_of_owns encI_len h
  have hs0 := hs
  obtain ⟨a, c, rfl, q1, q2, _⟩ := hs
  by_cases h0 : zs.length = 0
  · have hz : zs = [] := List.length_eq_zero_iff.1 h0
    subst hz
    refine (Tryz.slices_Compact_int_empty a c w).mono ?_
    rintro e w' ⟨rfl, rfl⟩
    exact hR _ _ (Below.refl _ _) hs0
  · rcases h.2 with ⟨_, h2⟩ | ⟨g, cap, cur, hv, hg, hh, _⟩
    · omega
    · cases hv
      obtain ⟨_, _, e1, _, _, h4⟩ := hs0
      cases e1
      rcases h4 with ⟨h4, _⟩ | ⟨b, o, e2, hb, hc⟩
      · rw [h4] at h0; simp at h0
      · cases e2
        have hH : Holds (Value.int .i64) w g 0 zs.toArray := holds_int (fun j x hj => by have := hc j x hj 0 (.int .i64 x) rfl; simpa using this) (fun j _ => by simpa using ownsRow_free h j)
        refine (Tryz.slices_Compact_int g 0 c zs w hH (by omega) q1).mono ?_
        rintro e w' ⟨rfl, n, rfl⟩
        have hle : (Lib.compact zs).length ≤ zs.length := compact_le zs
        have hx := Go.Sort.holds_putRow (Value.int .i64) _ g 0 zs.toArray (Lib.compact zs ++ List.replicate (zs.length - (Lib.compact zs).length) 0).toArray (Go.Sort.holds_ahead _ _ n _ _ _ hH) (by simp; omega)
        refine hR _ _ (below_putRow _ _ _ _ _ _ (Nat.le_trans hB hg)) (ints_of_holds (holds_prefix hx) (by simpa using hb) (by omega) q2)

set_option maxHeartbeats 2000000 in
theorem kinded_any (p : List Ln) (ts : List Tst) (kind : Int) (pv tv : Value) (w : World) (hp : LinesAt w pv p) (ht : TestsAt w tv ts) (R : Ending → World → Prop)
    (hR : ∀ w', Grow w w' → R (.returned (.int .i64 (sgtE p ts kind))) w') :
    Calls Tryz.prog 83 #[pv, tv, .int .i64 kind] w R := by
  have HP := Lib.hid hp
  have HT := Lib.hid ht
  have hc : sgtE p ts kind = if chkT p ts = 0 then (if inB kind 0 2 then (if allPass p ts then 8 else 0) else 1) else chkT p ts := rfl
  rw [hc] at hR
  have HR := Lib.hid hR
  obtain ⟨e, he⟩ : ∃ e, chkT p ts = e := ⟨_, rfl⟩
  obtain ⟨b, hb⟩ : ∃ b, inB kind 0 2 = b := ⟨_, rfl⟩
  rw [he, hb] at HR
  have HE := Lib.hid he
  have HB := Lib.hid hb
  obtain ⟨pa, pc, rfl, _⟩ := hp
  obtain ⟨⟨ta, tc, rfl, _⟩, _⟩ := ht
  clear hR hc he hb
  by_cases z1 : e = 0
  rotate_left
  · rw [if_neg z1] at HR
    have t1 : (e != 0) = true := by simpa using z1
    clear z1
    go_enter Tryz.func83, Tryz.ntmps83
    go_wp2_with fail
    refine programs_any p ts _ _ _ HP.out HT.out _ ?_
    intro w1 hg1
    rw [HE.out]
    have HG1 := Lib.hid hg1
    clear hg1
    go_wp2_with fail
    exact HR.out w1 HG1.out
  subst z1
  rw [if_pos rfl] at HR
  cases b with
  | false =>
    rw [if_neg (by decide)] at HR
    go_enter Tryz.func83, Tryz.ntmps83
    go_wp2_with fail
    refine programs_any p ts _ _ _ HP.out HT.out _ ?_
    intro w1 hg1
    rw [HE.out]
    have HG1 := Lib.hid hg1
    clear hg1
    go_wp2_with fail
    refine swithin_any _ _ _ _ _ ?_
    rw [HB.out]
    go_wp2_with fail
    exact HR.out w1 HG1.out
  | true =>
    rw [if_pos rfl] at HR
    go_enter Tryz.func83, Tryz.ntmps83
    go_wp2_with fail
    refine programs_any p ts _ _ _ HP.out HT.out _ ?_
    intro w1 hg1
    rw [HE.out]
    have HG1 := Lib.hid hg1
    clear hg1
    go_wp2_with fail
    refine swithin_any _ _ _ _ _ ?_
    rw [HB.out]
    go_wp2_with fail
    refine failing_any p ts _ _ _ (HP.out.grow HG1.out) (HT.out.grow HG1.out) HE.out _ ?_
    intro w2 hg2
    generalize (if allPass p ts then (8 : Int) else 0) = q at HR ⊢
    have HF := Lib.hid (HR.out w2 (HG1.out.trans hg2))
    clear hg2
    go_wp2_with fail
    exact HF.out
theorem cand0_at (p : List Ln) (pv : Value) (n : Nat) (W : World) (hval : valP p = 0) (hn : n < p.length) (hp : LinesAt W pv p) (R' : Ending → World → Prop) (hR' : ∀ W' v, Grow W W' → LinesAt W' v (candAt p 0 n) → R' (.returned v) W') :
    Calls Tryz.prog 121 #[pv, .int .i64 n, .iface 137 (.agg #[])] W R' := by
  obtain ⟨⟨op, d, a, b⟩, hx⟩ : ∃ l, p[n]? = some l := ⟨_, List.getElem?_eq_getElem hn⟩
  have hl : lineAt p (n : Int) = ⟨op, d, a, b⟩ := by unfold lineAt; rw [show ((n : Int)).toNat = n by omega, hx]; rfl
  have hok : vL op d a b = true := (valP_ok.1 hval).2 _ (List.mem_of_getElem? hx)
  have h8 := (valP_ok.1 hval).1
  unfold candAt at hR'
  rw [hl] at hR'
  exact cand0_any p n op d a b _ _ hp hx hok R' hR'
theorem cand1_at (p : List Ln) (pv : Value) (n : Nat) (W : World) (hval : valP p = 0) (hn : n < p.length) (hp : LinesAt W pv p) (R' : Ending → World → Prop) (hR' : ∀ W' v, Grow W W' → LinesAt W' v (candAt p 1 n) → R' (.returned v) W') :
    Calls Tryz.prog 121 #[pv, .int .i64 n, .iface 138 (.agg #[])] W R' := by
  obtain ⟨⟨op, d, a, b⟩, hx⟩ : ∃ l, p[n]? = some l := ⟨_, List.getElem?_eq_getElem hn⟩
  have hl : lineAt p (n : Int) = ⟨op, d, a, b⟩ := by unfold lineAt; rw [show ((n : Int)).toNat = n by omega, hx]; rfl
  have hok : vL op d a b = true := (valP_ok.1 hval).2 _ (List.mem_of_getElem? hx)
  have h8 := (valP_ok.1 hval).1
  unfold candAt at hR'
  rw [hl] at hR'
  exact cand1_any p n op d a b _ _ hp hx (by omega) R' hR'
theorem cand2_at (p : List Ln) (pv : Value) (n : Nat) (W : World) (hval : valP p = 0) (hn : n < p.length) (hp : LinesAt W pv p) (R' : Ending → World → Prop) (hR' : ∀ W' v, Grow W W' → LinesAt W' v (candAt p 2 n) → R' (.returned v) W') :
    Calls Tryz.prog 121 #[pv, .int .i64 n, .iface 139 (.agg #[])] W R' := by
  obtain ⟨⟨op, d, a, b⟩, hx⟩ : ∃ l, p[n]? = some l := ⟨_, List.getElem?_eq_getElem hn⟩
  have hl : lineAt p (n : Int) = ⟨op, d, a, b⟩ := by unfold lineAt; rw [show ((n : Int)).toNat = n by omega, hx]; rfl
  have hok : vL op d a b = true := (valP_ok.1 hval).2 _ (List.mem_of_getElem? hx)
  have h8 := (valP_ok.1 hval).1
  unfold candAt at hR'
  rw [hl] at hR'
  exact cand2_any p n op d a b _ _ hp hx  R' hR'
theorem candAt_len {p : List Ln} {kind : Int} (hval : valP p = 0) (k0 : 0 ≤ kind) (k2 : kind ≤ 2) : ∀ n : Nat, n < p.length → (candAt p kind n).length ≤ 1000 := fun _ hn =>
  candL_len (lineAt_ok hval (by omega) (by omega)) k0 k2

set_option maxRecDepth 100000 in
set_option maxHeartbeats 8000000 in
theorem every_any (p : List Ln) (ts : List Tst) (kv : Value) (C : Nat → List Ln) (pv tv : Value) (w : World) (hp : LinesAt w pv p) (ht : TestsAt w tv ts) (hp8 : p.length ≤ 8) (hC : ∀ n, n < p.length → (C n).length ≤ 1000)
    (hcand : ∀ (n : Nat) (W : World), n < p.length → LinesAt W pv p → ∀ R' : Ending → World → Prop, (∀ W' v, Grow W W' → LinesAt W' v (C n) → R' (.returned v) W') → Calls Tryz.prog 121 #[pv, .int .i64 n, kv] W R') (R : Ending → World → Prop)
    (hR : ∀ w' v, Grow w w' → Own 5 encE w.heap.size w' v (everyN p ts C p.length) → R (.returned v) w') :
    Calls Tryz.prog 84 #[pv, tv, kv] w R := by
  have HP := Lib.hid hp
  have HT := Lib.hid ht
  have HR := Lib.hid hR
  have HC := Lib.hid hcand
  have HL := Lib.hid hC
  obtain ⟨pa, pc, rfl, p1, p2, _⟩ := hp
  obtain ⟨⟨ta, tc, rfl, _⟩, _⟩ := ht
  clear hR hcand hC
  go_enter Tryz.func84, Tryz.ntmps84
  go_wp2_with fail
  go_loopw [7, 8, 11] (fun out _ i wr => ∃ k : Nat, k ≤ p.length ∧ i = .int .i64 k ∧ Grow w wr ∧ wr.ownsRow w.heap.size 27 5 out (everyN p ts C k).length ((everyN p ts C k).flatMap encE)) (fun _ _ i _ => p.length - (intOf i).toNat)
  case atStart => exact ⟨0, Nat.zero_le _, rfl, Grow.refl _, World.ownsRow_nil _ _ _ _⟩
  case round =>
    obtain ⟨k, hk, rfl, hg, how⟩ := hrel
    have HG := Lib.hid hg
    have HOW := Lib.hid how
    have hzw := hg.sz
    clear hg how
    by_cases hlt : k < p.length
    · have hlt2 : (k : Int) < (p.length : Int) := by omega
      have HS := Lib.hid (everyN_succ p ts C k)
      have hLk := HL.out k hlt
      have HLB := Lib.hid (show (everyN p ts C k).length + (fixE p ts k (C k)).length < 100000000000 by have := everyN_len HL.out k (by omega) (ts := ts); have := fixE_len p ts k (C k); omega)
      have HCK := Lib.hid (HC.out k wr hlt (HP.out.grow HG.out))
      go_wp2_with fail
      refine fixes_any p ts k kv (C k) _ _ _ (HP.out.grow HG.out) (HT.out.grow HG.out) (by omega) HCK.out _ ?_
      intro w2 v2 hg2 hv2
      have HV2 := Lib.hid (hv2.slc encE_len)
      have HG2 := Lib.hid hg2
      have hsl := hv2.slc encE_len
      obtain ⟨a2, c2, rfl, _⟩ := hsl
      clear hg2 hv2
      go_wp2_with (at_builtin; refine wpList_appAll _ rfl (.tmp 14) (.tmp 19) 31 rfl w.heap.size 27 Tryz.underlying31 info_ed rfl (by decide) (by decide) encE encE_len encE_one _ (everyN p ts C k) rfl (HG2.out.owns HOW.out) _ (fixE p ts k (C k)) rfl HV2.out HLB.out (by have := HG.out.sz; have := HG2.out.sz; omega) ?_; intro out2 w3 hown2 hgr2)
      have HG3 := Lib.hid (show Grow w w3 from grown_below HOW.out hgr2 (Nat.le_refl _) (by have := HG.out.sz; have := HG2.out.sz; omega) (HG.out.trans HG2.out))
      have HO2 := Lib.hid hown2
      clear hown2 hgr2
      go_roundw
      case rel => exact ⟨k + 1, by omega, by go_num, HG3.out, by rw [HS.out]; exact HO2.out⟩
      case measure => simp [intOf]; omega
    · have hkn : k = p.length := by omega
      have HO2 := HOW.out
      rw [hkn] at HO2
      have HF := Lib.hid (HR.out _ _ HG.out ⟨_, HO2⟩)
      clear HO2 hkn
      go_wp2_with fail
      exact HF.out

set_option maxRecDepth 100000 in
set_option maxHeartbeats 16000000 in
theorem Count_any (p : List Ln) (ts : List Tst) (kind : Int) (pv tv : Value) (w : World) (hp : LinesAt w pv p) (ht : TestsAt w tv ts) (R : Ending → World → Prop)
    (hR : ∀ w', Grow w w' → R (.returned (.tuple #[.int .i64 (cntO p ts kind), .int .i64 (sgtE p ts kind)])) w') :
    Calls Tryz.prog 33 #[pv, tv, .int .i64 kind] w R := by
  have HP := Lib.hid hp
  have HT := Lib.hid ht
  rw [show cntO p ts kind = if sgtE p ts kind = 0 then cntR p ts kind p.length else 0 from rfl] at hR
  have HR := Lib.hid hR
  obtain ⟨e, he⟩ : ∃ e, sgtE p ts kind = e := ⟨_, rfl⟩
  have hok := fun h : e = 0 => sgtE_ok.1 (he.trans h)
  rw [he] at HR
  have HE := Lib.hid he
  obtain ⟨pa, pc, rfl, r1, r2, _⟩ := hp
  obtain ⟨⟨ta, tc, rfl, _⟩, _⟩ := ht
  clear hR he
  by_cases z1 : e = 0
  rotate_left
  · rw [if_neg z1] at HR
    have t1 : (e != 0) = true := by simpa using z1
    clear hok z1
    go_enter Tryz.func33, Tryz.ntmps33
    go_wp2_with fail
    refine kinded_any p ts kind _ _ _ HP.out HT.out _ ?_
    intro w1 hg1
    rw [HE.out]
    have HF := Lib.hid (HR.out w1 hg1)
    clear hg1
    go_wp2_with fail
    exact HF.out
  obtain ⟨⟨hv, hvt⟩, ⟨k0, k2⟩, _⟩ := hok z1
  subst z1
  rw [if_pos rfl] at HR
  have hp8 := (valP_ok.1 hv).1
  have HV := Lib.hid hv
  have hcnt := everyN_cnt hv hvt k0 k2 p.length (Nat.le_refl _)
  have hplc := everyN_plc hv hvt k0 k2 p.length (Nat.le_refl _)
  have hlen := everyN_len (ts := ts) (candAt_len hv k0 k2) p.length (Nat.le_refl _)
  have HCL := Lib.hid (candAt_len hv k0 k2)
  clear hok hv hvt
  have hk : kind = 0 ∨ kind = 1 ∨ kind = 2 := by omega
  clear k0 k2
  rcases hk with rfl | rfl | rfl
  · skip
    go_enter Tryz.func33, Tryz.ntmps33
    go_wp2_with fail
    refine kinded_any p ts 0 _ _ _ HP.out HT.out _ ?_
    intro w1 hg1
    rw [HE.out]
    have HG1 := Lib.hid hg1
    clear hg1
    go_wp2_with fail
    refine sources_any _ _ ?_
    go_wp2_with fail
    refine every_any p ts (.iface 137 (.agg #[])) (candAt p 0) _ _ _ (HP.out.grow (HG1.out.alloc _)) (HT.out.grow (HG1.out.alloc _)) hp8 HCL.out (fun n W hn hW R' hR' => cand0_at p _ n W HV.out hn hW R' hR') _ ?_
    intro w3 v3 hg3 hv3
    obtain ⟨E, hE⟩ : ∃ E, everyN p ts (candAt p 0) p.length = E := ⟨_, rfl⟩
    have hs3 := hv3.slc encE_len
    rw [hE] at hs3 hcnt hplc hlen
    have HS3 := Lib.hid hs3
    obtain ⟨a3, c3, rfl, s1, s2, _⟩ := hs3
    have HG3 := Lib.hid (Grow.trans (HG1.out.alloc _) hg3)
    clear hg3 hv3 hE
    rw [← hcnt] at HR
    have HF := Lib.hid (HR.out w3 HG3.out)
    clear hcnt hplc
    go_wp2_with fail
    exact HF.out
  · skip
    go_enter Tryz.func33, Tryz.ntmps33
    go_wp2_with fail
    refine kinded_any p ts 1 _ _ _ HP.out HT.out _ ?_
    intro w1 hg1
    rw [HE.out]
    have HG1 := Lib.hid hg1
    clear hg1
    go_wp2_with fail
    refine sources_any _ _ ?_
    go_wp2_with fail
    refine every_any p ts (.iface 138 (.agg #[])) (candAt p 1) _ _ _ (HP.out.grow (HG1.out.alloc _)) (HT.out.grow (HG1.out.alloc _)) hp8 HCL.out (fun n W hn hW R' hR' => cand1_at p _ n W HV.out hn hW R' hR') _ ?_
    intro w3 v3 hg3 hv3
    obtain ⟨E, hE⟩ : ∃ E, everyN p ts (candAt p 1) p.length = E := ⟨_, rfl⟩
    have hs3 := hv3.slc encE_len
    rw [hE] at hs3 hcnt hplc hlen
    have HS3 := Lib.hid hs3
    obtain ⟨a3, c3, rfl, s1, s2, _⟩ := hs3
    have HG3 := Lib.hid (Grow.trans (HG1.out.alloc _) hg3)
    clear hg3 hv3 hE
    rw [← hcnt] at HR
    have HF := Lib.hid (HR.out w3 HG3.out)
    clear hcnt hplc
    go_wp2_with fail
    exact HF.out
  · skip
    go_enter Tryz.func33, Tryz.ntmps33
    go_wp2_with fail
    refine kinded_any p ts 2 _ _ _ HP.out HT.out _ ?_
    intro w1 hg1
    rw [HE.out]
    have HG1 := Lib.hid hg1
    clear hg1
    go_wp2_with fail
    refine sources_any _ _ ?_
    go_wp2_with fail
    refine every_any p ts (.iface 139 (.agg #[])) (candAt p 2) _ _ _ (HP.out.grow (HG1.out.alloc _)) (HT.out.grow (HG1.out.alloc _)) hp8 HCL.out (fun n W hn hW R' hR' => cand2_at p _ n W HV.out hn hW R' hR') _ ?_
    intro w3 v3 hg3 hv3
    obtain ⟨E, hE⟩ : ∃ E, everyN p ts (candAt p 2) p.length = E := ⟨_, rfl⟩
    have hs3 := hv3.slc encE_len
    rw [hE] at hs3 hcnt hplc hlen
    have HS3 := Lib.hid hs3
    obtain ⟨a3, c3, rfl, s1, s2, _⟩ := hs3
    have HG3 := Lib.hid (Grow.trans (HG1.out.alloc _) hg3)
    clear hg3 hv3 hE
    rw [← hcnt] at HR
    have HF := Lib.hid (HR.out w3 HG3.out)
    clear hcnt hplc
    go_wp2_with fail
    exact HF.out
set_option maxRecDepth 100000 in
set_option maxHeartbeats 16000000 in
theorem Places_any (p : List Ln) (ts : List Tst) (kind : Int) (pv tv : Value) (w : World) (hp : LinesAt w pv p) (ht : TestsAt w tv ts) (R : Ending → World → Prop)
    (hR : ∀ w' v, Grow w w' → IntsAt w' v (plcO p ts kind) → R (.returned (.tuple #[v, .int .i64 (sgtE p ts kind)])) w') :
    Calls Tryz.prog 35 #[pv, tv, .int .i64 kind] w R := by
  have HP := Lib.hid hp
  have HT := Lib.hid ht
  rw [show plcO p ts kind = if sgtE p ts kind = 0 then plcR p ts kind p.length else [] from rfl] at hR
  have HR := Lib.hid hR
  obtain ⟨e, he⟩ : ∃ e, sgtE p ts kind = e := ⟨_, rfl⟩
  have hok := fun h : e = 0 => sgtE_ok.1 (he.trans h)
  rw [he] at HR
  have HE := Lib.hid he
  obtain ⟨pa, pc, rfl, r1, r2, _⟩ := hp
  obtain ⟨⟨ta, tc, rfl, _⟩, _⟩ := ht
  clear hR he
  by_cases z1 : e = 0
  rotate_left
  · rw [if_neg z1] at HR
    have t1 : (e != 0) = true := by simpa using z1
    clear hok z1
    go_enter Tryz.func35, Tryz.ntmps35
    go_wp2_with fail
    refine kinded_any p ts kind _ _ _ HP.out HT.out _ ?_
    intro w1 hg1
    rw [HE.out]
    have HF := Lib.hid (HR.out w1 (.slice none 0 0) hg1 (SlcAt.nil _ _ _))
    clear hg1
    go_wp2_with fail
    exact HF.out
  obtain ⟨⟨hv, hvt⟩, ⟨k0, k2⟩, _⟩ := hok z1
  subst z1
  rw [if_pos rfl] at HR
  have hp8 := (valP_ok.1 hv).1
  have HV := Lib.hid hv
  have hcnt := everyN_cnt hv hvt k0 k2 p.length (Nat.le_refl _)
  have hplc := everyN_plc hv hvt k0 k2 p.length (Nat.le_refl _)
  have hlen := everyN_len (ts := ts) (candAt_len hv k0 k2) p.length (Nat.le_refl _)
  have HCL := Lib.hid (candAt_len hv k0 k2)
  clear hok hv hvt
  have hk : kind = 0 ∨ kind = 1 ∨ kind = 2 := by omega
  clear k0 k2
  rcases hk with rfl | rfl | rfl
  · skip
    go_enter Tryz.func35, Tryz.ntmps35
    go_wp2_with fail
    refine kinded_any p ts 0 _ _ _ HP.out HT.out _ ?_
    intro w1 hg1
    rw [HE.out]
    have HG1 := Lib.hid hg1
    clear hg1
    go_wp2_with fail
    refine sources_any _ _ ?_
    go_wp2_with fail
    refine every_any p ts (.iface 137 (.agg #[])) (candAt p 0) _ _ _ (HP.out.grow (HG1.out.alloc _)) (HT.out.grow (HG1.out.alloc _)) hp8 HCL.out (fun n W hn hW R' hR' => cand0_at p _ n W HV.out hn hW R' hR') _ ?_
    intro w3 v3 hg3 hv3
    obtain ⟨E, hE⟩ : ∃ E, everyN p ts (candAt p 0) p.length = E := ⟨_, rfl⟩
    have hs3 := hv3.slc encE_len
    rw [hE] at hs3 hcnt hplc hlen
    have HS3 := Lib.hid hs3
    obtain ⟨a3, c3, rfl, s1, s2, _⟩ := hs3
    have HG3 := Lib.hid (Grow.trans (HG1.out.alloc _) hg3)
    clear hg3 hv3 hE
    rw [← hplc] at HR
    clear hcnt hplc
    go_wp2_with fail
    go_loopw [9, 11, 27] (fun out _ i wr => ∃ k : Nat, k ≤ E.length ∧ i = .int .i64 k ∧ Grow w3 wr ∧ wr.ownsRow w3.heap.size 3 1 out ((E.take k).map Ed.at_).length (((E.take k).map Ed.at_).flatMap encI)) (fun _ _ i _ => E.length - (intOf i).toNat)
    case atStart => exact ⟨0, Nat.zero_le _, rfl, Grow.refl _, World.ownsRow_nil _ _ _ _⟩
    case round =>
      obtain ⟨k, hk, rfl, hg, how⟩ := hrel
      have HG := Lib.hid hg
      have HOW := Lib.hid how
      have hzw := hg.sz
      clear hg how
      by_cases hlt : k < E.length
      · obtain ⟨⟨t, o1, d1, a1', b1⟩, hx⟩ : ∃ x, E[k]? = some x := ⟨_, List.getElem?_eq_getElem hlt⟩
        obtain ⟨gb, o, rfl, hgb, y0, y1, y2, y3, y4⟩ := edits_at (HS3.out.grow HG.out) hx
        have HTK := Lib.hid (show (E.take (k + 1)).map Ed.at_ = (E.take k).map Ed.at_ ++ [t] by rw [List.take_add_one, hx, List.map_append]; rfl)
        have HLB := Lib.hid (show ((E.take k).map Ed.at_).length < 100000000000 by rw [List.length_map, List.length_take]; omega)
        clear hx
        have hgb1 := (Grow.refl wr).alloc (.cells #[.int .i64 t, .int .i64 o1, .int .i64 d1, .int .i64 a1', .int .i64 b1] 27)
        go_wp2_with (at_builtin; refine wpList_app _ rfl (.tmp 31) (.tmp 34) 35 rfl w3.heap.size 3 Tryz.underlying35 info_int rfl (by decide) (by decide) encI encI_len encI_one _ ((E.take k).map Ed.at_) rfl ((hgb1.alloc _).owns HOW.out) _ t 1 rfl (newsG _ _ (by simp) (encI t) _) HLB.out (by simp; omega) ?_; intro out2 w4 hown2 hgr2)
        have HG4 := Lib.hid (show Grow w3 w4 from grown_below HOW.out hgr2 (Nat.le_refl _) (by simp; omega) (HG.out.trans (hgb1.alloc _)))
        have HO2 := Lib.hid hown2
        clear hown2 hgr2
        go_roundw
        case rel => exact ⟨k + 1, by omega, by go_num, HG4.out, by rw [HTK.out]; exact HO2.out⟩
        case measure => simp [intOf]; omega
      · have hkn : k = E.length := by omega
        have HO2 := HOW.out
        rw [hkn, List.take_length] at HO2
        have HO3 := Lib.hid HO2
        have HLL := Lib.hid (show (E.map Ed.at_).length < 1000000000000 by rw [List.length_map]; omega)
        clear HO2 hkn
        go_wp2_with fail
        refine compactO_any w3.heap.size (E.map Ed.at_) _ _ ⟨_, HO3.out⟩ HLL.out w.heap.size (by have := HG3.out.sz; omega) _ ?_
        intro w5 v5 hb5 hv5
        have HF := Lib.hid (HR.out w5 v5 (Below.trans (HG3.out.trans HG.out) hb5) hv5)
        clear hb5 hv5
        go_wp2_with fail
        exact HF.out
  · skip
    go_enter Tryz.func35, Tryz.ntmps35
    go_wp2_with fail
    refine kinded_any p ts 1 _ _ _ HP.out HT.out _ ?_
    intro w1 hg1
    rw [HE.out]
    have HG1 := Lib.hid hg1
    clear hg1
    go_wp2_with fail
    refine sources_any _ _ ?_
    go_wp2_with fail
    refine every_any p ts (.iface 138 (.agg #[])) (candAt p 1) _ _ _ (HP.out.grow (HG1.out.alloc _)) (HT.out.grow (HG1.out.alloc _)) hp8 HCL.out (fun n W hn hW R' hR' => cand1_at p _ n W HV.out hn hW R' hR') _ ?_
    intro w3 v3 hg3 hv3
    obtain ⟨E, hE⟩ : ∃ E, everyN p ts (candAt p 1) p.length = E := ⟨_, rfl⟩
    have hs3 := hv3.slc encE_len
    rw [hE] at hs3 hcnt hplc hlen
    have HS3 := Lib.hid hs3
    obtain ⟨a3, c3, rfl, s1, s2, _⟩ := hs3
    have HG3 := Lib.hid (Grow.trans (HG1.out.alloc _) hg3)
    clear hg3 hv3 hE
    rw [← hplc] at HR
    clear hcnt hplc
    go_wp2_with fail
    go_loopw [9, 11, 27] (fun out _ i wr => ∃ k : Nat, k ≤ E.length ∧ i = .int .i64 k ∧ Grow w3 wr ∧ wr.ownsRow w3.heap.size 3 1 out ((E.take k).map Ed.at_).length (((E.take k).map Ed.at_).flatMap encI)) (fun _ _ i _ => E.length - (intOf i).toNat)
    case atStart => exact ⟨0, Nat.zero_le _, rfl, Grow.refl _, World.ownsRow_nil _ _ _ _⟩
    case round =>
      obtain ⟨k, hk, rfl, hg, how⟩ := hrel
      have HG := Lib.hid hg
      have HOW := Lib.hid how
      have hzw := hg.sz
      clear hg how
      by_cases hlt : k < E.length
      · obtain ⟨⟨t, o1, d1, a1', b1⟩, hx⟩ : ∃ x, E[k]? = some x := ⟨_, List.getElem?_eq_getElem hlt⟩
        obtain ⟨gb, o, rfl, hgb, y0, y1, y2, y3, y4⟩ := edits_at (HS3.out.grow HG.out) hx
        have HTK := Lib.hid (show (E.take (k + 1)).map Ed.at_ = (E.take k).map Ed.at_ ++ [t] by rw [List.take_add_one, hx, List.map_append]; rfl)
        have HLB := Lib.hid (show ((E.take k).map Ed.at_).length < 100000000000 by rw [List.length_map, List.length_take]; omega)
        clear hx
        have hgb1 := (Grow.refl wr).alloc (.cells #[.int .i64 t, .int .i64 o1, .int .i64 d1, .int .i64 a1', .int .i64 b1] 27)
        go_wp2_with (at_builtin; refine wpList_app _ rfl (.tmp 31) (.tmp 34) 35 rfl w3.heap.size 3 Tryz.underlying35 info_int rfl (by decide) (by decide) encI encI_len encI_one _ ((E.take k).map Ed.at_) rfl ((hgb1.alloc _).owns HOW.out) _ t 1 rfl (newsG _ _ (by simp) (encI t) _) HLB.out (by simp; omega) ?_; intro out2 w4 hown2 hgr2)
        have HG4 := Lib.hid (show Grow w3 w4 from grown_below HOW.out hgr2 (Nat.le_refl _) (by simp; omega) (HG.out.trans (hgb1.alloc _)))
        have HO2 := Lib.hid hown2
        clear hown2 hgr2
        go_roundw
        case rel => exact ⟨k + 1, by omega, by go_num, HG4.out, by rw [HTK.out]; exact HO2.out⟩
        case measure => simp [intOf]; omega
      · have hkn : k = E.length := by omega
        have HO2 := HOW.out
        rw [hkn, List.take_length] at HO2
        have HO3 := Lib.hid HO2
        have HLL := Lib.hid (show (E.map Ed.at_).length < 1000000000000 by rw [List.length_map]; omega)
        clear HO2 hkn
        go_wp2_with fail
        refine compactO_any w3.heap.size (E.map Ed.at_) _ _ ⟨_, HO3.out⟩ HLL.out w.heap.size (by have := HG3.out.sz; omega) _ ?_
        intro w5 v5 hb5 hv5
        have HF := Lib.hid (HR.out w5 v5 (Below.trans (HG3.out.trans HG.out) hb5) hv5)
        clear hb5 hv5
        go_wp2_with fail
        exact HF.out
  · skip
    go_enter Tryz.func35, Tryz.ntmps35
    go_wp2_with fail
    refine kinded_any p ts 2 _ _ _ HP.out HT.out _ ?_
    intro w1 hg1
    rw [HE.out]
    have HG1 := Lib.hid hg1
    clear hg1
    go_wp2_with fail
    refine sources_any _ _ ?_
    go_wp2_with fail
    refine every_any p ts (.iface 139 (.agg #[])) (candAt p 2) _ _ _ (HP.out.grow (HG1.out.alloc _)) (HT.out.grow (HG1.out.alloc _)) hp8 HCL.out (fun n W hn hW R' hR' => cand2_at p _ n W HV.out hn hW R' hR') _ ?_
    intro w3 v3 hg3 hv3
    obtain ⟨E, hE⟩ : ∃ E, everyN p ts (candAt p 2) p.length = E := ⟨_, rfl⟩
    have hs3 := hv3.slc encE_len
    rw [hE] at hs3 hcnt hplc hlen
    have HS3 := Lib.hid hs3
    obtain ⟨a3, c3, rfl, s1, s2, _⟩ := hs3
    have HG3 := Lib.hid (Grow.trans (HG1.out.alloc _) hg3)
    clear hg3 hv3 hE
    rw [← hplc] at HR
    clear hcnt hplc
    go_wp2_with fail
    go_loopw [9, 11, 27] (fun out _ i wr => ∃ k : Nat, k ≤ E.length ∧ i = .int .i64 k ∧ Grow w3 wr ∧ wr.ownsRow w3.heap.size 3 1 out ((E.take k).map Ed.at_).length (((E.take k).map Ed.at_).flatMap encI)) (fun _ _ i _ => E.length - (intOf i).toNat)
    case atStart => exact ⟨0, Nat.zero_le _, rfl, Grow.refl _, World.ownsRow_nil _ _ _ _⟩
    case round =>
      obtain ⟨k, hk, rfl, hg, how⟩ := hrel
      have HG := Lib.hid hg
      have HOW := Lib.hid how
      have hzw := hg.sz
      clear hg how
      by_cases hlt : k < E.length
      · obtain ⟨⟨t, o1, d1, a1', b1⟩, hx⟩ : ∃ x, E[k]? = some x := ⟨_, List.getElem?_eq_getElem hlt⟩
        obtain ⟨gb, o, rfl, hgb, y0, y1, y2, y3, y4⟩ := edits_at (HS3.out.grow HG.out) hx
        have HTK := Lib.hid (show (E.take (k + 1)).map Ed.at_ = (E.take k).map Ed.at_ ++ [t] by rw [List.take_add_one, hx, List.map_append]; rfl)
        have HLB := Lib.hid (show ((E.take k).map Ed.at_).length < 100000000000 by rw [List.length_map, List.length_take]; omega)
        clear hx
        have hgb1 := (Grow.refl wr).alloc (.cells #[.int .i64 t, .int .i64 o1, .int .i64 d1, .int .i64 a1', .int .i64 b1] 27)
        go_wp2_with (at_builtin; refine wpList_app _ rfl (.tmp 31) (.tmp 34) 35 rfl w3.heap.size 3 Tryz.underlying35 info_int rfl (by decide) (by decide) encI encI_len encI_one _ ((E.take k).map Ed.at_) rfl ((hgb1.alloc _).owns HOW.out) _ t 1 rfl (newsG _ _ (by simp) (encI t) _) HLB.out (by simp; omega) ?_; intro out2 w4 hown2 hgr2)
        have HG4 := Lib.hid (show Grow w3 w4 from grown_below HOW.out hgr2 (Nat.le_refl _) (by simp; omega) (HG.out.trans (hgb1.alloc _)))
        have HO2 := Lib.hid hown2
        clear hown2 hgr2
        go_roundw
        case rel => exact ⟨k + 1, by omega, by go_num, HG4.out, by rw [HTK.out]; exact HO2.out⟩
        case measure => simp [intOf]; omega
      · have hkn : k = E.length := by omega
        have HO2 := HOW.out
        rw [hkn, List.take_length] at HO2
        have HO3 := Lib.hid HO2
        have HLL := Lib.hid (show (E.map Ed.at_).length < 1000000000000 by rw [List.length_map]; omega)
        clear HO2 hkn
        go_wp2_with fail
        refine compactO_any w3.heap.size (E.map Ed.at_) _ _ ⟨_, HO3.out⟩ HLL.out w.heap.size (by have := HG3.out.sz; omega) _ ?_
        intro w5 v5 hb5 hv5
        have HF := Lib.hid (HR.out w5 v5 (Below.trans (HG3.out.trans HG.out) hb5) hv5)
        clear hb5 hv5
        go_wp2_with fail
        exact HF.out
end Go.Proofs.YtbccbokjecdaaaaGreat
