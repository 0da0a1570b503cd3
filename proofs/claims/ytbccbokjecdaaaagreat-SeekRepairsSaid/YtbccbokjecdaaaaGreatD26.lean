/-
The walks of Repair and of the document's Repair.
The repair that is proposed is good and minimal: plain laws.
The walks of the library's IndexFunc and DeleteFunc on lists of edits.
The walks of the parts of a patch, and of the library's Clone on edits and on lists of edits.
The walks of the places of a patch, of the smallest good part, and of IsMinimal.
-/
import Derived.Test.YtbccbokjecdaaaaGreatD22
import Derived.Test.YtbccbokjecdaaaaGreatD28
import Derived.Test.YtbccbokjecdaaaaGreatD29
import Derived.Test.YtbccbokjecdaaaaGreatD18
namespace Go.Proofs.YtbccbokjecdaaaaGreat
open Go.RowKit

/-- What Repair answers. -/
def RepP (p : List Ln) (ts : List Tst) (x : List Ed) (n : Int) (ok : Bool) : Prop :=
  (sgtE p ts 0 ≠ 0 ∧ x = [] ∧ n = 0 ∧ ok = false) ∨
  (sgtE p ts 0 = 0 ∧ ((∃ k : Nat, k < 3 ∧ n = k ∧ ok = true ∧ (∀ k' : Nat, k' < k → SnglP p ts k' ⟨0, ⟨0, 0, 0, 0⟩⟩ false) ∧ ∃ e, x = [e] ∧ SnglP p ts k e true) ∨
    ((∀ k' : Nat, k' < 3 → SnglP p ts k' ⟨0, ⟨0, 0, 0, 0⟩⟩ false) ∧ DblP p ts x ok ∧ n = if ok then 3 else 0)))
theorem RepP.uniq {p : List Ln} {ts : List Tst} {x x' : List Ed} {n n' : Int} {ok ok' : Bool} (h : RepP p ts x n ok) (h' : RepP p ts x' n' ok') : x = x' ∧ n = n' ∧ ok = ok' := by
  rcases h with ⟨h, rfl, rfl, rfl⟩ | ⟨h, h1⟩ <;> rcases h' with ⟨g, rfl, rfl, rfl⟩ | ⟨g, g1⟩
  · exact ⟨rfl, rfl, rfl⟩
  · exact absurd g h
  · exact absurd h g
  · rcases h1 with ⟨k, hk, rfl, rfl, hn, e, rfl, hs⟩ | ⟨hn, hd, rfl⟩ <;> rcases g1 with ⟨k', hk', rfl, rfl, hn', e', rfl, hs'⟩ | ⟨hn', hd', rfl⟩
    · have hkk : k = k' := by
        by_cases h1 : k < k'
        · have := (hn' k h1).uniq hs; cases this.2
        · by_cases h2 : k' < k
          · have := (hn k' h2).uniq hs'; cases this.2
          · omega
      subst hkk
      obtain ⟨rfl, _⟩ := hs.uniq hs'
      exact ⟨rfl, rfl, rfl⟩
    · have := (hn' k hk).uniq hs; cases this.2
    · have := (hn k' hk').uniq hs'; cases this.2
    · obtain ⟨rfl, rfl⟩ := hd.uniq hd'
      exact ⟨rfl, rfl, rfl⟩
theorem sgt_kind {p : List Ln} {ts : List Tst} {k : Nat} (hk : k < 3) : sgtE p ts k = sgtE p ts 0 := by
  unfold sgtE
  rw [inB_true.2 ⟨by omega, by omega⟩, show inB 0 0 2 = true from rfl]
theorem num0_any (w : World) (R : Ending → World → Prop) (hR : ∀ w', Grow w w' → R (.returned (.int .i64 0)) w') : Calls Tryz.prog 241 #[.agg #[]] w R := by
  have HR := Lib.hid hR
  clear hR
  go_enter Tryz.func241, Tryz.ntmps241
  go_wp2_with fail
  exact HR.out _ ((Grow.refl w).alloc _)
theorem num1_any (w : World) (R : Ending → World → Prop) (hR : ∀ w', Grow w w' → R (.returned (.int .i64 1)) w') : Calls Tryz.prog 242 #[.agg #[]] w R := by
  have HR := Lib.hid hR
  clear hR
  go_enter Tryz.func242, Tryz.ntmps242
  go_wp2_with fail
  exact HR.out _ ((Grow.refl w).alloc _)
theorem num2_any (w : World) (R : Ending → World → Prop) (hR : ∀ w', Grow w w' → R (.returned (.int .i64 2)) w') : Calls Tryz.prog 243 #[.agg #[]] w R := by
  have HR := Lib.hid hR
  clear hR
  go_enter Tryz.func243, Tryz.ntmps243
  go_wp2_with fail
  exact HR.out _ ((Grow.refl w).alloc _)

set_option maxRecDepth 100000 in
set_option maxHeartbeats 16000000 in
theorem Repair_any (p : List Ln) (ts : List Tst) (pv tv : Value) (w : World) (hp : LinesAt w pv p) (ht : TestsAt w tv ts) (R : Ending → World → Prop)
    (hR : ∀ w' v x n ok, Grow w w' → EditsAt w' v x → RepP p ts x n ok → R (.returned (.tuple #[v, .int .i64 n, .bool ok, .int .i64 (sgtE p ts 0)])) w') :
    Calls Tryz.prog 47 #[pv, tv] w R := by
  have HP := Lib.hid hp
  have HT := Lib.hid ht
  have HR := Lib.hid hR
  obtain ⟨e, he⟩ : ∃ e, sgtE p ts 0 = e := ⟨_, rfl⟩
  have hok := fun h : e = 0 => sgtE_ok.1 (he.trans h)
  rw [he] at HR
  have HE := Lib.hid he
  obtain ⟨pa, pc, rfl, jk1⟩ := hp
  obtain ⟨⟨ta, tc, rfl, jk2⟩, jk3⟩ := ht
  clear hR he jk1 jk2 jk3
  by_cases z1 : e = 0
  rotate_left
  · have HS := Lib.hid (show RepP p ts [] 0 false from .inl ⟨by rw [HE.out]; exact z1, rfl, rfl, rfl⟩)
    have t1 : (e != 0) = true := by simpa using z1
    clear hok z1
    go_enter Tryz.func47, Tryz.ntmps47
    go_wp2_with fail
    refine kinded_any p ts 0 _ _ _ HP.out HT.out _ ?_
    intro w1 hg1
    rw [HE.out]
    have HF := Lib.hid (HR.out w1 (.slice none 0 0) [] 0 false hg1 (SlcAt.nil _ _ _) HS.out)
    clear hg1
    go_wp2_with fail
    exact bodyPost_ret (by simp [results, Tryz.results47, go_sem]) rfl HF.out
  obtain ⟨⟨hv, hvt⟩, _, _⟩ := hok z1
  subst z1
  have hp8 := (valP_ok.1 hv).1
  have HV := Lib.hid hv
  have HVT := Lib.hid hvt
  have HCL := Lib.hid (fun (k : Nat) (h : k < 3) => candAt_len hv (kind := k) (by omega) (by omega))
  clear hok hv hvt
  go_enter Tryz.func47, Tryz.ntmps47
  go_wp2_with fail
  refine kinded_any p ts 0 _ _ _ HP.out HT.out _ ?_
  intro w1 hg1
  rw [HE.out]
  have HG1 := Lib.hid hg1
  clear hg1
  go_wp2_with fail
  refine sources_any _ _ ?_
  have HBS := Lib.hid (heap_alloc_new w1 (.cells #[.iface 137 (.agg #[]), .iface 138 (.agg #[]), .iface 139 (.agg #[])] 96))
  have HG2 := Lib.hid (HG1.out.alloc (.cells #[.iface 137 (.agg #[]), .iface 138 (.agg #[]), .iface 139 (.agg #[])] 96))
  obtain ⟨bs, hbs⟩ : ∃ z, w1.heap.size = z := ⟨_, rfl⟩
  rw [hbs] at HBS ⊢
  generalize w1.alloc (.cells #[.iface 137 (.agg #[]), .iface 138 (.agg #[]), .iface 139 (.agg #[])] 96) = W2 at HBS HG2 ⊢
  clear hbs
  go_wp2_with fail
  go_loopw [23] (fun i wr => ∃ k : Nat, k ≤ 3 ∧ i = .int .i64 k ∧ Grow W2 wr ∧ ∀ k' : Nat, k' < k → SnglP p ts k' ⟨0, ⟨0, 0, 0, 0⟩⟩ false) (fun i _ => 3 - (intOf i).toNat)
  case atStart => exact ⟨0, Nat.zero_le _, rfl, Grow.refl _, fun k' h => by omega⟩
  case round =>
    obtain ⟨k, hk, rfl, hg, hno⟩ := hrel
    have HG := Lib.hid (HG2.out.trans hg)
    have HGX := Lib.hid hg
    have HNO := Lib.hid hno
    obtain ⟨c0, c1, c2⟩ := box3 (hg.blk HBS.out)
    have hzb := lt_of_block (hg.blk HBS.out)
    clear hg hno
    have hk4 : k = 0 ∨ k = 1 ∨ k = 2 ∨ k = 3 := by omega
    rcases hk4 with rfl | rfl | rfl | rfl
    · skip
      go_wp2_with fail
      refine single_any p ts (.iface 137 (.agg #[])) (candAt p 0) _ _ _ (HP.out.grow HG.out) (HT.out.grow HG.out) hp8 (HCL.out 0 (by decide)) (fun n W hn hW R' hR' => cand0_at p _ n W HV.out hn hW R' hR') _ ?_ ?_
      · intro hE w3 hg3
        have hs : SnglP p ts ((0 : Nat) : Int) ⟨0, ⟨0, 0, 0, 0⟩⟩ false := .inl ⟨rfl, rfl, .inr hE⟩
        have HNO2 := Lib.hid (show ∀ k' : Nat, k' < 0 + 1 → SnglP p ts k' ⟨0, ⟨0, 0, 0, 0⟩⟩ false from fun k' h => by
          by_cases h2 : k' < 0
          · exact HNO.out k' h2
          · have : k' = 0 := by omega
            subst this; exact hs)
        have HG3 := Lib.hid (HGX.out.trans hg3)
        clear hg3 hE hs
        go_wp2_with fail
        go_roundw
        case rel => exact ⟨1, by omega, by go_num, HG3.out, HNO2.out⟩
        case measure => simp [intOf]
      · intro w3 v3 j ed hg3 hj hfm hv3
        have hs : SnglP p ts ((0 : Nat) : Int) ed true := .inr ⟨rfl, (sgt_kind (by decide)).trans HE.out, j, hj, hfm⟩
        have HFx := Lib.hid (fun w4 (hg4 : Grow w3 w4) => HR.out w4 v3 [ed] ((0 : Nat) : Int) true (HG.out.trans (hg3.trans hg4)) (hv3.grow hg4) (.inr ⟨HE.out, .inl ⟨0, by decide, rfl, rfl, HNO.out, ed, rfl, hs⟩⟩))
        clear hg3 hj hfm hv3 hs
        have hm : ∀ w : World, (method 341 137 (.agg #[]) "tinker/seek.number").run Tryz.prog w = .ok (241, .agg #[]) w := fun _ => by kernel_rfl
        go_wp2_with fail
        refine num0_any _ _ ?_
        intro w4 hg4
        have HF4 := Lib.hid (HFx.out w4 hg4)
        go_wp2_with fail
        exact bodyPost_ret (by simp [results, Tryz.results47, go_sem]) rfl HF4.out
    · skip
      go_wp2_with fail
      refine single_any p ts (.iface 138 (.agg #[])) (candAt p 1) _ _ _ (HP.out.grow HG.out) (HT.out.grow HG.out) hp8 (HCL.out 1 (by decide)) (fun n W hn hW R' hR' => cand1_at p _ n W HV.out hn hW R' hR') _ ?_ ?_
      · intro hE w3 hg3
        have hs : SnglP p ts ((1 : Nat) : Int) ⟨0, ⟨0, 0, 0, 0⟩⟩ false := .inl ⟨rfl, rfl, .inr hE⟩
        have HNO2 := Lib.hid (show ∀ k' : Nat, k' < 1 + 1 → SnglP p ts k' ⟨0, ⟨0, 0, 0, 0⟩⟩ false from fun k' h => by
          by_cases h2 : k' < 1
          · exact HNO.out k' h2
          · have : k' = 1 := by omega
            subst this; exact hs)
        have HG3 := Lib.hid (HGX.out.trans hg3)
        clear hg3 hE hs
        go_wp2_with fail
        go_roundw
        case rel => exact ⟨2, by omega, by go_num, HG3.out, HNO2.out⟩
        case measure => simp [intOf]
      · intro w3 v3 j ed hg3 hj hfm hv3
        have hs : SnglP p ts ((1 : Nat) : Int) ed true := .inr ⟨rfl, (sgt_kind (by decide)).trans HE.out, j, hj, hfm⟩
        have HFx := Lib.hid (fun w4 (hg4 : Grow w3 w4) => HR.out w4 v3 [ed] ((1 : Nat) : Int) true (HG.out.trans (hg3.trans hg4)) (hv3.grow hg4) (.inr ⟨HE.out, .inl ⟨1, by decide, rfl, rfl, HNO.out, ed, rfl, hs⟩⟩))
        clear hg3 hj hfm hv3 hs
        have hm : ∀ w : World, (method 341 138 (.agg #[]) "tinker/seek.number").run Tryz.prog w = .ok (242, .agg #[]) w := fun _ => by kernel_rfl
        go_wp2_with fail
        refine num1_any _ _ ?_
        intro w4 hg4
        have HF4 := Lib.hid (HFx.out w4 hg4)
        go_wp2_with fail
        exact bodyPost_ret (by simp [results, Tryz.results47, go_sem]) rfl HF4.out
    · skip
      go_wp2_with fail
      refine single_any p ts (.iface 139 (.agg #[])) (candAt p 2) _ _ _ (HP.out.grow HG.out) (HT.out.grow HG.out) hp8 (HCL.out 2 (by decide)) (fun n W hn hW R' hR' => cand2_at p _ n W HV.out hn hW R' hR') _ ?_ ?_
      · intro hE w3 hg3
        have hs : SnglP p ts ((2 : Nat) : Int) ⟨0, ⟨0, 0, 0, 0⟩⟩ false := .inl ⟨rfl, rfl, .inr hE⟩
        have HNO2 := Lib.hid (show ∀ k' : Nat, k' < 2 + 1 → SnglP p ts k' ⟨0, ⟨0, 0, 0, 0⟩⟩ false from fun k' h => by
          by_cases h2 : k' < 2
          · exact HNO.out k' h2
          · have : k' = 2 := by omega
            subst this; exact hs)
        have HG3 := Lib.hid (HGX.out.trans hg3)
        clear hg3 hE hs
        go_wp2_with fail
        go_roundw
        case rel => exact ⟨3, by omega, by go_num, HG3.out, HNO2.out⟩
        case measure => simp [intOf]
      · intro w3 v3 j ed hg3 hj hfm hv3
        have hs : SnglP p ts ((2 : Nat) : Int) ed true := .inr ⟨rfl, (sgt_kind (by decide)).trans HE.out, j, hj, hfm⟩
        have HFx := Lib.hid (fun w4 (hg4 : Grow w3 w4) => HR.out w4 v3 [ed] ((2 : Nat) : Int) true (HG.out.trans (hg3.trans hg4)) (hv3.grow hg4) (.inr ⟨HE.out, .inl ⟨2, by decide, rfl, rfl, HNO.out, ed, rfl, hs⟩⟩))
        clear hg3 hj hfm hv3 hs
        have hm : ∀ w : World, (method 341 139 (.agg #[]) "tinker/seek.number").run Tryz.prog w = .ok (243, .agg #[]) w := fun _ => by kernel_rfl
        go_wp2_with fail
        refine num2_any _ _ ?_
        intro w4 hg4
        have HF4 := Lib.hid (HFx.out w4 hg4)
        go_wp2_with fail
        exact bodyPost_ret (by simp [results, Tryz.results47, go_sem]) rfl HF4.out
    · skip
      go_wp2_with fail
      refine double_any p ts _ _ _ (HP.out.grow HG.out) (HT.out.grow HG.out) HV.out _ ?_ ?_
      · intro h0 w2 hg2
        have HF := Lib.hid (HR.out w2 (.slice none 0 0) [] 0 false (HG.out.trans hg2) (SlcAt.nil _ _ _) (.inr ⟨HE.out, .inr ⟨HNO.out, .inl ⟨rfl, rfl, .inr h0⟩, rfl⟩⟩))
        clear hg2 h0
        go_wp2_with fail
        exact bodyPost_ret (by simp [results, Tryz.results47, go_sem]) rfl HF.out
      · intro w2 v j x hg2 hj hfm hv2
        have HF := Lib.hid (HR.out w2 v x 3 true (HG.out.trans hg2) hv2 (.inr ⟨HE.out, .inr ⟨HNO.out, .inr ⟨rfl, HE.out, j, hj, hfm⟩, rfl⟩⟩))
        clear hg2 hj hfm hv2
        go_wp2_with fail
        exact bodyPost_ret (by simp [results, Tryz.results47, go_sem]) rfl HF.out

set_option maxRecDepth 100000 in
set_option maxHeartbeats 16000000 in
theorem r5Repair_any (p : List Ln) (ts : List Tst) (pv tv : Value) (w : World) (hp : LinesAt w pv p) (ht : TestsAt w tv ts) (R : Ending → World → Prop)
    (hR : ∀ w' v x n ok, Grow w w' → EditsAt w' v x → RepP p ts x n ok → R (.returned (.tuple #[v, .int .i64 n, .bool ok, .int .i64 (sgtE p ts 0)])) w') :
    Calls Tryz.prog 48 #[pv, tv] w R := by
  have HP := Lib.hid hp
  have HT := Lib.hid ht
  have HR := Lib.hid hR
  obtain ⟨e, he⟩ : ∃ e, sgtE p ts 0 = e := ⟨_, rfl⟩
  have hok := fun h : e = 0 => sgtE_ok.1 (he.trans h)
  rw [he] at HR
  have HE := Lib.hid he
  obtain ⟨pa, pc, rfl, jk1⟩ := hp
  obtain ⟨⟨ta, tc, rfl, jk2⟩, jk3⟩ := ht
  clear hR he jk1 jk2 jk3
  by_cases z1 : e = 0
  rotate_left
  · have HS := Lib.hid (show RepP p ts [] 0 false from .inl ⟨by rw [HE.out]; exact z1, rfl, rfl, rfl⟩)
    have t1 : (e != 0) = true := by simpa using z1
    clear hok z1
    go_enter Tryz.func48, Tryz.ntmps48
    go_wp2_with fail
    refine r5sought_any p ts 0 _ _ _ HP.out HT.out _ ?_
    intro w1 hg1
    rw [HE.out]
    have HF := Lib.hid (HR.out w1 (.slice none 0 0) [] 0 false hg1 (SlcAt.nil _ _ _) HS.out)
    clear hg1
    go_wp2_with fail
    exact bodyPost_ret (by simp [results, Tryz.results48, go_sem]) rfl HF.out
  obtain ⟨⟨hv, hvt⟩, _, _⟩ := hok z1
  subst z1
  have HV := Lib.hid hv
  have HVT := Lib.hid hvt
  clear hok hv hvt
  go_enter Tryz.func48, Tryz.ntmps48
  go_wp2_with fail
  refine r5sought_any p ts 0 _ _ _ HP.out HT.out _ ?_
  intro w1 hg1
  rw [HE.out]
  have HG1 := Lib.hid hg1
  clear hg1
  go_wp2_with fail
  go_loopw [9] (fun i wr => ∃ k : Nat, k ≤ 3 ∧ i = .int .i64 k ∧ Grow w1 wr ∧ ∀ k' : Nat, k' < k → SnglP p ts k' ⟨0, ⟨0, 0, 0, 0⟩⟩ false) (fun i _ => 3 - (intOf i).toNat)
  case atStart => exact ⟨0, Nat.zero_le _, rfl, Grow.refl _, fun k' h => by omega⟩
  case round =>
    obtain ⟨k, hk, rfl, hg, hno⟩ := hrel
    have HG := Lib.hid (HG1.out.trans hg)
    have HGX := Lib.hid hg
    have HNO := Lib.hid hno
    clear hg hno
    by_cases hlt : k < 3
    · have hlt2 : (k : Int) < 3 := by omega
      go_wp2_with fail
      refine r5single_any p ts (k : Int) _ _ _ (HP.out.grow HG.out) (HT.out.grow HG.out) HV.out HVT.out (by omega) (by omega) _ ?_
      intro w3 ed m hg3 hb
      have hs := hb.sngl ((sgt_kind hlt).trans HE.out)
      obtain ⟨bb, hbb⟩ : ∃ b, decide (0 ≤ m) = b := ⟨_, rfl⟩
      rw [hbb] at hs ⊢
      have HS := Lib.hid hs
      obtain ⟨t, o1, d1, a1, b1⟩ := ed
      have hbx := heap_alloc_new w3 (.cells #[.int .i64 t, .int .i64 o1, .int .i64 d1, .int .i64 a1, .int .i64 b1] 27)
      have hgx := (Grow.refl w3).alloc (.cells #[.int .i64 t, .int .i64 o1, .int .i64 d1, .int .i64 a1, .int .i64 b1] 27)
      obtain ⟨c0, c1, c2, c3, c4⟩ := box5 hbx
      have HG3 := Lib.hid (hg3.trans hgx)
      clear hb hs hbb hbx hgx hg3
      cases bb with
      | false =>
        have HNO2 := Lib.hid (show ∀ k' : Nat, k' < k + 1 → SnglP p ts k' ⟨0, ⟨0, 0, 0, 0⟩⟩ false from fun k' h => by
          by_cases h2 : k' < k
          · exact HNO.out k' h2
          · have : k' = k := by omega
            subst this
            have h3 := HS.out
            rcases h3 with ⟨h4, h5, h6⟩ | ⟨h4, _⟩
            · exact .inl ⟨rfl, rfl, h6⟩
            · cases h4)
        go_wp2_with fail
        go_roundw
        case rel => exact ⟨k + 1, by omega, by go_num, HGX.out.trans HG3.out, HNO2.out⟩
        case measure => simp [intOf]; omega
      | true =>
        have hlit := edits_lit (w3.alloc (.cells #[.int .i64 t, .int .i64 o1, .int .i64 d1, .int .i64 a1, .int .i64 b1] 27)) t o1 d1 a1 b1 27
        rw [World.size_alloc] at hlit
        have HF := Lib.hid (HR.out _ _ _ (k : Int) true ((HG.out.trans HG3.out).alloc _) hlit (.inr ⟨HE.out, .inl ⟨k, hlt, rfl, rfl, HNO.out, _, rfl, HS.out⟩⟩))
        clear hlit
        go_wp2_with fail
        exact bodyPost_ret (by simp [results, Tryz.results48, go_sem]) rfl HF.out
    · have hk3 : k = 3 := by omega
      subst hk3
      go_wp2_with fail
      refine r5double_any p ts _ _ _ (HP.out.grow HG.out) (HT.out.grow HG.out) HV.out HVT.out _ ?_
      intro w2 v x m hg2 hv2 hb
      have hd := hb.dbl HE.out
      obtain ⟨bb, hbb⟩ : ∃ b, decide (0 ≤ m) = b := ⟨_, rfl⟩
      rw [hbb] at hd ⊢
      cases bb with
      | false =>
        have HF := Lib.hid (HR.out w2 (.slice none 0 0) [] 0 false (HG.out.trans hg2) (SlcAt.nil _ _ _) (.inr ⟨HE.out, .inr ⟨HNO.out, show DblP p ts [] false from (by rcases hd with ⟨h1, h2, h3⟩ | ⟨h1, _⟩; exact .inl ⟨rfl, rfl, h3⟩; cases h1), rfl⟩⟩))
        clear hg2 hv2 hb hd hbb
        go_wp2_with fail
        exact bodyPost_ret (by simp [results, Tryz.results48, go_sem]) rfl HF.out
      | true =>
        have HF := Lib.hid (HR.out w2 v x 3 true (HG.out.trans hg2) hv2 (.inr ⟨HE.out, .inr ⟨HNO.out, hd, rfl⟩⟩))
        clear hg2 hv2 hb hd hbb
        go_wp2_with fail
        exact bodyPost_ret (by simp [results, Tryz.results48, go_sem]) rfl HF.out
end Go.Proofs.YtbccbokjecdaaaaGreat

namespace Go.Proofs.YtbccbokjecdaaaaGreat
open Go.RowKit

theorem everyN_in {p : List Ln} {ts : List Tst} {C : Nat → List Ln} {k n : Nat} {x : Ln} (hn : n < k) (hx : x ∈ C n) (hf : fixB p ts n x = true) : (⟨(n : Int), x⟩ : Ed) ∈ everyN p ts C k := by
  unfold everyN fixE
  exact List.mem_flatMap.2 ⟨n, List.mem_range.2 hn, List.mem_map.2 ⟨x, List.mem_filter.2 ⟨hx, hf⟩, rfl⟩⟩
theorem everyN_fix {p : List Ln} {ts : List Tst} {C : Nat → List Ln} {k : Nat} {e : Ed} (h : e ∈ everyN p ts C k) : chkX p [e] ts = 0 ∧ goodM p [e] ts = true := by
  unfold everyN fixE at h
  obtain ⟨n, hn, he⟩ := List.mem_flatMap.1 h
  obtain ⟨x, hx, rfl⟩ := List.mem_map.1 he
  obtain ⟨_, h2⟩ := List.mem_filter.1 hx
  unfold fixB at h2
  rw [Bool.and_eq_true, decide_eq_true_eq] at h2
  exact h2
theorem goodM_nil (p : List Ln) (ts : List Tst) : goodM p [] ts = allPass p ts := by
  unfold goodM allPass
  have : doM p [] = p := by
    unfold doM
    apply List.ext_getElem
    · simp
    · intro i h1 h2; simp
  rw [this]
/-- What a repair has that is proposed. -/
theorem rep_good {p : List Ln} {ts : List Tst} {x : List Ed} {n : Int} (h : RepP p ts x n true) : chkX p x ts = 0 ∧ goodM p x ts = true ∧ (∀ t ∈ partsN x, t.length < x.length → goodM p t ts = false) ∧ 0 ≤ n ∧ n ≤ 3 ∧ (x.length = 1 ∨ (n = 3 ∧ x.length = 2)) := by
  rcases h with ⟨_, _, _, h⟩ | ⟨hs, h⟩
  · cases h
  · obtain ⟨⟨hv, hvt⟩, _, hap⟩ := sgtE_ok.1 hs
    have h0 : goodM p [] ts = false := by rw [goodM_nil]; exact hap
    rcases h with ⟨k, hk, rfl, _, _, e, rfl, hsn⟩ | ⟨hno, hd, rfl⟩
    · rcases hsn with ⟨h, _⟩ | ⟨_, _, j, hj, _⟩
      · cases h
      · obtain ⟨g1, g2⟩ := everyN_fix (List.mem_of_getElem? hj)
        refine ⟨g1, g2, fun t ht hl => ?_, by omega, by omega, .inl rfl⟩
        rw [parts_one] at ht
        simp at ht
        rcases ht with rfl | rfl
        · exact h0
        · simp at hl
    · rcases hd with ⟨h, _⟩ | ⟨_, _, j, hj, _⟩
      · cases h
      · obtain ⟨a, b, ha, hb, rfl, hd⟩ := mem_pairsL (List.mem_of_getElem? hj)
        unfold dblB at hd
        rw [Bool.and_eq_true, Bool.and_eq_true, decide_eq_true_eq, decide_eq_true_eq] at hd
        have hone : ∀ e ∈ mutM p p.length, goodM p [e] ts = false := by
          intro e he
          obtain ⟨q, y, hq, rfl, hy⟩ := mem_mutM.1 he
          cases hg : goodM p [⟨(q : Int), y⟩] ts with
          | false => rfl
          | true =>
            have hc := chkX_one (ts := ts) (at_ := (q : Int)) hv hvt (by omega) (by omega) (tmpl_ok hy)
            have hm : (⟨(q : Int), y⟩ : Ed) ∈ everyN p ts (candAt p ((0 : Nat) : Int)) p.length := everyN_in hq (show y ∈ candL p (lineAt p q) 0 from hy) (by unfold fixB; rw [hc, hg]; rfl)
            rcases hno 0 (by decide) with ⟨_, _, h5 | h5⟩ | ⟨h5, _⟩
            · exact absurd hs h5
            · rw [h5] at hm; cases hm
            · cases h5
        refine ⟨hd.2.1, hd.2.2, fun t ht hl => ?_, by decide, by decide, .inr ⟨rfl, rfl⟩⟩
        rw [parts_two] at ht
        simp at ht
        rcases ht with rfl | rfl | rfl | rfl
        · exact h0
        · exact hone a ha
        · exact hone b hb
        · simp at hl
theorem rep_none {p : List Ln} {ts : List Tst} {x : List Ed} {n : Int} (h : RepP p ts x n false) : x = [] ∧ n = 0 := by
  rcases h with ⟨_, h1, h2, _⟩ | ⟨_, h⟩
  · exact ⟨h1, h2⟩
  · rcases h with ⟨_, _, _, h, _⟩ | ⟨_, hd, rfl⟩
    · cases h
    · exact ⟨(hd.resolve_right (fun h => by cases h.1)).2.1, rfl⟩
end Go.Proofs.YtbccbokjecdaaaaGreat

namespace Go.Proofs.YtbccbokjecdaaaaGreat
open Go.RowKit

theorem encLo_at {α : Type} (t : Lo α) : encLo t = [.slice t.a t.n t.c] := rfl
/-- The block g holds lists of edits, and they can be written. -/
def RowS (w : World) (g : Nat) (xs : List (Lo Ed)) : Prop := ∀ (j : Nat) (x : Lo Ed), xs[j]? = some x → w.cell? ⟨g, j, none⟩ = some (.slice x.a x.n x.c) ∧ w.frozen? ⟨g, j, none⟩ = false
theorem RowS.grow {w w' : World} {g : Nat} {xs : List (Lo Ed)} (h : RowS w g xs) (hg : Grow w w') (hb : g < w.heap.size) : RowS w' g xs := fun j x hj => ⟨hg.cell (h j x hj).1, (hg.cellsB.2 g _ hb).trans (h j x hj).2⟩
theorem RowS.of_own {w : World} {base : Nat} {e : TypeId} {g n cap : Nat} {xs : List (Lo Ed)} (h : w.ownsRow base e 1 (.slice (some ⟨g, 0, none⟩) n cap) xs.length (xs.flatMap encLo)) : RowS w g xs := by
  intro j x hj
  obtain ⟨_, _, e1, _, _, h4⟩ := slc_of_owns encLo_len h
  cases e1
  rcases h4 with ⟨h4, _⟩ | ⟨b, o, e2, _, hc⟩
  · rw [h4] at hj; simp at hj
  · cases e2
    refine ⟨by have := hc j x hj 0 _ rfl; simpa using this, ?_⟩
    exact ownsRow_free h _
theorem RowS.set {w : World} {g : Nat} {xs : List (Lo Ed)} (h : RowS w g xs) {k : Nat} (hk : k < xs.length) (x : Lo Ed) : RowS (w.setCell ⟨g, k, none⟩ (.slice x.a x.n x.c)) g (xs.set k x) := by
  intro j y hj
  rw [World.frozen?_setCell]
  by_cases e : j = k
  · subst e
    rw [List.getElem?_set_self hk] at hj
    cases hj
    obtain ⟨h1, h2⟩ := h j _ (List.getElem?_eq_getElem hk)
    exact ⟨World.cell?_setCell_same (h := h1) .., h2⟩
  · rw [List.getElem?_set_ne (fun e2 => e e2.symm)] at hj
    obtain ⟨h1, h2⟩ := h j y hj
    exact ⟨(World.cell?_setCell_other (h := by intro e3; cases e3; exact e rfl) ..).trans h1, h2⟩
theorem RowS.ints {w : World} {g c : Nat} {xs : List (Lo Ed)} (h : RowS w g xs) (hb : g < w.heap.size) (hc : xs.length ≤ c) (hm : c ≤ 9223372036854775807) : SlcAt 1 encLo w (.slice (some ⟨g, 0, none⟩) xs.length c) xs := by
  refine ⟨_, c, rfl, hc, hm, .inr ⟨g, 0, rfl, hb, fun j x hx i u hu => ?_⟩⟩
  have hi : i = 0 := by
    have := (List.getElem?_eq_some_iff.1 hu).1
    simp [encLo] at this; exact this
  subst hi
  simp [encLo] at hu
  subst hu
  simpa using (h j x hx).1
def zerosS (n : Nat) : List Value := (Builtin.zeroCells (Value.slice none 0 0).cells n).toList
theorem zerosS_length (n : Nat) : (zerosS n).length = n := by
  unfold zerosS; rw [Array.length_toList, size_zeroCells]; simp [Value.cells]
theorem zerosS_one (n : Nat) : ∀ v ∈ zerosS n, v.oneCell' = true := by
  intro v hv
  unfold zerosS Builtin.zeroCells at hv
  rw [Array.toList_map, List.mem_map] at hv
  obtain ⟨i, _, rfl⟩ := hv
  have h1 : (Value.slice none 0 0).cells.size = 1 := rfl
  rw [h1, Nat.mod_one]
  rfl
theorem run_clear_lists (w : World) (ty g o n c : Nat) (hn : 0 < n) (hc : ∀ j, j < n → (w.cell? ⟨g, o + j, none⟩).isSome = true) (hf : ∀ j, j < n → w.frozen? ⟨g, o + j, none⟩ = false) :
    (Builtin.clear_ #[141] ty #[.slice (some ⟨g, o, none⟩) n c]).run Tryz.prog w = .ok (.tuple #[]) (w.setCells g o (zerosS n)) := by
  have hst := run_storeCells_cells (P := Tryz.prog) g o (zerosS n) 0 w (by rw [zerosS_length]; simpa using hc) (by rw [zerosS_length]; simpa using hf) (zerosS_one n)
  simp only [Nat.add_zero] at hst
  obtain ⟨m, rfl⟩ : ∃ m, n = m + 1 := ⟨n - 1, by omega⟩
  unfold zerosS at hst ⊢
  simp [Builtin.clear_, run_underlying Tryz.underlying141, hst]
theorem RowS.cleared {w : World} {g : Nat} {ys : List (Lo Ed)} (h : RowS w g ys) (k n : Nat) : RowS (w.setCells g k (zerosS n)) g (ys.take k) := by
  intro j x hj
  rw [List.getElem?_take] at hj
  split at hj
  · next hjk =>
    obtain ⟨h1, h2⟩ := h j x hj
    rw [World.frozen?_setCells, World.cell?_setCells_out g (zerosS n) k w ⟨g, j, none⟩ (fun _ _ => .inl (by dsimp only; omega))]
    exact ⟨h1, h2⟩
  · cases hj
theorem RowS.isSome {w : World} {g : Nat} {ys : List (Lo Ed)} (h : RowS w g ys) {t : Nat} (ht : t < ys.length) : (w.cell? ⟨g, t, none⟩).isSome = true ∧ w.frozen? ⟨g, t, none⟩ = false := by
  obtain ⟨h1, h2⟩ := h t _ (List.getElem?_eq_getElem ht)
  exact ⟨by rw [h1]; rfl, h2⟩
def keepS (pr : Lo Ed → Bool) (xs : List (Lo Ed)) : List (Lo Ed) := xs.filter fun x => !pr x
theorem keepS_snoc {pr : Lo Ed → Bool} {xs : List (Lo Ed)} {k : Nat} {x : Lo Ed} (hx : xs[k]? = some x) : keepS pr (xs.take (k + 1)) = keepS pr (xs.take k) ++ (if pr x then [] else [x]) := by
  rw [List.take_add_one, hx]
  unfold keepS
  rw [List.filter_append]
  cases h : pr x <;> simp [h]
theorem keepS_all {pr : Lo Ed → Bool} {xs : List (Lo Ed)} (h : ∀ y ∈ xs, pr y = false) : keepS pr xs = xs := by
  unfold keepS
  rw [List.filter_eq_self]
  intro y hy
  rw [h y hy]; rfl
/-- A function value that answers pr on lists of edits, as long as Inv holds. -/
def PredS (xs : List (Lo Ed)) (g : Nat) (cb : Array Value) (pr : Lo Ed → Bool) (Inv : World → Prop) : Prop :=
  ∀ x ∈ xs, ∀ (W : World), Inv W → ∀ R : Ending → World → Prop, (∀ W', Grow W W' → R (.returned (.bool (pr x))) W') → Calls Tryz.prog g (#[.slice x.a x.n x.c] ++ cb) W R

set_option maxHeartbeats 4000000 in
theorem indexFS_any (f : Nat) (cb : Array Value) (eg : Enters Tryz.prog f) (pr : Lo Ed → Bool) (Inv : World → Prop) (hI : ∀ W W', Inv W → Grow W W' → Inv W') (xs : List (Lo Ed)) (hp : PredS xs f cb pr Inv) (v : Value) (w : World) (hv : SlcAt 1 encLo w v xs) (hi : Inv w) (R : Ending → World → Prop)
    (hR1 : ∀ w' (k : Nat) x, Grow w w' → xs[k]? = some x → pr x = true → (∀ y ∈ xs.take k, pr y = false) → R (.returned (.int .i64 (k : Int))) w')
    (hR2 : ∀ w', Grow w w' → (∀ y ∈ xs, pr y = false) → R (.returned (.int .i64 (-1))) w') :
    Calls Tryz.prog 159 #[v, .func (.func f) #[] cb] w R := by
  have HV := Lib.hid hv
  have HI := Lib.hid hI
  have HP := Lib.hid hp
  have HI0 := Lib.hid hi
  have HR1 := Lib.hid hR1
  have HR2 := Lib.hid hR2
  obtain ⟨va, vc, rfl, v1, v2, _⟩ := hv
  have hm : xs.length ≤ 9223372036854775807 := by omega
  unfold Enters at eg
  clear hR1 hR2 hI hp hi
  go_enter Tryz.func159, Tryz.ntmps159
  go_wp2_with fail
  go_loopw [5, 8] (fun _ i wr => ∃ k : Nat, k ≤ xs.length ∧ i = .int .i64 k ∧ Grow w wr ∧ ∀ y ∈ xs.take k, pr y = false) (fun _ i _ => xs.length - (intOf i).toNat)
  case atStart => exact ⟨0, Nat.zero_le _, rfl, Grow.refl _, by simp⟩
  case round =>
    obtain ⟨k, hk, rfl, hg, hno⟩ := hrel
    have HG := Lib.hid hg
    have HNO := Lib.hid hno
    clear hg hno
    by_cases hlt : k < xs.length
    · obtain ⟨y, hy⟩ : ∃ y, xs[k]? = some y := ⟨_, List.getElem?_eq_getElem hlt⟩
      obtain ⟨b, o, rfl, hb, e0⟩ := lo_at (HV.out.grow HG.out) hy
      have hk2 : (k : Int) < (xs.length : Int) := by omega
      have HY := Lib.hid hy
      clear hy
      cases hpy : pr y with
      | true =>
        have HPY := Lib.hid hpy
        clear hpy
        go_wp2_with fail
        refine HP.out y (List.mem_of_getElem? HY.out) _ (HI.out _ _ HI0.out HG.out) _ ?_
        intro w1 hg1
        rw [HPY.out]
        have HF := Lib.hid (HR1.out w1 k y (HG.out.trans hg1) HY.out HPY.out HNO.out)
        clear hg1
        go_wp2_with fail
        exact HF.out
      | false =>
        have HPY := Lib.hid hpy
        clear hpy
        go_wp2_with fail
        refine HP.out y (List.mem_of_getElem? HY.out) _ (HI.out _ _ HI0.out HG.out) _ ?_
        intro w1 hg1
        rw [HPY.out]
        have HG1 := Lib.hid (HG.out.trans hg1)
        clear hg1
        go_wp2_with fail
        go_roundw
        case rel =>
          refine ⟨k + 1, by omega, by go_num, HG1.out, fun z hz => ?_⟩
          rw [List.take_add_one, HY.out] at hz
          rcases List.mem_append.1 hz with hz | hz
          · exact HNO.out z hz
          · simp at hz; subst hz; exact HPY.out
        case measure => simp [intOf]; omega
    · have HF := Lib.hid (HR2.out wr HG.out (fun y hy => HNO.out y (by rw [List.take_of_length_le (by omega)]; exact hy)))
      go_wp2_with fail
      exact HF.out

theorem inv_setCells {Inv : World → Prop} {g : Nat} (hS : ∀ W k v, Inv W → Inv (W.setCell ⟨g, k, none⟩ v)) : ∀ (vs : List Value) (o : Nat) (w : World), Inv w → Inv (w.setCells g o vs)
  | [], _, _, h => h
  | _ :: r, o, _, h => inv_setCells hS r (o + 1) _ (hS _ _ _ h)
set_option maxRecDepth 100000 in
set_option maxHeartbeats 8000000 in
theorem deleteFS_any (f : Nat) (cb : Array Value) (eg : Enters Tryz.prog f) (pr : Lo Ed → Bool) (Inv : World → Prop) (hI : ∀ W W', Inv W → Grow W W' → Inv W') (xs : List (Lo Ed)) (hp : PredS xs f cb pr Inv) (g n cap B : Nat) (hS : ∀ W k v, Inv W → Inv (W.setCell ⟨g, k, none⟩ v)) (w : World) (hn : xs.length = n) (hcap : n ≤ cap) (hm : cap ≤ 9223372036854775807) (hrow : RowS w g xs) (hg : g < w.heap.size) (hB : B ≤ g) (hi : Inv w) (R : Ending → World → Prop)
    (hR : ∀ w', Below B w w' → g < w'.heap.size → RowS w' g (keepS pr xs) → Inv w' → R (.returned (.slice (some ⟨g, 0, none⟩) (keepS pr xs).length cap)) w') :
    Calls Tryz.prog 130 #[.slice (some ⟨g, 0, none⟩) n cap, .func (.func f) #[] cb] w R := by
  have HN := Lib.hid hn
  have HROW := Lib.hid hrow
  have HR := Lib.hid hR
  have HI := Lib.hid hI
  have HS := Lib.hid hS
  have HP := Lib.hid hp
  have HI0 := Lib.hid hi
  have hv := hrow.ints hg (by rw [hn]; exact hcap) hm
  rw [hn] at hv
  have HV := Lib.hid hv
  have EG := Lib.hid eg
  unfold Enters at eg
  clear hn hrow hR hI hS hp hi hv
  go_enter Tryz.func130, Tryz.ntmps130
  go_wp2_with fail
  refine indexFS_any f cb EG.out pr Inv HI.out xs HP.out _ _ HV.out HI0.out _ ?_ ?_
  · intro w1 k x hg1 hx hpx hno
    have hkn : k < n := by rw [← HN.out]; exact (List.getElem?_eq_some_iff.1 hx).1
    have hst : keepS pr (xs.take (k + 1)) = xs.take k := by
      rw [keepS_snoc hx, hpx, if_pos rfl, List.append_nil]; exact keepS_all hno
    have HST := Lib.hid hst
    have HG1 := Lib.hid hg1
    have hgw1 : g < w1.heap.size := by have := hg1.sz; omega
    have t1 : ((k : Int) == -1) = false := by simp
    have t2 : ((k : Int) != -1) = true := by simp
    clear hx hpx hno hst hg1
    go_wp2_with fail
    go_loopw [5, 6, 7] (fun iv jv _ wr => ∃ (m q : Nat) (ys : List (Lo Ed)), iv = .int .i64 m ∧ jv = .int .i64 q ∧ q ≤ n ∧ m < q ∧ Below B w wr ∧ g < wr.heap.size ∧ Inv wr ∧ RowS wr g ys ∧ ys.length = n ∧ ys.take m = keepS pr (xs.take q) ∧ (keepS pr (xs.take q)).length = m ∧ ys.drop q = xs.drop q) (fun _ jv _ _ => n - (intOf jv).toNat)
    case atStart =>
      refine ⟨k, k + 1, xs, rfl, by go_num, by omega, by omega, HG1.out.below (by omega), hgw1, HI.out _ _ HI0.out HG1.out, HROW.out.grow HG1.out hg, HN.out, HST.out.symm, ?_, rfl⟩
      rw [HST.out, List.length_take, HN.out]; omega
    case round =>
      obtain ⟨m, q, ys, rfl, rfl, hq, hmq, hb2, hgw2, hin, hrw2, hyl, htk, hml, hdr⟩ := hrel
      have HB2 := Lib.hid hb2
      have HIN := Lib.hid hin
      have HRW2 := Lib.hid hrw2
      have HYL := Lib.hid hyl
      have HTK := Lib.hid htk
      have HML := Lib.hid hml
      have HDR := Lib.hid hdr
      clear hb2 hin hrw2 hyl htk hml hdr t1 t2
      by_cases hql : q < n
      · have hqn : (q : Int) < (n : Int) := by omega
        have hmn : m < n := by omega
        have hmn2 : (m : Int) < (n : Int) := by omega
        obtain ⟨x, hx⟩ : ∃ x, xs[q]? = some x := ⟨_, List.getElem?_eq_getElem (by rw [HN.out]; exact hql)⟩
        have hy2 : ys[q]? = some x := by
          have h := congrArg (fun l => l[0]?) HDR.out
          simp only [List.getElem?_drop, Nat.add_zero] at h
          rw [h]; exact hx
        obtain ⟨c0, _⟩ := HRW2.out q x hy2
        have hsn := keepS_snoc (pr := pr) hx
        have HSN := Lib.hid hsn
        have hdr1 : ys.drop (q + 1) = xs.drop (q + 1) := by
          have h := congrArg (fun l => l.drop 1) HDR.out
          simp only [List.drop_drop] at h
          exact h
        have HDR1 := Lib.hid hdr1
        have HMX := Lib.hid (List.mem_of_getElem? hx)
        clear hx hy2 hsn hdr1
        cases hpx : pr x with
        | true =>
          have HPX := Lib.hid hpx
          clear hpx
          go_wp2_with fail
          refine HP.out x HMX.out _ HIN.out _ ?_
          intro w2 hg2
          rw [HPX.out]
          have HG2 := Lib.hid hg2
          clear hg2
          go_wp2_with fail
          go_roundw
          case rel =>
            refine ⟨m, q + 1, ys, rfl, by go_num, by omega, by omega, Below.of_grow HB2.out HG2.out (by omega), by have := HG2.out.sz; omega, HI.out _ _ HIN.out HG2.out, HRW2.out.grow HG2.out hgw2, HYL.out, ?_, ?_, HDR1.out⟩
            · rw [HSN.out, HPX.out, if_pos rfl, List.append_nil]; exact HTK.out
            · rw [HSN.out, HPX.out, if_pos rfl, List.append_nil]; exact HML.out
          case measure => simp [intOf]; omega
        | false =>
          have HPX := Lib.hid hpx
          clear hpx
          go_wp2_with fail
          refine HP.out x HMX.out _ HIN.out _ ?_
          intro w2 hg2
          rw [HPX.out]
          have HG2 := Lib.hid hg2
          have hrw3 := HRW2.out.grow HG2.out hgw2
          have hgw3 : g < w2.heap.size := by have := HG2.out.sz; omega
          obtain ⟨y, hmy⟩ : ∃ y, ys[m]? = some y := ⟨_, List.getElem?_eq_getElem (by rw [HYL.out]; exact hmn)⟩
          obtain ⟨m0, z0⟩ := hrw3 m y hmy
          have HRW3 := Lib.hid hrw3
          clear hg2 hrw3 hmy
          go_wp2_with fail
          go_roundw
          case rel =>
            have hrs := HRW3.out.set (k := m) (by rw [HYL.out]; exact hmn) x
            refine ⟨m + 1, q + 1, ys.set m x, by go_num, by go_num, by omega, by omega, Below.setCell (Below.of_grow HB2.out HG2.out (by omega)) hB _, ?_, HS.out _ _ _ (HI.out _ _ HIN.out HG2.out), hrs, by rw [List.length_set]; exact HYL.out, ?_, ?_, ?_⟩
            · simp only [World.size_setCell]; exact hgw3
            · rw [HSN.out, HPX.out, if_neg (by simp), ← HTK.out, List.take_add_one, List.take_set, List.getElem?_set_self (by rw [HYL.out]; exact hmn), List.set_eq_of_length_le (by simp; omega)]; rfl
            · rw [HSN.out, HPX.out, if_neg (by simp), List.length_append]; have := HML.out; simp; omega
            · rw [List.drop_set_of_lt (by omega)]; exact HDR1.out
          case measure => simp [intOf]; omega
      · have hqe : q = n := by omega
        subst hqe
        have hcl : ∀ ty, (Builtin.clear_ #[141] ty #[.slice (some ⟨g, m, none⟩) (q - m) (cap - m)]).run Tryz.prog wr = .ok (.tuple #[]) (wr.setCells g m (zerosS (q - m))) := fun ty =>
          run_clear_lists wr ty g m (q - m) (cap - m) (by omega) (fun t ht => (HRW2.out.isSome (by rw [HYL.out]; omega)).1) (fun t ht => (HRW2.out.isSome (by rw [HYL.out]; omega)).2)
        have hfin := HRW2.out.cleared m (q - m)
        rw [HTK.out] at hfin
        have hlen : m = (keepS pr (xs.take q)).length := by
          rw [← HTK.out, List.length_take, HYL.out]; omega
        have hall : keepS pr (xs.take q) = keepS pr xs := by rw [List.take_of_length_le (by rw [HN.out]; exact Nat.le_refl _)]
        rw [hall] at hfin hlen
        have hf := HR.out _ (below_setCells g hB _ _ _ HB2.out) (by rw [size_setCells']; exact hgw2) hfin (inv_setCells HS.out _ _ _ HIN.out)
        rw [← hlen] at hf
        have HF := Lib.hid hf
        have hm2 : (m : Int) ≤ (q : Int) := by omega
        have hm4 : m ≤ q := by omega
        have hm5 : m ≤ cap := by omega
        clear hf hfin hlen hall
        go_wp2_with fail
        exact HF.out
  · intro w1 hg1 hno
    have hall := keepS_all hno
    have hf := HR.out w1 (hg1.below (by omega)) (by have := hg1.sz; omega) (by rw [hall]; exact HROW.out.grow hg1 hg) (HI.out _ _ HI0.out hg1)
    rw [hall, HN.out] at hf
    have HF := Lib.hid hf
    clear hf hall hno hg1
    go_wp2_with fail
    exact HF.out
end Go.Proofs.YtbccbokjecdaaaaGreat

namespace Go.Proofs.YtbccbokjecdaaaaGreat
open Go.RowKit

/-- append of one element as a step of a region that draws. -/
theorem step_appAt {P : Program} {α : Type} {ops : Array Oper} {o : Oper} {a : Act} {w : World} {K : Act → World → Prop} {Q : Exit → Act → World → Prop} {E : Prop} (hgd : o.guard = none) (s x : Operand) (t : TypeId)
    (ho : o.op = .call { callee := .builtin .append, args := #[s, x], argTypes := #[t, t] })
    (base : Nat) (e : TypeId) {k bytes : Nat} {z : Value} (ht : P.underlying t = some (.slice e)) (info : (P.info? e).map (fun i => (i.zero, i.size, i.bytes)) = some (some z, k, bytes))
    (hzs : z.cells.size = k) (hk : 0 < k) (hby : bytes ≤ 1000)
    (enc : α → List Value) (hen : ∀ x, (enc x).length = k) (h1 : ∀ x, ∀ u ∈ enc x, u.oneCell' = true)
    (v : Value) (xs : List α) (hs : a.eval s = v) (hown : w.ownsRow base e k v xs.length (xs.flatMap enc)) (ad : Addr) (y : α) (c : Nat) (hx : a.eval x = .slice (some ad) 1 c)
    (hnews : ∀ j u, (enc y)[j]? = some u → w.cell? (ad.add j) = some u) (hn : xs.length < 100000000000) (hbase : base ≤ w.heap.size)
    (h : ∀ v' w', w'.ownsRow base e k v' (xs ++ [y]).length ((xs ++ [y]).flatMap enc) → w.grownBy w' v.ownBlock → (v'.ownBlock = v.ownBlock ∨ v'.ownBlock = some w.heap.size) → K (a.put o.dst v') w') :
    if Region.wanted o (yielded ops a.tmps) = true then Oper.wp P o a w K Q else E := by
  have hw : Region.wanted o (yielded ops a.tmps) = true := by simp [Region.wanted, hgd]
  rw [if_pos hw]
  obtain ⟨i, hi, hz0, hz1, hz2⟩ := info_parts info
  obtain ⟨v', w', hrun, a1, a2, _, a4⟩ := run_append_own_at (P := P) w base t o.type e i z k bytes ht hi hz0 hz1 hz2 hzs hk v xs.length (xs.flatMap enc) hown ad 1 c (enc y) (by rw [hen]; omega) hnews (h1 y) (by unfold maxLen; omega) (Nat.le_trans (Nat.mul_le_mul (show xs.length + 1 ≤ 100000000000 by omega) hby) (by decide)) hbase
  unfold Oper.wp
  simp [execOp, ho, resolve, invoke, builtin, hs, hx, hrun, Result.andThen]
  refine h v' w' ?_ a2 a4
  rw [List.length_append, List.flatMap_append]
  simpa using a1

set_option maxHeartbeats 1000000 in
theorem cloneE_any (xs : List Ed) (v : Value) (w : World) (hx : SlcAt 5 encE w v xs) (hn : xs.length < 10000000000) (R : Ending → World → Prop) (hR : ∀ w' x, Grow w w' → w'.ownsRow w.heap.size 27 5 x xs.length (xs.flatMap encE) → R (.returned x) w') :
    Calls Tryz.prog 161 #[v] w R := by
  have hx' := hx
  obtain ⟨a, c, rfl, h1, h2, h3⟩ := hx'
  have HX := Lib.hid hx
  have HR := Lib.hid hR
  clear hx hR
  have heq := fun (W : World) (a : Option Addr) (n c : Nat) => Lib.run_eql_slice_nil (P := Tryz.prog) W 31 27 a n c 0 0 Tryz.underlying31
  cases a with
  | none =>
    have hxs : xs = [] := by
      rcases h3 with ⟨h3, _⟩ | ⟨b, o, h3, _⟩
      · exact h3
      · cases h3
    subst hxs
    clear h3
    go_enter Tryz.func161, Tryz.ntmps161
    go_wp2_with fail
    exact HR.out _ _ (Grow.refl _) (World.ownsRow_nil _ _ _ _)
  | some ad =>
    clear h3
    go_enter Tryz.func161, Tryz.ntmps161
    go_wp2_with (at_builtin; refine wpList_appAll _ rfl (.tmp 5) (.tmp 6) 31 rfl w.heap.size 27 Tryz.underlying31 info_ed rfl (by decide) (by decide) encE encE_len encE_one _ [] rfl (ownsRow_empty w 5 _ _ _ (Nat.le_refl _)) _ xs rfl (HX.out.grow ((Grow.refl w).alloc _)) (by simp; omega) (by simp) ?_; intro v1 w1 hown1 hgr1)
    exact HR.out _ _ (grown_below (ownsRow_empty (α := Ed) w 5 27 encE _ (Nat.le_refl _)) hgr1 (Nat.le_refl _) (by simp) ((Grow.refl w).alloc _)) hown1

set_option maxHeartbeats 1000000 in
theorem cloneS_any (xs : List (Lo Ed)) (v : Value) (w : World) (hx : SlcAt 1 encLo w v xs) (hn : xs.length < 10000000000) (R : Ending → World → Prop) (hR : ∀ w' x, Grow w w' → w'.ownsRow w.heap.size 31 1 x xs.length (xs.flatMap encLo) → R (.returned x) w') :
    Calls Tryz.prog 160 #[v] w R := by
  have hx' := hx
  obtain ⟨a, c, rfl, h1, h2, h3⟩ := hx'
  have HX := Lib.hid hx
  have HR := Lib.hid hR
  clear hx hR
  have heq := fun (W : World) (a : Option Addr) (n c : Nat) => Lib.run_eql_slice_nil (P := Tryz.prog) W 141 31 a n c 0 0 Tryz.underlying141
  cases a with
  | none =>
    have hxs : xs = [] := by
      rcases h3 with ⟨h3, _⟩ | ⟨b, o, h3, _⟩
      · exact h3
      · cases h3
    subst hxs
    clear h3
    go_enter Tryz.func160, Tryz.ntmps160
    go_wp2_with fail
    exact HR.out _ _ (Grow.refl _) (World.ownsRow_nil _ _ _ _)
  | some ad =>
    clear h3
    go_enter Tryz.func160, Tryz.ntmps160
    go_wp2_with (at_builtin; refine wpList_appAll _ rfl (.tmp 5) (.tmp 6) 141 rfl w.heap.size 31 Tryz.underlying141 info_sle rfl (by decide) (by decide) encLo encLo_len encLo_one _ [] rfl (ownsRow_empty w 1 _ _ _ (Nat.le_refl _)) _ xs rfl (HX.out.grow ((Grow.refl w).alloc _)) (by simp; omega) (by simp) ?_; intro v1 w1 hown1 hgr1)
    exact HR.out _ _ (grown_below (ownsRow_empty (α := (Lo Ed)) w 1 31 encLo _ (Nat.le_refl _)) hgr1 (Nat.le_refl _) (by simp) ((Grow.refl w).alloc _)) hown1


set_option maxRecDepth 100000 in
set_option maxHeartbeats 32000000 in
theorem parts_any (x : List Ed) (xv : Value) (w : World) (hx : EditsAt w xv x) (hx4 : x.length ≤ 4) (R : Ending → World → Prop)
    (hR : ∀ w' v L, Grow w w' → LoOwn w.heap.size 31 5 encE w' v L → L.map Lo.x = partsN x → R (.returned v) w') :
    Calls Tryz.prog 131 #[xv] w R := by
  have HX := Lib.hid hx
  have HR := Lib.hid hR
  obtain ⟨xa, xc, rfl, x1, x2, jk1⟩ := hx
  clear hR jk1
  go_enter Tryz.func131, Tryz.ntmps131
  go_wp2_with fail
  have hl0 : LoOwn w.heap.size 31 5 encE (w.alloc (.cells #[.slice none 0 0] 31)) (.slice (some ⟨w.heap.size, 0, none⟩) 1 1) [(⟨none, 0, 0, []⟩ : Lo Ed)] := by
    refine ⟨?_, fun t ht => ?_, fun t ht b o s hb => ?_⟩
    · exact World.ownsRow_lit (e := 31) (size := 1) w #[.slice none 0 0] 1 (Nat.le_refl _) (by simp [maxLen]) rfl
    · simp at ht; subst ht; exact SlcAt.nil _ _ _
    · simp at ht; subst ht; cases hb
  have HL0 := Lib.hid hl0
  have hg0 := (Grow.refl w).alloc (.cells #[.slice none 0 0] 31)
  have hs0 : (w.alloc (.cells #[.slice none 0 0] 31)).heap.size = w.heap.size + 1 := by simp
  generalize w.alloc (.cells #[.slice none 0 0] 31) = W0 at HL0 hl0 hg0 hs0 ⊢
  have HG0 := Lib.hid hg0
  clear hg0 hl0
  go_loopw [3, 11] (fun out i wr => ∃ (k : Nat) (L : List (Lo Ed)), k ≤ x.length ∧ i = .int .i64 k ∧ Grow w wr ∧ LoOwn w.heap.size 31 5 encE wr out L ∧ L.map Lo.x = partsN (x.take k)) (fun _ i _ => x.length - (intOf i).toNat)
  case atStart => exact ⟨0, _, Nat.zero_le _, rfl, HG0.out, HL0.out, rfl⟩
  case round =>
    obtain ⟨k, L, hk, rfl, hg, how, hLx⟩ := hrel
    have HG := Lib.hid hg
    have HOW := Lib.hid how
    have HLX := Lib.hid hLx
    have hzw := hg.sz
    have hLl : L.length ≤ 16 := by
      have h1 := congrArg List.length hLx
      rw [List.length_map] at h1
      have h2 := partsN_len x k
      have h3 : 2 ^ k ≤ 2 ^ 4 := Nat.pow_le_pow_right (by decide) (by omega)
      omega
    clear hg how hLx HL0 HG0 hs0
    by_cases hlt : k < x.length
    · obtain ⟨⟨t, op, d, a, b⟩, he⟩ : ∃ e, x[k]? = some e := ⟨_, List.getElem?_eq_getElem hlt⟩
      obtain ⟨gx, ox, rfl, hgx, e0, e1, e2, e3, e4⟩ := edits_at (HX.out.grow HG.out) he
      have hlt2 : (k : Int) < (x.length : Int) := by omega
      have HPT := Lib.hid (partsN_take he)
      have hbx := heap_alloc_new wr (.cells #[.int .i64 t, .int .i64 op, .int .i64 d, .int .i64 a, .int .i64 b] 27)
      have hgb := (Grow.refl wr).alloc (.cells #[.int .i64 t, .int .i64 op, .int .i64 d, .int .i64 a, .int .i64 b] 27)
      have hsW : (wr.alloc (.cells #[.int .i64 t, .int .i64 op, .int .i64 d, .int .i64 a, .int .i64 b] 27)).heap.size = wr.heap.size + 1 := by simp
      have HBX := Lib.hid hbx
      have HGB := Lib.hid hgb
      have HOA := Lib.hid (HOW.out.grow HGB.out)
      obtain ⟨oa, oc, rfl, o1, o2, jk2⟩ := HOW.out.at_
      clear he hbx hgb jk2
      go_wp2_with fail
      generalize wr.alloc (.cells #[.int .i64 t, .int .i64 op, .int .i64 d, .int .i64 a, .int .i64 b] 27) = W1 at HBX HGB HOA hsW ⊢
      refine cloneS_any L _ _ HOA.out.at_ (by omega) _ ?_
      intro w2 v2 hg2 hv2
      have HV2 := Lib.hid (slc_of_owns encLo_len hv2)
      obtain ⟨a2, c2, rfl, y1, y2, jk3⟩ := slc_of_owns encLo_len hv2
      have HNB := Lib.hid (own_blk2 (show Own 1 encLo W1.heap.size w2 (.slice a2 L.length c2) L from ⟨_, hv2⟩))
      have HG2 := Lib.hid (HG.out.trans (HGB.out.trans hg2))
      have HB2 := Lib.hid (hg2.blk HBX.out)
      have HO2 := Lib.hid (HOA.out.grow hg2)
      have hz2 := hg2.sz
      obtain ⟨bx, hbx⟩ : ∃ z, wr.heap.size = z := ⟨_, rfl⟩
      rw [hbx] at HB2 ⊢
      have HNE := Lib.hid (show ∀ b o s, a2 = some ⟨b, o, s⟩ → (Value.slice oa L.length oc).ownBlock ≠ some b ∧ b < w2.heap.size from fun b o s h => ⟨fun he => by have h1 := HOW.out.lt he; have h2 := (HNB.out b o s h).1; omega, (HNB.out b o s h).2⟩)
      clear hg2 hv2 jk3 e0 e1 e2 e3 e4 HOW HOA HBX HNB
      go_wp2_with fail
      obtain ⟨wo, hwo⟩ : ∃ z : World, z = wr := ⟨_, rfl⟩
      clear hwo
      go_loopw [3, 18] (fun out i wr => ∃ (j : Nat) (M2 : List (Lo Ed)), j ≤ L.length ∧ i = .int .i64 j ∧ Grow w wr ∧ wr.heap[bx]? = some (.cells #[.int .i64 t, .int .i64 op, .int .i64 d, .int .i64 a, .int .i64 b] 27 (0, 0)) ∧ SlcAt 1 encLo wr (.slice a2 L.length c2) L ∧ (∀ b o s, a2 = some ⟨b, o, s⟩ → out.ownBlock ≠ some b ∧ b < wr.heap.size) ∧ LoOwn w.heap.size 31 5 encE wr out (L ++ M2) ∧ M2.map Lo.x = (L.take j).map fun u => u.x ++ [⟨t, ⟨op, d, a, b⟩⟩]) (fun _ i _ => L.length - (intOf i).toNat)
      case atStart => exact ⟨0, [], Nat.zero_le _, rfl, HG2.out, HB2.out, HV2.out, HNE.out, by rw [List.append_nil]; exact HO2.out, rfl⟩
      case round =>
        obtain ⟨j, M2, hj, rfl, hg, hb, hsl, hne, how, hm⟩ := hrel
        clear HG2 HB2 HV2 HNE HO2
        have HG := Lib.hid hg
        have HB := Lib.hid hb
        have HSL := Lib.hid hsl
        have HNE := Lib.hid hne
        have HOW := Lib.hid how
        have HM := Lib.hid hm
        have hzb := lt_of_block hb
        have hMl : M2.length ≤ 16 := by
          have h1 := congrArg List.length hm
          rw [List.length_map, List.length_map, List.length_take] at h1
          omega
        clear hg hb hsl hne how hm
        by_cases hjl : j < L.length
        · have hjl2 : (j : Int) < (L.length : Int) := by omega
          obtain ⟨⟨pa, pn, pc, px⟩, hp⟩ : ∃ u, L[j]? = some u := ⟨_, List.getElem?_eq_getElem hjl⟩
          have hpi := HOW.out.ins _ (List.mem_append_left M2 (List.mem_of_getElem? hp))
          obtain ⟨gl, ol, rfl, hgl, l0⟩ := lo_at HSL.out hp
          have hpi2 := hpi
          obtain ⟨_, _, e', p1, p2, jk4⟩ := hpi2
          dsimp only at e' l0 hpi
          cases e'
          have HPI := Lib.hid (show EditsAt wr (.slice pa px.length pc) px from hpi)
          have hpl : px.length ≤ 4 := by
            have h1 : px ∈ partsN (x.take k) := by
              rw [← HLX.out]; exact List.mem_map.2 ⟨_, List.mem_of_getElem? hp, rfl⟩
            have h2 := (partsN_mem h1).1
            rw [List.length_take] at h2; omega
          have HTK := Lib.hid (show ∀ u : Lo Ed, u.x = px ++ [⟨t, ⟨op, d, a, b⟩⟩] → (M2 ++ [u]).map Lo.x = (L.take (j + 1)).map fun u => u.x ++ [⟨t, ⟨op, d, a, b⟩⟩] from fun u hu => by rw [List.take_add_one, hp, List.map_append, List.map_append, HM.out]; simp [hu])
          have HOD := Lib.hid (HOW.out.grow ((Grow.refl wr).drew))
          have HPD := Lib.hid (HPI.out.grow ((Grow.refl wr).drew))
          have hdz : wr.drew.heap.size = wr.heap.size := rfl
          clear hp jk4 hpi
          go_wp2_with fail
          refine wp_region_held_drew (S := fun X => X.heap[bx]? = some (.cells #[.int .i64 t, .int .i64 op, .int .i64 d, .int .i64 a, .int .i64 b] 27 (0, 0))) (by kernel_rfl) (((Grow.refl wr).drew).blk HB.out) (fun hH => ?_)
          refine wpAnyH_take (i := 0) (v := u3) rfl (by kernel_rfl) (by kernel_rfl) (by kernel_rfl) (fun _ _ _ h => h) (Or.inl ⟨by rfl, ?_⟩) hH ?_
          · intro w9 hw9
            go_simp
          simp only [List.getElem_toArray, List.getElem_cons_zero, Act.put, List.setIfInBounds_toArray, List.set_cons_zero, List.set_cons_succ]
          refine wpAnyH_take (i := 1) (v := .slice pa px.length pc) rfl (by kernel_rfl) (by kernel_rfl) (by kernel_rfl) (fun _ _ _ h => h) (Or.inl ⟨by rfl, ?_⟩) hH ?_
          · intro w9 hw9
            go_simp
          simp only [List.getElem_toArray, List.getElem_cons_succ, List.getElem_cons_zero, Act.put, List.setIfInBounds_toArray, List.set_cons_zero, List.set_cons_succ]
          refine wpAnyH_take (i := 3) (v := .agg #[.int .i64 t, .int .i64 op, .int .i64 d, .int .i64 a, .int .i64 b]) rfl (by kernel_rfl) (by kernel_rfl) (by kernel_rfl) (fun _ _ _ h => h) (Or.inl ⟨by rfl, ?_⟩) hH ?_
          · intro w9 hw9
            obtain ⟨c0, c1, c2, c3, c4⟩ := box5 hw9
            go_simp
          simp only [List.getElem_toArray, List.getElem_cons_succ, List.getElem_cons_zero, Act.put, List.setIfInBounds_toArray, List.set_cons_zero, List.set_cons_succ]
          refine wpAnyH_ready (rs := [2, 4]) (by kernel_rfl) (by simp) ?_
          refine AllReadyH.cons rfl (fun K hK => ?_) (AllReadyH.cons rfl (fun K hK => ?_) AllReadyH.nil)
          · skip
            go_simp
            refine cloneE_any px _ _ (HPD.out.grow (Grow.refl _)) (by omega) _ ?_
            intro w8 v8 hg8 hv8
            go_wp2_with fail
            refine hK.out _ _ (hg8.blk hH) (fun hH2 => ?_)
            clear hK K hH
            have hH := hH2
            clear hH2
            try simp only [List.getElem_toArray, List.getElem_cons_succ, List.getElem_cons_zero, Act.put, List.setIfInBounds_toArray, List.set_cons_zero, List.set_cons_succ]
            refine wpAnyH_ready (rs := [4]) (by kernel_rfl) (by simp) ?_
            refine AllReadyH.cons rfl (fun K hK => ?_) AllReadyH.nil
            go_simp
            refine hK.out _ _ (((Grow.refl _).alloc _).blk hH) (fun hH2 => ?_)
            clear hK K hH
            have hH := hH2
            clear hH2
            try simp only [List.getElem_toArray, List.getElem_cons_succ, List.getElem_cons_zero, Act.put, List.setIfInBounds_toArray, List.set_cons_zero, List.set_cons_succ]
            have hz8 := hg8.sz
            refine wpAnyH_ready (rs := [5]) (by kernel_rfl) (by simp) ?_
            refine AllReadyH.cons rfl (fun K hK => ?_) AllReadyH.nil
            refine step_appAt rfl (.tmp 24) (.tmp 26) 31 rfl wr.drew.heap.size 27 Tryz.underlying31 info_ed rfl (by decide) (by decide) encE encE_len encE_one v8 px (by simp [Act.eval]) (((Grow.refl w8).alloc (.cells #[.int .i64 t, .int .i64 op, .int .i64 d, .int .i64 a, .int .i64 b] 27)).owns hv8) _ (⟨t, ⟨op, d, a, b⟩⟩ : Ed) 1 (by simp [Act.eval] <;> rfl) (newsG w8 _ rfl (encE (⟨t, ⟨op, d, a, b⟩⟩ : Ed)) 27) (by omega) (by simp; omega) ?_
            intro v9 w9 hown9 hgr9 hat9
            have hg9 : Grow wr.drew w9 := grown_below (((Grow.refl w8).alloc (.cells #[.int .i64 t, .int .i64 op, .int .i64 d, .int .i64 a, .int .i64 b] 27)).owns hv8) hgr9 (Nat.le_refl _) (by simp; omega) (hg8.alloc (.cells #[.int .i64 t, .int .i64 op, .int .i64 d, .int .i64 a, .int .i64 b] 27))
            have hH9 := grown_keep (((Grow.refl w8).alloc (.cells #[.int .i64 t, .int .i64 op, .int .i64 d, .int .i64 a, .int .i64 b] 27)).owns hv8) hgr9 (show bx < wr.drew.heap.size from hzb) hH
            have hx9 := slc_of_owns encE_len hown9
            have hw9 : Own 5 encE wr.drew.heap.size w9 v9 (px ++ [(⟨t, ⟨op, d, a, b⟩⟩ : Ed)]) := ⟨_, hown9⟩
            obtain ⟨a9, c9, hv9, q1, q2, jk5⟩ := hx9
            rw [show (px ++ [(⟨t, ⟨op, d, a, b⟩⟩ : Ed)]).length = px.length + 1 by simp] at hv9
            subst hv9
            have hof9 := own_blk2 hw9
            have HX9 := Lib.hid (hw9.slc encE_len)
            clear hw9
            refine hK.out _ _ hH9 (fun hH2 => ?_)
            clear hK K hH hH9
            have hH := hH2
            clear hH2
            try simp only [List.getElem_toArray, List.getElem_cons_succ, List.getElem_cons_zero, Act.put, List.setIfInBounds_toArray, List.set_cons_zero, List.set_cons_succ]
            refine wpAnyH_ready (rs := [6]) (by kernel_rfl) (by simp) ?_
            refine AllReadyH.cons rfl (fun K hK => ?_) AllReadyH.nil
            go_simp
            refine hK.out _ _ (((Grow.refl _).alloc _).blk hH) (fun hH2 => ?_)
            clear hK K hH
            have hH := hH2
            clear hH2
            try simp only [List.getElem_toArray, List.getElem_cons_succ, List.getElem_cons_zero, Act.put, List.setIfInBounds_toArray, List.set_cons_zero, List.set_cons_succ]
            refine wpAnyH_ready (rs := [7]) (by kernel_rfl) (by simp) ?_
            refine AllReadyH.cons rfl (fun K hK => ?_) AllReadyH.nil
            have hg10 := hg9.alloc (.cells #[.slice a9 (px.length + 1) c9] 31)
            have HO10 := Lib.hid (HOD.out.grow hg10)
            refine step_appAt rfl (.tmp 22) (.tmp 28) 141 rfl w.heap.size 31 Tryz.underlying141 info_sle rfl (by decide) (by decide) encLo encLo_len encLo_one u3 (L ++ M2) (by simp [Act.eval]) HO10.out.row _ (⟨a9, px.length + 1, c9, px ++ [(⟨t, ⟨op, d, a, b⟩⟩ : Ed)]⟩ : Lo Ed) 1 (by simp [Act.eval] <;> rfl) (newsG _ _ (by simp) (encLo (⟨a9, px.length + 1, c9, px ++ [(⟨t, ⟨op, d, a, b⟩⟩ : Ed)]⟩ : Lo Ed)) _) (by rw [List.length_append]; omega) (by have h1 := hg10.sz; have h2 := HG.out.sz; omega) ?_
            intro v11 w11 hown11 hgr11 hat11
            have hH11 := kept_blk HO10.out.row hgr11 hH (by decide)
            have HG11 := Lib.hid (show Grow w w11 from grown_below HO10.out.row hgr11 (Nat.le_refl _) (by have h1 := hg10.sz; have h2 := HG.out.sz; omega) ((HG.out.trans (Grow.refl wr).drew).trans hg10))
            have HO11 := Lib.hid (HO10.out.app (t := ⟨a9, px.length + 1, c9, px ++ [(⟨t, ⟨op, d, a, b⟩⟩ : Ed)]⟩) hgr11 hown11 hat11 (HX9.out.grow ((Grow.refl w9).alloc _)) fun bb oo ss hb => ⟨fun he => by have h1 := HOW.out.lt he; have h2 := (hof9 bb oo ss hb).1; have h3 := hdz; omega, by have h2 := (hof9 bb oo ss hb).2; simp; omega⟩)
            have HS11 := Lib.hid (slc_kept (HSL.out.grow (((Grow.refl wr).drew).trans hg10)) hgr11 fun b o s hb => (HNE.out b o s hb).1)
            have HN11 := Lib.hid (show ∀ b o s, (some (⟨gl, ol, none⟩ : Addr)) = some ⟨b, o, s⟩ → v11.ownBlock ≠ some b ∧ b < w11.heap.size from fun b o s hb => by
              have h1 := HNE.out b o s hb
              have h2 := hg10.sz
              refine ⟨fun he => ?_, Nat.lt_of_lt_of_le h1.2 (Nat.le_trans h2 hgr11.size)⟩
              rcases hat11 with h3 | h3
              · rw [h3] at he; exact h1.1 he
              · rw [h3] at he; have := Option.some.inj he; omega)
            clear hgr11 hown11 hat11 hof9 jk5 hgr9 hown9 hat9
            refine hK.out _ _ hH11 (fun hH2 => ?_)
            clear hK K hH
            have hH := hH2
            clear hH2
            try simp only [List.getElem_toArray, List.getElem_cons_succ, List.getElem_cons_zero, Act.put, List.setIfInBounds_toArray, List.set_cons_zero, List.set_cons_succ]
            refine wpAnyH_take (i := 8) (v := v11) rfl (by kernel_rfl) (by kernel_rfl) (by kernel_rfl) (fun _ _ _ h => h) (Or.inl ⟨by rfl, ?_⟩) hH ?_
            · intro w12 hw12
              go_simp
            try simp only [List.getElem_toArray, List.getElem_cons_succ, List.getElem_cons_zero, Act.put, List.setIfInBounds_toArray, List.set_cons_zero, List.set_cons_succ]
            refine wpAnyH_done (by kernel_rfl) ?_ _
            have HB11 := Lib.hid hH11
            clear hH hH11
            go_wp2_with fail
            go_roundw
            case rel => exact ⟨j + 1, M2 ++ [⟨a9, px.length + 1, c9, px ++ [(⟨t, ⟨op, d, a, b⟩⟩ : Ed)]⟩], by omega, by go_num, HG11.out, HB11.out, HS11.out, HN11.out, by rw [← List.append_assoc]; exact HO11.out, HTK.out _ rfl⟩
            case measure => simp [intOf]; omega
          · skip
            go_simp
            refine hK.out _ _ (((Grow.refl _).alloc _).blk hH) (fun hH2 => ?_)
            clear hK K hH
            have hH := hH2
            clear hH2
            try simp only [List.getElem_toArray, List.getElem_cons_succ, List.getElem_cons_zero, Act.put, List.setIfInBounds_toArray, List.set_cons_zero, List.set_cons_succ]
            refine wpAnyH_ready (rs := [2]) (by kernel_rfl) (by simp) ?_
            refine AllReadyH.cons rfl (fun K hK => ?_) AllReadyH.nil
            go_simp
            refine cloneE_any px _ _ (HPD.out.grow ((Grow.refl _).alloc _)) (by omega) _ ?_
            intro w8 v8 hg8 hv8
            go_wp2_with fail
            refine hK.out _ _ (hg8.blk hH) (fun hH2 => ?_)
            clear hK K hH
            have hH := hH2
            clear hH2
            try simp only [List.getElem_toArray, List.getElem_cons_succ, List.getElem_cons_zero, Act.put, List.setIfInBounds_toArray, List.set_cons_zero, List.set_cons_succ]
            have hz8 := hg8.sz
            rw [World.size_alloc] at hz8
            refine wpAnyH_ready (rs := [5]) (by kernel_rfl) (by simp) ?_
            refine AllReadyH.cons rfl (fun K hK => ?_) AllReadyH.nil
            refine step_appAt rfl (.tmp 24) (.tmp 26) 31 rfl (wr.drew.alloc (.cells #[.int .i64 t, .int .i64 op, .int .i64 d, .int .i64 a, .int .i64 b] 27)).heap.size 27 Tryz.underlying31 info_ed rfl (by decide) (by decide) encE encE_len encE_one v8 px (by simp [Act.eval]) (hv8) _ (⟨t, ⟨op, d, a, b⟩⟩ : Ed) 1 (by simp [Act.eval] <;> rfl) (fun q u hq => hg8.cell (newsG wr.drew _ rfl (encE (⟨t, ⟨op, d, a, b⟩⟩ : Ed)) 27 q u hq)) (by omega) (hg8.sz) ?_
            intro v9 w9 hown9 hgr9 hat9
            have hg9 : Grow wr.drew w9 := grown_below (hv8) hgr9 (by simp) (by omega) ((((Grow.refl wr.drew).alloc (.cells #[.int .i64 t, .int .i64 op, .int .i64 d, .int .i64 a, .int .i64 b] 27)).trans hg8))
            have hH9 := grown_keep hv8 hgr9 (show bx < (wr.drew.alloc (.cells #[.int .i64 t, .int .i64 op, .int .i64 d, .int .i64 a, .int .i64 b] 27)).heap.size by simp; omega) hH
            have hx9 := slc_of_owns encE_len hown9
            have hw9 : Own 5 encE (wr.drew.alloc (.cells #[.int .i64 t, .int .i64 op, .int .i64 d, .int .i64 a, .int .i64 b] 27)).heap.size w9 v9 (px ++ [(⟨t, ⟨op, d, a, b⟩⟩ : Ed)]) := ⟨_, hown9⟩
            obtain ⟨a9, c9, hv9, q1, q2, jk5⟩ := hx9
            rw [show (px ++ [(⟨t, ⟨op, d, a, b⟩⟩ : Ed)]).length = px.length + 1 by simp] at hv9
            subst hv9
            have hof9 := own_blk2 hw9
            have HX9 := Lib.hid (hw9.slc encE_len)
            clear hw9
            refine hK.out _ _ hH9 (fun hH2 => ?_)
            clear hK K hH hH9
            have hH := hH2
            clear hH2
            try simp only [List.getElem_toArray, List.getElem_cons_succ, List.getElem_cons_zero, Act.put, List.setIfInBounds_toArray, List.set_cons_zero, List.set_cons_succ]
            refine wpAnyH_ready (rs := [6]) (by kernel_rfl) (by simp) ?_
            refine AllReadyH.cons rfl (fun K hK => ?_) AllReadyH.nil
            go_simp
            refine hK.out _ _ (((Grow.refl _).alloc _).blk hH) (fun hH2 => ?_)
            clear hK K hH
            have hH := hH2
            clear hH2
            try simp only [List.getElem_toArray, List.getElem_cons_succ, List.getElem_cons_zero, Act.put, List.setIfInBounds_toArray, List.set_cons_zero, List.set_cons_succ]
            refine wpAnyH_ready (rs := [7]) (by kernel_rfl) (by simp) ?_
            refine AllReadyH.cons rfl (fun K hK => ?_) AllReadyH.nil
            have hg10 := hg9.alloc (.cells #[.slice a9 (px.length + 1) c9] 31)
            have HO10 := Lib.hid (HOD.out.grow hg10)
            refine step_appAt rfl (.tmp 22) (.tmp 28) 141 rfl w.heap.size 31 Tryz.underlying141 info_sle rfl (by decide) (by decide) encLo encLo_len encLo_one u3 (L ++ M2) (by simp [Act.eval]) HO10.out.row _ (⟨a9, px.length + 1, c9, px ++ [(⟨t, ⟨op, d, a, b⟩⟩ : Ed)]⟩ : Lo Ed) 1 (by simp [Act.eval] <;> rfl) (newsG _ _ (by simp) (encLo (⟨a9, px.length + 1, c9, px ++ [(⟨t, ⟨op, d, a, b⟩⟩ : Ed)]⟩ : Lo Ed)) _) (by rw [List.length_append]; omega) (by have h1 := hg10.sz; have h2 := HG.out.sz; omega) ?_
            intro v11 w11 hown11 hgr11 hat11
            have hH11 := kept_blk HO10.out.row hgr11 hH (by decide)
            have HG11 := Lib.hid (show Grow w w11 from grown_below HO10.out.row hgr11 (Nat.le_refl _) (by have h1 := hg10.sz; have h2 := HG.out.sz; omega) ((HG.out.trans (Grow.refl wr).drew).trans hg10))
            have HO11 := Lib.hid (HO10.out.app (t := ⟨a9, px.length + 1, c9, px ++ [(⟨t, ⟨op, d, a, b⟩⟩ : Ed)]⟩) hgr11 hown11 hat11 (HX9.out.grow ((Grow.refl w9).alloc _)) fun bb oo ss hb => ⟨fun he => by have h1 := HOW.out.lt he; have h2 := (hof9 bb oo ss hb).1; have h3 := (show (wr.drew.alloc (.cells #[.int .i64 t, .int .i64 op, .int .i64 d, .int .i64 a, .int .i64 b] 27)).heap.size = wr.heap.size + 1 from World.size_alloc _ _); omega, by have h2 := (hof9 bb oo ss hb).2; simp; omega⟩)
            have HS11 := Lib.hid (slc_kept (HSL.out.grow (((Grow.refl wr).drew).trans hg10)) hgr11 fun b o s hb => (HNE.out b o s hb).1)
            have HN11 := Lib.hid (show ∀ b o s, (some (⟨gl, ol, none⟩ : Addr)) = some ⟨b, o, s⟩ → v11.ownBlock ≠ some b ∧ b < w11.heap.size from fun b o s hb => by
              have h1 := HNE.out b o s hb
              have h2 := hg10.sz
              refine ⟨fun he => ?_, Nat.lt_of_lt_of_le h1.2 (Nat.le_trans h2 hgr11.size)⟩
              rcases hat11 with h3 | h3
              · rw [h3] at he; exact h1.1 he
              · rw [h3] at he; have := Option.some.inj he; omega)
            clear hgr11 hown11 hat11 hof9 jk5 hgr9 hown9 hat9
            refine hK.out _ _ hH11 (fun hH2 => ?_)
            clear hK K hH
            have hH := hH2
            clear hH2
            try simp only [List.getElem_toArray, List.getElem_cons_succ, List.getElem_cons_zero, Act.put, List.setIfInBounds_toArray, List.set_cons_zero, List.set_cons_succ]
            refine wpAnyH_take (i := 8) (v := v11) rfl (by kernel_rfl) (by kernel_rfl) (by kernel_rfl) (fun _ _ _ h => h) (Or.inl ⟨by rfl, ?_⟩) hH ?_
            · intro w12 hw12
              go_simp
            try simp only [List.getElem_toArray, List.getElem_cons_succ, List.getElem_cons_zero, Act.put, List.setIfInBounds_toArray, List.set_cons_zero, List.set_cons_succ]
            refine wpAnyH_done (by kernel_rfl) ?_ _
            have HB11 := Lib.hid hH11
            clear hH hH11
            go_wp2_with fail
            go_roundw
            case rel => exact ⟨j + 1, M2 ++ [⟨a9, px.length + 1, c9, px ++ [(⟨t, ⟨op, d, a, b⟩⟩ : Ed)]⟩], by omega, by go_num, HG11.out, HB11.out, HS11.out, HN11.out, by rw [← List.append_assoc]; exact HO11.out, HTK.out _ rfl⟩
            case measure => simp [intOf]; omega
        · have hjn : j = L.length := by omega
          have HFL := Lib.hid (show (L ++ M2).map Lo.x = partsN (x.take (k + 1)) by
            have := HM.out
            rw [hjn, List.take_length] at this
            rw [List.map_append, this, HPT.out, ← HLX.out, List.map_map]; rfl)
          clear hjn
          go_wp2_with fail
          go_roundw
          case rel => exact ⟨k + 1, L ++ M2, by omega, by go_num, HG.out, HOW.out, HFL.out⟩
          case measure => simp [intOf]; omega
    · have hkn : k = x.length := by omega
      have hlx := HLX.out
      rw [hkn, List.take_length] at hlx
      have HF := Lib.hid (HR.out wr _ L HG.out HOW.out hlx)
      clear hlx hkn
      go_wp2_with fail
      exact HF.out
end Go.Proofs.YtbccbokjecdaaaaGreat

namespace Go.Proofs.YtbccbokjecdaaaaGreat
open Go.RowKit

theorem plcE_take {x : List Ed} {k : Nat} {e : Ed} (h : x[k]? = some e) : plcE (x.take (k + 1)) = plcE (x.take k) ++ [e.at_] := by
  unfold plcE; rw [List.take_add_one, h, List.map_append]; rfl
set_option maxHeartbeats 4000000 in
theorem pplaces_any (x : List Ed) (xv : Value) (w : World) (hx : EditsAt w xv x) (hl : x.length ≤ 1000) (R : Ending → World → Prop)
    (hR : ∀ w' v, Grow w w' → IntsAt w' v (plcE x) → R (.returned v) w') :
    Calls Tryz.prog 136 #[xv] w R := by
  have HX := Lib.hid hx
  have HR := Lib.hid hR
  obtain ⟨xa, xc, rfl, x1, x2, jk1⟩ := hx
  clear hR jk1
  go_enter Tryz.func136, Tryz.ntmps136
  go_wp2_with fail
  go_loopw [3, 8] (fun out i wr => ∃ k : Nat, k ≤ x.length ∧ i = .int .i64 k ∧ Grow w wr ∧ wr.ownsRow w.heap.size 3 1 out (plcE (x.take k)).length ((plcE (x.take k)).flatMap encI)) (fun _ i _ => x.length - (intOf i).toNat)
  case atStart => exact ⟨0, Nat.zero_le _, rfl, Grow.refl _, World.ownsRow_nil _ _ _ _⟩
  case round =>
    obtain ⟨k, hk, rfl, hg, how⟩ := hrel
    have HG := Lib.hid hg
    have HOW := Lib.hid how
    have hzw := hg.sz
    clear hg how
    by_cases hlt : k < x.length
    · obtain ⟨⟨t, op, d, a, b⟩, he⟩ : ∃ e, x[k]? = some e := ⟨_, List.getElem?_eq_getElem hlt⟩
      obtain ⟨gx, ox, rfl, hgx, e0, e1, e2, e3, e4⟩ := edits_at (HX.out.grow HG.out) he
      have hlt2 : (k : Int) < (x.length : Int) := by omega
      have HPT := Lib.hid (plcE_take he)
      have HLE := Lib.hid (show (plcE (x.take k)).length < 100000000000 by unfold plcE; rw [List.length_map, List.length_take]; omega)
      have hgb := (Grow.refl wr).alloc (.cells #[.int .i64 t, .int .i64 op, .int .i64 d, .int .i64 a, .int .i64 b] 27)
      clear he
      go_wp2_with (at_builtin; refine wpList_app _ rfl (.tmp 12) (.tmp 15) 35 rfl w.heap.size 3 Tryz.underlying35 info_int rfl (by decide) (by decide) encI encI_len encI_one _ (plcE (x.take k)) rfl ((hgb.alloc _).owns HOW.out) _ t 1 rfl (newsG _ _ (by simp) (encI t) _) HLE.out (by simp; omega) ?_; intro out2 w5 hown5 hgr5)
      have HG5 := Lib.hid (show Grow w w5 from grown_below HOW.out hgr5 (Nat.le_refl _) (by simp; omega) (HG.out.trans (hgb.alloc _)))
      have HO5 := Lib.hid hown5
      clear hown5 hgr5
      go_roundw
      case rel => exact ⟨k + 1, by omega, by go_num, HG5.out, by rw [HPT.out]; exact HO5.out⟩
      case measure => simp [intOf]; omega
    · have hkn : k = x.length := by omega
      have ho := HOW.out
      rw [hkn, List.take_length] at ho
      have HF := Lib.hid (HR.out wr _ HG.out (slc_of_owns encI_len ho))
      clear ho hkn
      go_wp2_with fail
      exact HF.out

/-- A comparison of lists of edits that a function with captured values answers, on lists of a family. -/
def CmpR (L : List Lst) (g : Nat) (cb : Array Value) (w : World) (sz : List Ed → Int) : Prop :=
  ∀ t ∈ L, ∀ u ∈ L, ∀ (W : World), Grow w W → EditsAt W t.v t.x → EditsAt W u.v u.x → ∀ R : Ending → World → Prop, (∀ W', Grow W W' → R (.returned (.int .i64 (cmpI (sz t.x) (sz u.x)))) W') → Calls Tryz.prog g (#[t.v, u.v] ++ cb) W R
set_option maxHeartbeats 4000000 in
theorem minFuncR_any (g : Nat) (cb : Array Value) (eg : Enters Tryz.prog g) (sz : List Ed → Int) (L : List Lst) (v : Value) (w : World) (hL : ListsAt w v L) (h0 : 0 < L.length) (hc : CmpR L g cb w sz) (R : Ending → World → Prop)
    (hR : ∀ w' (j : Nat) t, Grow w w' → L[j]? = some t → FirstMin (L.map fun t => sz t.x) j (sz t.x) → R (.returned t.v) w') :
    Calls Tryz.prog 133 #[v, .func (.func g) #[] cb] w R := by
  have HL := Lib.hid hL
  have HR := Lib.hid hR
  have HC := Lib.hid hc
  obtain ⟨⟨a, c, rfl, h1, h2, _⟩, _⟩ := hL
  have hm : L.length ≤ 9223372036854775807 := by omega
  obtain ⟨⟨ta, tn, tc, tx⟩, ht⟩ : ∃ t, L[0]? = some t := ⟨_, List.getElem?_eq_getElem h0⟩
  obtain ⟨b, o, rfl, hb, e0⟩ := lists_at HL.out.at_ ht
  dsimp only [Lst.v] at e0
  simp only [Nat.add_zero] at e0
  have HT := Lib.hid ht
  have hl1 : ¬ (L.length : Int) < 1 := by omega
  have hl2 : (0 : Int) < (L.length : Int) := by omega
  unfold Enters at eg
  clear hR hc ht
  go_enter Tryz.func133, Tryz.ntmps133
  go_wp2_with fail
  go_loopw [5, 6] (fun m i wr => ∃ (k j : Nat) (t : Lst), 1 ≤ k ∧ k ≤ L.length ∧ i = .int .i64 k ∧ m = .slice t.a t.n t.c ∧ L[j]? = some t ∧ FirstMin ((L.map fun t => sz t.x).take k) j (sz t.x) ∧ Grow w wr) (fun _ i _ => L.length - (intOf i).toNat)
  case atStart => exact ⟨1, 0, ⟨ta, tn, tc, tx⟩, by omega, by omega, rfl, rfl, HT.out, FirstMin.one (by rw [List.getElem?_map, HT.out]; rfl), Grow.refl _⟩
  case round =>
    obtain ⟨k, j, ⟨ma, mn, mc, mx⟩, hk1, hk, rfl, rfl, hj, hfm, hg⟩ := hrel
    have HJ := Lib.hid hj
    have HFM := Lib.hid hfm
    have HG := Lib.hid hg
    clear hj hfm hg e0
    by_cases hlt : k < L.length
    · obtain ⟨⟨ua, un, uc, ux⟩, hu⟩ : ∃ t, L[k]? = some t := ⟨_, List.getElem?_eq_getElem hlt⟩
      obtain ⟨_, _, e, hb2, e1⟩ := lists_at (HL.out.grow HG.out).at_ hu
      cases e
      dsimp only [Lst.v] at e1
      have hk2 : (k : Int) < (L.length : Int) := by omega
      have HU := Lib.hid hu
      obtain ⟨h3, h4⟩ := HFM.out.step (s := sz ux) (by rw [List.getElem?_map, hu]; rfl)
      have HIU := Lib.hid ((HL.out.grow HG.out).ins _ (List.mem_of_getElem? hu))
      have HIM := Lib.hid ((HL.out.grow HG.out).ins _ (List.mem_of_getElem? HJ.out))
      have H3 := Lib.hid h3
      have H4 := Lib.hid h4
      have hci := cmpI_lt (x := sz ux) (y := sz mx)
      have HCC := Lib.hid (HC.out ⟨ua, un, uc, ux⟩ (List.mem_of_getElem? hu) ⟨ma, mn, mc, mx⟩ (List.mem_of_getElem? HJ.out) wr HG.out HIU.out HIM.out)
      dsimp only at HCC
      generalize cmpI (sz ux) (sz mx) = q at hci HCC
      clear hu h3 h4
      by_cases hq : q < 0
      · have h5 := H3.out (hci.1 hq)
        have H5 := Lib.hid h5
        clear h5 hci
        go_wp2_with fail
        refine HCC.out _ ?_
        intro w1 hg1
        have e2 := hg1.cell e1
        have hb3 : b < w1.heap.size := Nat.lt_of_lt_of_le hb2 hg1.sz
        have HG2 := Lib.hid (HG.out.trans hg1)
        clear hg1 e1
        go_wp2_with fail
        go_roundw
        case rel => exact ⟨k + 1, k, ⟨ua, un, uc, ux⟩, by omega, by omega, by go_num, rfl, HU.out, H5.out, HG2.out⟩
        case measure => simp [intOf]; omega
      · have h5 := H4.out (fun h => hq (hci.2 h))
        have H5 := Lib.hid h5
        clear h5 hci
        go_wp2_with fail
        refine HCC.out _ ?_
        intro w1 hg1
        have HG2 := Lib.hid (HG.out.trans hg1)
        clear hg1 e1
        go_wp2_with fail
        go_roundw
        case rel => exact ⟨k + 1, j, ⟨ma, mn, mc, mx⟩, by omega, by omega, by go_num, rfl, HJ.out, H5.out, HG2.out⟩
        case measure => simp [intOf]; omega
    · have hkn : k = L.length := by omega
      have hfm := HFM.out
      rw [List.take_of_length_le (by rw [List.length_map]; omega)] at hfm
      have HF := Lib.hid (HR.out wr j ⟨ma, mn, mc, mx⟩ HG.out HJ.out hfm)
      clear hfm hkn
      go_wp2_with fail
      exact HF.out


theorem two_ints (w : World) (c1 c2 : Int) (T : TypeId) : IntsAt (w.alloc (.cells #[.int .i64 c1, .int .i64 c2] T)) (.slice (some ⟨w.heap.size, 0, none⟩) 2 2) [c1, c2] := by
  refine ⟨_, 2, rfl, Nat.le_refl _, by omega, .inr ⟨w.heap.size, 0, rfl, by rw [World.size_alloc]; omega, ?_⟩⟩
  intro j x hj i u hu
  have hi : i < 1 := (List.getElem?_eq_some_iff.1 hu).1
  rw [Nat.zero_add, World.cell?_alloc_new]
  have := flatMap_getElem? encI_len [c1, c2] j x hj i hi
  have e : ([c1, c2].flatMap encI)[j * 1 + i]? = (#[Value.int .i64 c1, Value.int .i64 c2] : Array Value)[j * 1 + i]? := by
    show ([c1, c2].flatMap encI)[j * 1 + i]? = ([Value.int .i64 c1, Value.int .i64 c2].toArray)[j * 1 + i]?
    rw [List.getElem?_toArray]; rfl
  rw [← e, this, hu]
theorem orI_two (a b : Int) : orI [a, b] = if a = 0 then b else a := by unfold orI; split <;> simp_all [orI]
set_option maxHeartbeats 4000000 in
theorem cmpParts_any (t u : Lst) (w : World) (ht : EditsAt w t.v t.x) (hu : EditsAt w u.v u.x) (ht4 : t.x.length ≤ 4) (hu4 : u.x.length ≤ 4) (at_ : ∀ e ∈ t.x, 0 ≤ e.at_ ∧ e.at_ < 8) (au : ∀ e ∈ u.x, 0 ≤ e.at_ ∧ e.at_ < 8) (R : Ending → World → Prop)
    (hR : ∀ w', Grow w w' → R (.returned (.int .i64 (cmpI (keyE t.x) (keyE u.x)))) w') :
    Calls Tryz.prog 134 #[t.v, u.v] w R := by
  rw [keyE_cmp ht4 hu4 at_ au, ← orI_two] at hR
  have HR := Lib.hid hR
  obtain ⟨ta, tn, tc, tx⟩ := t
  obtain ⟨ua, un, uc, ux⟩ := u
  have HT := Lib.hid ht
  have HU := Lib.hid hu
  obtain ⟨_, _, hv, h1, h2, jk1⟩ := ht
  obtain ⟨_, _, hv2, h3, h4, jk2⟩ := hu
  dsimp only [Lst.v] at hv hv2
  cases hv
  cases hv2
  dsimp only at HT HU HR ht4 hu4 ⊢
  obtain ⟨c1, hc1⟩ : ∃ c, cmpI (tx.length : Int) (ux.length : Int) = c := ⟨_, rfl⟩
  obtain ⟨c2, hc2⟩ : ∃ c, cmpIs (plcE tx) (plcE ux) = c := ⟨_, rfl⟩
  rw [hc1, hc2] at HR
  have HC1 := Lib.hid hc1
  have HC2 := Lib.hid hc2
  clear hR hc1 hc2 jk1 jk2 at_ au
  go_enter Tryz.func134, Tryz.ntmps134
  go_wp2_with fail
  refine cmpI_any _ _ _ _ ?_
  rw [HC1.out]
  go_wp2_with fail
  refine pplaces_any tx _ _ HT.out (by omega) _ ?_
  intro w1 v1 hg1 hv1
  have HV1 := Lib.hid hv1
  have HG1 := Lib.hid hg1
  clear hv1 hg1
  go_wp2_with fail
  refine pplaces_any ux _ _ (HU.out.grow HG1.out) (by omega) _ ?_
  intro w2 v2 hg2 hv2
  have HG2 := Lib.hid (HG1.out.trans hg2)
  have HV2 := Lib.hid hv2
  have HV3 := Lib.hid (HV1.out.grow hg2)
  clear hv2 hg2
  go_wp2_with fail
  refine compareIs_any _ _ _ _ _ HV3.out HV2.out _ ?_
  rw [HC2.out]
  go_wp2_with fail
  refine orI_any [c1, c2] _ _ (two_ints _ c1 c2 _) _ ?_
  have HF := Lib.hid (HR.out _ (HG2.out.alloc (.cells #[.int .i64 c1, .int .i64 c2] 3)))
  go_wp2_with fail
  exact HF.out

set_option maxHeartbeats 4000000 in
theorem goodPart_any (p : List Ln) (ts : List Tst) (pv tv : Value) (b1 b2 : Nat) (t : Lo Ed) (W : World) (hp : LinesAt W pv p) (ht : TestsAt W tv ts) (h1 : W.heap[b1]? = some (.cells #[pv] 22 (0, 0))) (h2 : W.heap[b2]? = some (.cells #[tv] 23 (0, 0))) (hx : EditsAt W t.v t.x) (hok : chkX p t.x ts = 0) (R : Ending → World → Prop)
    (hR : ∀ w', Grow W w' → R (.returned (.bool (!goodM p t.x ts))) w') :
    Calls Tryz.prog 132 #[t.v, .pointer (some ⟨b1, 0, none⟩), .pointer (some ⟨b2, 0, none⟩)] W R := by
  have HP := Lib.hid hp
  have HT := Lib.hid ht
  have HX := Lib.hid hx
  have HOK := Lib.hid hok
  have HR := Lib.hid hR
  obtain ⟨ga, gn, gc, gx⟩ := t
  obtain ⟨pa, pc, rfl, _, _, jk1⟩ := hp
  obtain ⟨⟨ta, tc, rfl, _, _, jk2⟩, jk3⟩ := ht
  obtain ⟨_, _, hv, _, _, jk4⟩ := hx
  dsimp only at hv HX HOK HR ⊢
  cases hv
  obtain ⟨g, hg⟩ : ∃ g, goodM p gx ts = g := ⟨_, rfl⟩
  rw [hg] at HR
  have HG := Lib.hid hg
  have e1 := box1 h1
  have e2 := box1 h2
  have z1 := lt_of_block h1
  have z2 := lt_of_block h2
  clear hR hok hg h1 h2 jk1 jk2 jk3 jk4
  go_enter Tryz.func132, Tryz.ntmps132
  go_wp2_with fail
  refine isGood_any p gx ts _ _ _ _ HP.out HX.out HT.out HOK.out _ ?_
  intro w1 hg1
  rw [HG.out]
  have HF := Lib.hid (HR.out w1 hg1)
  clear hg1
  go_wp2_with fail
  exact HF.out
/-- What is known of the lists while the good ones are looked for. -/
structure GoodI (xs : List (Lo Ed)) (b1 b2 : Nat) (pv tv : Value) (w0 W : World) : Prop where
  low : Grow w0 W
  bx1 : W.heap[b1]? = some (.cells #[pv] 22 (0, 0))
  bx2 : W.heap[b2]? = some (.cells #[tv] 23 (0, 0))
  ins : ∀ t ∈ xs, EditsAt W t.v t.x
theorem GoodI.grow {xs : List (Lo Ed)} {b1 b2 : Nat} {pv tv : Value} {w0 W W' : World} (h : GoodI xs b1 b2 pv tv w0 W) (k : Grow W W') : GoodI xs b1 b2 pv tv w0 W' :=
  ⟨h.low.trans k, k.blk h.bx1, k.blk h.bx2, fun t ht => (h.ins t ht).grow k⟩
theorem GoodI.set {xs : List (Lo Ed)} {b1 b2 g : Nat} {pv tv : Value} {w0 W : World} (hB : w0.heap.size ≤ g) (h1 : b1 ≠ g) (h2 : b2 ≠ g) (hne : ∀ t ∈ xs, ∀ b o s, t.a = some ⟨b, o, s⟩ → b ≠ g) (k : Nat) (v : Value) (h : GoodI xs b1 b2 pv tv w0 W) : GoodI xs b1 b2 pv tv w0 (W.setCell ⟨g, k, none⟩ v) :=
  ⟨Below.setCell h.low hB _, (Below.heap_setCell _ _ _ _ (by simpa using h1)).trans h.bx1, (Below.heap_setCell _ _ _ _ (by simpa using h2)).trans h.bx2, fun t ht => slc_setCell (h.ins t ht) (hne t ht)⟩

set_option maxRecDepth 100000 in
set_option maxHeartbeats 8000000 in
theorem psmallest_any (p : List Ln) (x : List Ed) (ts : List Tst) (pv xv tv : Value) (w : World) (hp : LinesAt w pv p) (hx : EditsAt w xv x) (ht : TestsAt w tv ts) (hok : chkX p x ts = 0) (hparts : ∀ t ∈ partsN x, chkX p t ts = 0) (R : Ending → World → Prop)
    (hR0 : goodsN p x ts = [] → ∀ w', Grow w w' → R (.returned (.tuple #[.slice none 0 0, .bool false])) w')
    (hR1 : ∀ w' v (j : Nat) t, Grow w w' → (goodsN p x ts)[j]? = some t → FirstMin ((goodsN p x ts).map keyE) j (keyE t) → EditsAt w' v t → R (.returned (.tuple #[v, .bool true])) w') :
    Calls Tryz.prog 93 #[pv, xv, tv] w R := by
  have HP := Lib.hid hp
  have HX := Lib.hid hx
  have HT := Lib.hid ht
  have HR0 := Lib.hid hR0
  have HR1 := Lib.hid hR1
  have HPA := Lib.hid hparts
  have hx4 := (valX_ok.1 (chkX_ok.1 hok).2.1).1
  have HEO := Lib.hid (valX_ok.1 (chkX_ok.1 hok).2.1).2
  obtain ⟨pa, pc, rfl, jk1⟩ := hp
  obtain ⟨xa, xc, rfl, jk2⟩ := hx
  obtain ⟨⟨ta, tc, rfl, jk3⟩, jk4⟩ := ht
  have HB1 := Lib.hid (heap_two0 w (.cells #[.slice pa p.length pc] 22) (.cells #[.slice ta ts.length tc] 23))
  have HB2 := Lib.hid (heap_two1 w (.cells #[.slice pa p.length pc] 22) (.cells #[.slice ta ts.length tc] 23))
  have HG := Lib.hid (((Grow.refl w).alloc (.cells #[.slice pa p.length pc] 22)).alloc (.cells #[.slice ta ts.length tc] 23))
  have hs2 : ((w.alloc (.cells #[.slice pa p.length pc] 22)).alloc (.cells #[.slice ta ts.length tc] 23)).heap.size = w.heap.size + 2 := by simp
  clear hR0 hR1 hparts hok jk1 jk2 jk3 jk4
  go_enter Tryz.func93, Tryz.ntmps93
  go_wp2_with fail
  generalize (w.alloc (.cells #[.slice pa p.length pc] 22)).alloc (.cells #[.slice ta ts.length tc] 23) = W at HB1 HB2 HG hs2 ⊢
  refine parts_any x _ _ (HX.out.grow HG.out) hx4 _ ?_
  intro w1 v1 L hg1 hL hLx
  have hLn : L.length = (partsN x).length := by rw [← hLx, List.length_map]
  have hpos : 0 < L.length := by rw [hLn]; exact List.length_pos_of_mem (partsN_self x)
  rcases hL.row.2 with ⟨_, h0⟩ | ⟨g, cap, cur, hv1, hgB, hgh, hnc, hcm, hcs, htk⟩
  · omega
  subst hv1
  have hrow : RowS w1 g L := RowS.of_own hL.row
  have hgl := lt_of_block hgh
  have hmem : ∀ t ∈ L, t.x ∈ partsN x := fun t ht => by rw [← hLx]; exact List.mem_map.2 ⟨t, ht, rfl⟩
  have hin : GoodI L w.heap.size (w.heap.size + 1) (.slice pa p.length pc) (.slice ta ts.length tc) w w1 := ⟨HG.out.trans hg1, hg1.blk HB1.out, hg1.blk HB2.out, hL.ins⟩
  have hpred : PredS L 132 #[.pointer (some ⟨w.heap.size, 0, none⟩), .pointer (some ⟨w.heap.size + 1, 0, none⟩)] (fun t => !goodM p t.x ts) (GoodI L w.heap.size (w.heap.size + 1) (.slice pa p.length pc) (.slice ta ts.length tc) w) := by
    intro t ht W' hI R' hR'
    have e : (#[Value.slice t.a t.n t.c] ++ #[Value.pointer (some ⟨w.heap.size, 0, none⟩), Value.pointer (some ⟨w.heap.size + 1, 0, none⟩)] : Array Value) = #[t.v, Value.pointer (some ⟨w.heap.size, 0, none⟩), Value.pointer (some ⟨w.heap.size + 1, 0, none⟩)] := rfl
    rw [e]
    exact goodPart_any p ts _ _ _ _ t W' (HP.out.grow hI.low) (HT.out.grow hI.low) hI.bx1 hI.bx2 (hI.ins t ht) (HPA.out t.x (hmem t ht)) R' hR'
  have hoff : ∀ t ∈ L, ∀ b o s, t.a = some ⟨b, o, s⟩ → b ≠ g := fun t ht b o s hb he => (hL.off t ht b o s hb).1 (by rw [he]; rfl)
  have HIN := Lib.hid hin
  have HPR := Lib.hid hpred
  have HROW := Lib.hid hrow
  have HLX := Lib.hid hLx
  have HMEM := Lib.hid hmem
  have HI := Lib.hid (fun (W1 W2 : World) (h : GoodI L w.heap.size (w.heap.size + 1) (.slice pa p.length pc) (.slice ta ts.length tc) w W1) (k : Grow W1 W2) => h.grow k)
  have HS := Lib.hid (fun (W1 : World) (k : Nat) (v : Value) (h : GoodI L w.heap.size (w.heap.size + 1) (.slice pa p.length pc) (.slice ta ts.length tc) w W1) => h.set (g := g) (by omega) (by omega) (by omega) hoff k v)
  have EG := Lib.hid (enters_of (P := Tryz.prog) Tryz.func132 (by kernel_rfl) rfl)
  have HG1 := Lib.hid (HG.out.trans hg1)
  clear hg1 hL hLx htk hcs hgh hrow hin hpred hmem hoff hLn
  go_wp2_with fail
  refine deleteFS_any 132 _ EG.out _ _ HI.out L HPR.out g L.length cap w.heap.size HS.out w1 rfl hnc (by simpa [maxLen] using hcm) HROW.out hgl (by omega) HIN.out _ ?_
  intro w2 hb2 hg2 hrow2 hin2
  obtain ⟨K, hK⟩ : ∃ K, keepS (fun t : Lo Ed => !goodM p t.x ts) L = K := ⟨_, rfl⟩
  rw [hK] at hrow2 ⊢
  have hKx : K.map Lo.x = goodsN p x ts := by
    rw [← hK]
    unfold keepS goodsN
    rw [← HLX.out, List.filter_map]
    congr 1
    refine List.filter_congr fun t _ => ?_
    simp
  have hKm : ∀ t ∈ K, t ∈ L := fun t ht => by rw [← hK] at ht; exact (List.mem_filter.1 ht).1
  have hKl : K.length ≤ L.length := by rw [← hK]; exact List.length_filter_le _ _
  have HKX := Lib.hid hKx
  have HKM := Lib.hid hKm
  have HG2 := Lib.hid hin2.low
  have HKI := Lib.hid (show ∀ t ∈ K, EditsAt w2 t.v t.x from fun t ht => hin2.ins t (hKm t ht))
  have HKS := Lib.hid (hrow2.ints hg2 (Nat.le_trans hKl hnc) (by simpa [maxLen] using hcm))
  have HEN2 := Lib.hid (enters_of (P := Tryz.prog) Tryz.func134 (by kernel_rfl) rfl)
  clear hb2 hrow2 hin2 hK hKx hKm HI HS HPR HIN HROW EG
  by_cases h0 : K.length = 0
  · have hg0 : goodsN p x ts = [] := by rw [← HKX.out, List.length_eq_zero_iff.1 h0]; rfl
    have t1 : ((K.length : Int) == 0) = true := by simpa using h0
    have HF := Lib.hid (HR0.out hg0 w2 HG2.out)
    clear hg0
    rw [h0]
    go_wp2_with fail
    exact HF.out
  · have t1 : ((K.length : Int) == 0) = false := by simpa using h0
    have t2 : ¬ (K.length : Int) = 0 := by omega
    have hpr : ∀ t ∈ K.map toLst, t.x.length ≤ 4 ∧ ∀ e ∈ t.x, 0 ≤ e.at_ ∧ e.at_ < 8 := by
      intro t ht
      obtain ⟨u, hu, rfl⟩ := List.mem_map.1 ht
      have hm := partsN_mem (HMEM.out u (HKM.out u hu))
      refine ⟨Nat.le_trans hm.1 hx4, fun e he => ?_⟩
      obtain ⟨i, hi⟩ := List.getElem?_of_mem (hm.2 e he)
      exact (edsOK_at HEO.out hi).1
    have hcmp : CmpR (K.map toLst) 134 #[] w2 keyE := by
      intro t ht u hu W hW htx hux R' hR'
      have e : (#[t.v, u.v] ++ #[] : Array Value) = #[t.v, u.v] := rfl
      rw [e]
      exact cmpParts_any t u W htx hux (hpr t ht).1 (hpr u hu).1 (hpr t ht).2 (hpr u hu).2 R' hR'
    have HC := Lib.hid hcmp
    have HLS := Lib.hid (lists_of HKS.out HKI.out)
    clear hpr hcmp
    go_wp2_with fail
    refine minFuncR_any 134 #[] HEN2.out keyE (K.map toLst) _ _ HLS.out (by rw [List.length_map]; omega) HC.out _ ?_
    intro w3 j u hg3 hu hfm
    have hmap : ((K.map toLst).map fun t => keyE t.x) = (goodsN p x ts).map keyE := by rw [← HKX.out, List.map_map, List.map_map]; rfl
    have hEu : (goodsN p x ts)[j]? = some u.x := by
      rw [← HKX.out, List.getElem?_map]
      rw [List.getElem?_map] at hu
      cases hj : K[j]? with
      | none => rw [hj] at hu; cases hu
      | some t => rw [hj] at hu; cases hu; rfl
    rw [hmap] at hfm
    have hI := HLS.out.ins u (List.mem_of_getElem? hu)
    have HF := Lib.hid (HR1.out w3 u.v j u.x (HG2.out.trans hg3) hEu hfm (hI.grow hg3))
    obtain ⟨ua, un, uc, ux⟩ := u
    dsimp only [Lst.v] at HF ⊢
    clear hg3 hu hfm hmap hI hEu
    go_wp2_with fail
    exact HF.out

theorem parts_chk {p : List Ln} {x : List Ed} {ts : List Tst} (h : chkX p x ts = 0) : ∀ t ∈ partsN x, chkX p t ts = 0 := by
  intro t ht
  obtain ⟨h1, h2, h3, h4⟩ := chkX_ok.1 h
  obtain ⟨h5, h6⟩ := valX_ok.1 h2
  have hsub : t.Sublist x := by have := partsN_sub x x.length t (by rw [List.take_length]; exact ht); rwa [List.take_length] at this
  refine chkX_ok.2 ⟨h1, valX_ok.2 ⟨Nat.le_trans hsub.length_le h5, ?_⟩, h3, ?_⟩
  · have hpw : x.Pairwise fun e f => e.at_ < f.at_ := by
      refine List.pairwise_iff_getElem.2 fun i j hi hj hij => ?_
      exact eds_lt h6 j i _ _ hij (List.getElem?_eq_getElem hi) (List.getElem?_eq_getElem hj)
    have hpt := hpw.sublist hsub
    refine edsOK_upto (k := t.length) (fun i hi => ?_) (Nat.le_refl _)
    obtain ⟨e, he⟩ : ∃ e, t[i]? = some e := ⟨_, List.getElem?_eq_getElem hi⟩
    obtain ⟨q, hq⟩ := List.getElem?_of_mem (hsub.subset (List.mem_of_getElem? he))
    obtain ⟨a1, _, a3⟩ := edsOK_at h6 hq
    refine (edOK_iff he).2 ⟨a1, ?_, a3⟩
    unfold prevAt
    by_cases h0 : i = 0
    · rw [if_pos h0]; omega
    · rw [if_neg h0, List.getElem?_eq_getElem (show i - 1 < t.length by omega)]
      have := List.pairwise_iff_getElem.1 hpt (i - 1) i (by omega) hi (by omega)
      obtain ⟨_, he2⟩ := List.getElem?_eq_some_iff.1 he
      rw [he2] at this
      exact this
  · unfold offB at h4 ⊢
    rw [List.any_eq_false] at h4 ⊢
    exact fun e he => h4 e (hsub.subset he)
set_option maxHeartbeats 4000000 in
theorem IsMinimal_any (p : List Ln) (x : List Ed) (ts : List Tst) (pv xv tv : Value) (w : World) (hp : LinesAt w pv p) (hx : EditsAt w xv x) (ht : TestsAt w tv ts) (hok : chkX p x ts = 0) (R : Ending → World → Prop)
    (hR : ∀ w' b, Grow w w' → MinP p x ts b → R (.returned (.tuple #[.bool b, .int .i64 0])) w') :
    Calls Tryz.prog 49 #[pv, xv, tv] w R := by
  have HP := Lib.hid hp
  have HX := Lib.hid hx
  have HT := Lib.hid ht
  have HR := Lib.hid hR
  have HOK := Lib.hid hok
  have HPA := Lib.hid (parts_chk hok)
  obtain ⟨pa, pc, rfl, jk1⟩ := hp
  obtain ⟨xa, xc, rfl, x1, x2, jk2⟩ := hx
  obtain ⟨⟨ta, tc, rfl, jk3⟩, jk4⟩ := ht
  clear hR hok jk1 jk2 jk3 jk4
  go_enter Tryz.func49, Tryz.ntmps49
  go_wp2_with fail
  refine checked_any p x ts _ _ _ _ HP.out HX.out HT.out _ ?_
  intro w1 hg1
  rw [HOK.out]
  have HG1 := Lib.hid hg1
  clear hg1
  go_wp2_with fail
  refine psmallest_any p x ts _ _ _ _ (HP.out.grow HG1.out) (HX.out.grow HG1.out) (HT.out.grow HG1.out) HOK.out HPA.out _ ?_ ?_
  · intro h0 w2 hg2
    have HF := Lib.hid (HR.out w2 false (HG1.out.trans hg2) (.inl ⟨h0, rfl⟩))
    clear hg2 h0
    go_wp2_with fail
    exact HF.out
  · intro w2 v j t hg2 hj hfm hv
    have HF := Lib.hid (HR.out w2 (decide (t.length = x.length)) (HG1.out.trans hg2) (.inr ⟨j, t, hj, hfm, rfl⟩))
    obtain ⟨va, vc, rfl, v1, v2, jk5⟩ := hv
    clear hg2 hj hfm jk5
    by_cases hl : t.length = x.length
    · rw [decide_eq_true hl] at HF
      have t1 : ((t.length : Int) == (x.length : Int)) = true := by simpa using (by omega : (t.length : Int) = (x.length : Int))
      have t2 : (t.length : Int) = (x.length : Int) := by omega
      clear hl
      go_wp2_with fail
      exact HF.out
    · rw [decide_eq_false hl] at HF
      have t2 : ¬ (t.length : Int) = (x.length : Int) := by omega
      have t1 : ((t.length : Int) == (x.length : Int)) = false := beq_eq_false_iff_ne.2 t2
      clear hl
      go_wp2_with fail
      exact HF.out
end Go.Proofs.YtbccbokjecdaaaaGreat
