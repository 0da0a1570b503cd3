/-
The statement SeekSingles: the smallest single repair is what the document says, it is good, and one of the kind 2 is there, and no greater, if there is one of any kind, for all programs, tests and kinds. No condition.
-/
import Derived.Test.YtbccbokjecdaaaaGreatB41
import Derived.Test.YtbccbokjecdaaaaGreatB42
import Derived.ProofKit
import Derived.Lib.SmallJoins
import Derived.Test.YtbccbokjecdaaaaGreatB34
namespace Go.Proofs.YtbccbokjecdaaaaGreat
open Go.RowKit

theorem everyN_mem {p : List Ln} {ts : List Tst} {C : Nat → List Ln} {k : Nat} {e : Ed} : e ∈ everyN p ts C k ↔ ∃ n x, n < k ∧ e = ⟨(n : Int), x⟩ ∧ x ∈ C n ∧ fixB p ts n x = true := by
  unfold everyN fixE
  constructor
  · intro h
    obtain ⟨n, hn, he⟩ := List.mem_flatMap.1 h
    obtain ⟨x, hx, rfl⟩ := List.mem_map.1 he
    obtain ⟨h1, h2⟩ := List.mem_filter.1 hx
    exact ⟨n, x, List.mem_range.1 hn, rfl, h1, h2⟩
  · rintro ⟨n, x, hn, rfl, h1, h2⟩
    exact List.mem_flatMap.2 ⟨n, List.mem_range.2 hn, List.mem_map.2 ⟨x, List.mem_filter.2 ⟨h1, h2⟩, rfl⟩⟩
theorem sngl_good {p : List Ln} {ts : List Tst} {kind : Int} {e : Ed} (h : SnglP p ts kind e true) : chkX p [e] ts = 0 ∧ goodM p [e] ts = true ∧ chkX p [e] [] = 0 := by
  rcases h with ⟨h, _⟩ | ⟨_, hs, j, hj, _⟩
  · cases h
  · obtain ⟨n, x, hn, rfl, hx, hf⟩ := everyN_mem.1 (List.mem_of_getElem? hj)
    unfold fixB at hf
    rw [Bool.and_eq_true, decide_eq_true_eq] at hf
    obtain ⟨c1, c2, c3, c4⟩ := chkX_ok.1 hf.1
    exact ⟨hf.1, hf.2, chkX_ok.2 ⟨c1, c2, rfl, c4⟩⟩
theorem sngl_two {p : List Ln} {ts : List Tst} {kind : Int} {e e2 : Ed} {ok2 : Bool} (h : SnglP p ts kind e true) (h2 : SnglP p ts 2 e2 ok2) : ok2 = true ∧ sgtE p ts 2 = 0 ∧ size1 p e2 ≤ size1 p e := by
  rcases h with ⟨h, _⟩ | ⟨_, hs, j, hj, _⟩
  · cases h
  · obtain ⟨⟨hv, hvt⟩, ⟨k0, k2⟩, hap⟩ := sgtE_ok.1 hs
    have hs2 : sgtE p ts 2 = 0 := sgtE_ok.2 ⟨⟨hv, hvt⟩, ⟨by decide, by decide⟩, hap⟩
    obtain ⟨n, x, hn, rfl, hx, hf⟩ := everyN_mem.1 (List.mem_of_getElem? hj)
    have hmem : (⟨(n : Int), x⟩ : Ed) ∈ everyN p ts (candAt p 2) p.length := everyN_mem.2 ⟨n, x, hn, rfl, (cand_sub (lineAt_ok hv (by omega) (by omega)) k0 k2).subset hx, hf⟩
    rcases h2 with ⟨_, _, h3 | h3⟩ | ⟨h3, _, j2, h4, h5⟩
    · exact absurd hs2 h3
    · rw [h3] at hmem; simp at hmem
    · refine ⟨h3, hs2, ?_⟩
      obtain ⟨i, hi⟩ := List.getElem?_of_mem hmem
      exact (h5.2 i _ (by rw [List.getElem?_map, hi]; rfl)).1

set_option maxRecDepth 100000 in
set_option maxHeartbeats 32000000 in
theorem seekSingles_any (p : List Ln) (l : List Tst) (x : Int) (w : World) (vp vl : Value) (hp : LinesAt w vp p) (hl : TestsAt w vl l) (R : Ending → World → Prop) (hR : ∀ w', Grow w w' → R (.returned (.bool true)) w') :
    Calls Tryz.prog 9 #[vp, vl, .int .i64 x] w R := by
  have HR := Lib.hid hR
  have HP_ := Lib.hid hp
  obtain ⟨adp, cpp, rfl, qp1, qp2, _⟩ := hp
  have HL_ := Lib.hid hl
  obtain ⟨⟨adl, cpl, rfl, ql1, ql2, _⟩, _⟩ := hl
  clear hR
  by_cases gd0 : 100 < p.length
  · have hd0 : decide (100 < p.length) = true := decide_eq_true gd0
    have HD0 := Lib.hid hd0
    clear hd0 gd0
    go_enter Tryz.func9, Tryz.ntmps9
    go_wp2_with fail
    refine long4_any p _ _ (by first | exact HP_.out | exact HP_.out.grow ((Grow.refl _).alloc _) | exact HP_.out.grow (((Grow.refl _).alloc _).alloc _) | exact HP_.out.grow ((((Grow.refl _).alloc _).alloc _).alloc _) | exact HP_.out.grow (((((Grow.refl _).alloc _).alloc _).alloc _).alloc _) | exact HP_.out.grow ((Grow.refl _).drewN _)) _ ?_
    rw [HD0.out]
    go_wp2_with fail
    refine ssane_any _ _ ?_
    intro wz1 hg1 
    have hgr1 : Grow w wz1 := by first | exact hg1 | exact Grow.trans ((Grow.refl _).alloc _) hg1 | exact Grow.trans (((Grow.refl _).alloc _).alloc _) hg1 | exact Grow.trans ((((Grow.refl _).alloc _).alloc _).alloc _) hg1 | exact Grow.trans (((((Grow.refl _).alloc _).alloc _).alloc _).alloc _) hg1 | exact Grow.trans ((Grow.refl _).drewN _) hg1
    have HP_1 := Lib.hid (HP_.out.grow hgr1)
    have HL_1 := Lib.hid (HL_.out.grow hgr1)
    have GCH1 := Lib.hid hgr1
    clear hg1 hgr1 HP_ HL_
    go_wp2_with fail
    first | exact HR.out _ (GCH1.out) | exact HR.out _ (Grow.trans GCH1.out ((Grow.refl _).alloc _)) | exact HR.out _ (Grow.trans GCH1.out (((Grow.refl _).alloc _).alloc _)) | exact HR.out _ (Grow.trans GCH1.out ((((Grow.refl _).alloc _).alloc _).alloc _)) | exact HR.out _ (Grow.trans GCH1.out (((((Grow.refl _).alloc _).alloc _).alloc _).alloc _)) | exact HR.out _ (Grow.trans GCH1.out ((Grow.refl _).drewN _))
  · have hd0 : decide (100 < p.length) = false := decide_eq_false gd0
    have HD0 := Lib.hid hd0
    clear hd0
    obtain ⟨mb, hmb⟩ : ∃ z, manyB l = z := ⟨_, rfl⟩
    have HMB := Lib.hid hmb
    clear hmb
    cases mb with
    | true =>
      go_enter Tryz.func9, Tryz.ntmps9
      go_wp2_with fail
      refine long4_any p _ _ (by first | exact HP_.out | exact HP_.out.grow ((Grow.refl _).alloc _) | exact HP_.out.grow (((Grow.refl _).alloc _).alloc _) | exact HP_.out.grow ((((Grow.refl _).alloc _).alloc _).alloc _) | exact HP_.out.grow (((((Grow.refl _).alloc _).alloc _).alloc _).alloc _) | exact HP_.out.grow ((Grow.refl _).drewN _)) _ ?_
      rw [HD0.out]
      go_wp2_with fail
      refine many_any l _ _ (by first | exact HL_.out | exact HL_.out.grow ((Grow.refl _).alloc _) | exact HL_.out.grow (((Grow.refl _).alloc _).alloc _) | exact HL_.out.grow ((((Grow.refl _).alloc _).alloc _).alloc _) | exact HL_.out.grow (((((Grow.refl _).alloc _).alloc _).alloc _).alloc _) | exact HL_.out.grow ((Grow.refl _).drewN _)) _ ?_
      intro wz1 hg1 
      have hgr1 : Grow w wz1 := by first | exact hg1 | exact Grow.trans ((Grow.refl _).alloc _) hg1 | exact Grow.trans (((Grow.refl _).alloc _).alloc _) hg1 | exact Grow.trans ((((Grow.refl _).alloc _).alloc _).alloc _) hg1 | exact Grow.trans (((((Grow.refl _).alloc _).alloc _).alloc _).alloc _) hg1 | exact Grow.trans ((Grow.refl _).drewN _) hg1
      have HP_1 := Lib.hid (HP_.out.grow hgr1)
      have HL_1 := Lib.hid (HL_.out.grow hgr1)
      have GCH1 := Lib.hid hgr1
      clear hg1 hgr1 HP_ HL_
      rw [HMB.out]
      go_wp2_with fail
      refine ssane_any _ _ ?_
      intro wz2 hg2 
      have hgr2 : Grow wz1 wz2 := by first | exact hg2 | exact Grow.trans ((Grow.refl _).alloc _) hg2 | exact Grow.trans (((Grow.refl _).alloc _).alloc _) hg2 | exact Grow.trans ((((Grow.refl _).alloc _).alloc _).alloc _) hg2 | exact Grow.trans (((((Grow.refl _).alloc _).alloc _).alloc _).alloc _) hg2 | exact Grow.trans ((Grow.refl _).drewN _) hg2
      have HP_2 := Lib.hid (HP_1.out.grow hgr2)
      have HL_2 := Lib.hid (HL_1.out.grow hgr2)
      have GCH2 := Lib.hid (GCH1.out.trans hgr2)
      clear hg2 hgr2 HP_1 HL_1 GCH1
      go_wp2_with fail
      first | exact HR.out _ (GCH2.out) | exact HR.out _ (Grow.trans GCH2.out ((Grow.refl _).alloc _)) | exact HR.out _ (Grow.trans GCH2.out (((Grow.refl _).alloc _).alloc _)) | exact HR.out _ (Grow.trans GCH2.out ((((Grow.refl _).alloc _).alloc _).alloc _)) | exact HR.out _ (Grow.trans GCH2.out (((((Grow.refl _).alloc _).alloc _).alloc _).alloc _)) | exact HR.out _ (Grow.trans GCH2.out ((Grow.refl _).drewN _))
    | false =>
      obtain ⟨e, he⟩ : ∃ z, sgtE p l x = z := ⟨_, rfl⟩
      have HE := Lib.hid he
      clear he
      go_enter Tryz.func9, Tryz.ntmps9
      go_wp2_with fail
      refine long4_any p _ _ (by first | exact HP_.out | exact HP_.out.grow ((Grow.refl _).alloc _) | exact HP_.out.grow (((Grow.refl _).alloc _).alloc _) | exact HP_.out.grow ((((Grow.refl _).alloc _).alloc _).alloc _) | exact HP_.out.grow (((((Grow.refl _).alloc _).alloc _).alloc _).alloc _) | exact HP_.out.grow ((Grow.refl _).drewN _)) _ ?_
      rw [HD0.out]
      go_wp2_with fail
      refine many_any l _ _ (by first | exact HL_.out | exact HL_.out.grow ((Grow.refl _).alloc _) | exact HL_.out.grow (((Grow.refl _).alloc _).alloc _) | exact HL_.out.grow ((((Grow.refl _).alloc _).alloc _).alloc _) | exact HL_.out.grow (((((Grow.refl _).alloc _).alloc _).alloc _).alloc _) | exact HL_.out.grow ((Grow.refl _).drewN _)) _ ?_
      intro wz1 hg1 
      have hgr1 : Grow w wz1 := by first | exact hg1 | exact Grow.trans ((Grow.refl _).alloc _) hg1 | exact Grow.trans (((Grow.refl _).alloc _).alloc _) hg1 | exact Grow.trans ((((Grow.refl _).alloc _).alloc _).alloc _) hg1 | exact Grow.trans (((((Grow.refl _).alloc _).alloc _).alloc _).alloc _) hg1 | exact Grow.trans ((Grow.refl _).drewN _) hg1
      have HP_1 := Lib.hid (HP_.out.grow hgr1)
      have HL_1 := Lib.hid (HL_.out.grow hgr1)
      have GCH1 := Lib.hid hgr1
      clear hg1 hgr1 HP_ HL_
      rw [HMB.out]
      go_wp2_with fail
      refine Single_any p l x _ _ _ (by first | exact HP_1.out | exact HP_1.out.grow ((Grow.refl _).alloc _) | exact HP_1.out.grow (((Grow.refl _).alloc _).alloc _) | exact HP_1.out.grow ((((Grow.refl _).alloc _).alloc _).alloc _) | exact HP_1.out.grow (((((Grow.refl _).alloc _).alloc _).alloc _).alloc _) | exact HP_1.out.grow ((Grow.refl _).drewN _)) (by first | exact HL_1.out | exact HL_1.out.grow ((Grow.refl _).alloc _) | exact HL_1.out.grow (((Grow.refl _).alloc _).alloc _) | exact HL_1.out.grow ((((Grow.refl _).alloc _).alloc _).alloc _) | exact HL_1.out.grow (((((Grow.refl _).alloc _).alloc _).alloc _).alloc _) | exact HL_1.out.grow ((Grow.refl _).drewN _)) _ ?_
      intro wz2 ea oka hg2 hsa
      have hgr2 : Grow wz1 wz2 := by first | exact hg2 | exact Grow.trans ((Grow.refl _).alloc _) hg2 | exact Grow.trans (((Grow.refl _).alloc _).alloc _) hg2 | exact Grow.trans ((((Grow.refl _).alloc _).alloc _).alloc _) hg2 | exact Grow.trans (((((Grow.refl _).alloc _).alloc _).alloc _).alloc _) hg2 | exact Grow.trans ((Grow.refl _).drewN _) hg2
      have HP_2 := Lib.hid (HP_1.out.grow hgr2)
      have HL_2 := Lib.hid (HL_1.out.grow hgr2)
      have GCH2 := Lib.hid (GCH1.out.trans hgr2)
      clear hg2 hgr2 HP_1 HL_1 GCH1
      have HSA := Lib.hid hsa
      clear hsa
      rw [HE.out]
      obtain ⟨ta0, ta1, ta2, ta3, ta4⟩ := ea
      dsimp only
      go_wp2_with fail
      obtain ⟨wx2, hwb0⟩ : ∃ W, wz2.alloc (.cells #[.int .i64 ta0, .int .i64 ta1, .int .i64 ta2, .int .i64 ta3, .int .i64 ta4] 27) = W := ⟨_, rfl⟩
      rw [hwb0]
      have hgb0 : Grow wz2 wx2 := hwb0 ▸ (Grow.refl wz2).alloc _
      have hbb0 : wx2.heap[wz2.heap.size]? = some (.cells #[.int .i64 ta0, .int .i64 ta1, .int .i64 ta2, .int .i64 ta3, .int .i64 ta4] 27 (0, 0)) := by have h := heap_alloc_new wz2 (.cells #[.int .i64 ta0, .int .i64 ta1, .int .i64 ta2, .int .i64 ta3, .int .i64 ta4] 27); rw [hwb0] at h; exact h
      have hsza : wx2.heap.size = wz2.heap.size + 1 := by rw [← hwb0, World.size_alloc]
      clear hwb0
      have hgr3 : Grow wz2 wx2 := by first | exact hgb0 | exact Grow.trans ((Grow.refl _).alloc _) hgb0 | exact Grow.trans (((Grow.refl _).alloc _).alloc _) hgb0 | exact Grow.trans ((((Grow.refl _).alloc _).alloc _).alloc _) hgb0 | exact Grow.trans (((((Grow.refl _).alloc _).alloc _).alloc _).alloc _) hgb0 | exact Grow.trans ((Grow.refl _).drewN _) hgb0
      have HP_3 := Lib.hid (HP_2.out.grow hgr3)
      have HL_3 := Lib.hid (HL_2.out.grow hgr3)
      have GCH3 := Lib.hid (GCH2.out.trans hgr3)
      clear hgb0 hgr3 HP_2 HL_2 GCH2
      obtain ⟨ea0, ea1, ea2, ea3, ea4⟩ := box5 hbb0
      have za := lt_of_block hbb0
      have HBB0 := Lib.hid hbb0
      clear hbb0
      refine r5Single_any p l x _ _ _ (by first | exact HP_3.out | exact HP_3.out.grow ((Grow.refl _).alloc _) | exact HP_3.out.grow (((Grow.refl _).alloc _).alloc _) | exact HP_3.out.grow ((((Grow.refl _).alloc _).alloc _).alloc _) | exact HP_3.out.grow (((((Grow.refl _).alloc _).alloc _).alloc _).alloc _) | exact HP_3.out.grow ((Grow.refl _).drewN _)) (by first | exact HL_3.out | exact HL_3.out.grow ((Grow.refl _).alloc _) | exact HL_3.out.grow (((Grow.refl _).alloc _).alloc _) | exact HL_3.out.grow ((((Grow.refl _).alloc _).alloc _).alloc _) | exact HL_3.out.grow (((((Grow.refl _).alloc _).alloc _).alloc _).alloc _) | exact HL_3.out.grow ((Grow.refl _).drewN _)) _ ?_
      intro wz4 eb okb hg4 hsb
      have hgr4 : Grow wx2 wz4 := by first | exact hg4 | exact Grow.trans ((Grow.refl _).alloc _) hg4 | exact Grow.trans (((Grow.refl _).alloc _).alloc _) hg4 | exact Grow.trans ((((Grow.refl _).alloc _).alloc _).alloc _) hg4 | exact Grow.trans (((((Grow.refl _).alloc _).alloc _).alloc _).alloc _) hg4 | exact Grow.trans ((Grow.refl _).drewN _) hg4
      have HP_4 := Lib.hid (HP_3.out.grow hgr4)
      have HL_4 := Lib.hid (HL_3.out.grow hgr4)
      have GCH4 := Lib.hid (GCH3.out.trans hgr4)
      have hbx_4 := hgr4.blk HBB0.out
      clear ea0 ea1 ea2 ea3 ea4 za
      obtain ⟨ea0, ea1, ea2, ea3, ea4⟩ := box5 hbx_4
      have za := lt_of_block hbx_4
      have HBX0_4 := Lib.hid hbx_4
      clear hbx_4
      clear hg4 hgr4 HP_3 HL_3 GCH3 HBB0
      obtain ⟨rfl, rfl⟩ := hsb.uniq HSA.out
      clear hsb
      rw [HE.out]
      dsimp only
      cases okb with
      | false =>
        go_wp2_with fail
        obtain ⟨wx4, hwb1⟩ : ∃ W, wz4.alloc (.cells #[.int .i64 ta0, .int .i64 ta1, .int .i64 ta2, .int .i64 ta3, .int .i64 ta4] 27) = W := ⟨_, rfl⟩
        rw [hwb1]
        have hgb1 : Grow wz4 wx4 := hwb1 ▸ (Grow.refl wz4).alloc _
        have hbb1 : wx4.heap[wz4.heap.size]? = some (.cells #[.int .i64 ta0, .int .i64 ta1, .int .i64 ta2, .int .i64 ta3, .int .i64 ta4] 27 (0, 0)) := by have h := heap_alloc_new wz4 (.cells #[.int .i64 ta0, .int .i64 ta1, .int .i64 ta2, .int .i64 ta3, .int .i64 ta4] 27); rw [hwb1] at h; exact h
        have hszb : wx4.heap.size = wz4.heap.size + 1 := by rw [← hwb1, World.size_alloc]
        clear hwb1
        have hgr5 : Grow wz4 wx4 := by first | exact hgb1 | exact Grow.trans ((Grow.refl _).alloc _) hgb1 | exact Grow.trans (((Grow.refl _).alloc _).alloc _) hgb1 | exact Grow.trans ((((Grow.refl _).alloc _).alloc _).alloc _) hgb1 | exact Grow.trans (((((Grow.refl _).alloc _).alloc _).alloc _).alloc _) hgb1 | exact Grow.trans ((Grow.refl _).drewN _) hgb1
        have HP_5 := Lib.hid (HP_4.out.grow hgr5)
        have HL_5 := Lib.hid (HL_4.out.grow hgr5)
        have GCH5 := Lib.hid (GCH4.out.trans hgr5)
        have hbx_5 := hgr5.blk HBX0_4.out
        clear ea0 ea1 ea2 ea3 ea4 za
        obtain ⟨ea0, ea1, ea2, ea3, ea4⟩ := box5 hbx_5
        have za := lt_of_block hbx_5
        have HBX0_5 := Lib.hid hbx_5
        clear hbx_5
        clear hgb1 hgr5 HP_4 HL_4 GCH4 HBX0_4
        obtain ⟨eb0, eb1, eb2, eb3, eb4⟩ := box5 hbb1
        have zb := lt_of_block hbb1
        have HBB1 := Lib.hid hbb1
        clear hbb1
        refine ssane_any _ _ ?_
        intro wz6 hg6 
        have hgr6 : Grow wx4 wz6 := by first | exact hg6 | exact Grow.trans ((Grow.refl _).alloc _) hg6 | exact Grow.trans (((Grow.refl _).alloc _).alloc _) hg6 | exact Grow.trans ((((Grow.refl _).alloc _).alloc _).alloc _) hg6 | exact Grow.trans (((((Grow.refl _).alloc _).alloc _).alloc _).alloc _) hg6 | exact Grow.trans ((Grow.refl _).drewN _) hg6
        have HP_6 := Lib.hid (HP_5.out.grow hgr6)
        have HL_6 := Lib.hid (HL_5.out.grow hgr6)
        have GCH6 := Lib.hid (GCH5.out.trans hgr6)
        have hbx_6 := hgr6.blk HBX0_5.out
        clear ea0 ea1 ea2 ea3 ea4 za
        obtain ⟨ea0, ea1, ea2, ea3, ea4⟩ := box5 hbx_6
        have za := lt_of_block hbx_6
        have HBX0_6 := Lib.hid hbx_6
        clear hbx_6
        have hbx_6 := hgr6.blk HBB1.out
        clear eb0 eb1 eb2 eb3 eb4 zb
        obtain ⟨eb0, eb1, eb2, eb3, eb4⟩ := box5 hbx_6
        have zb := lt_of_block hbx_6
        have HBX1_6 := Lib.hid hbx_6
        clear hbx_6
        clear hg6 hgr6 HP_5 HL_5 GCH5 HBX0_5 HBB1
        go_wp2_with fail
        first | exact HR.out _ (GCH6.out) | exact HR.out _ (Grow.trans GCH6.out ((Grow.refl _).alloc _)) | exact HR.out _ (Grow.trans GCH6.out (((Grow.refl _).alloc _).alloc _)) | exact HR.out _ (Grow.trans GCH6.out ((((Grow.refl _).alloc _).alloc _).alloc _)) | exact HR.out _ (Grow.trans GCH6.out (((((Grow.refl _).alloc _).alloc _).alloc _).alloc _)) | exact HR.out _ (Grow.trans GCH6.out ((Grow.refl _).drewN _))
      | true =>
        go_wp2_with fail
        obtain ⟨wx4, hwb1⟩ : ∃ W, wz4.alloc (.cells #[.int .i64 ta0, .int .i64 ta1, .int .i64 ta2, .int .i64 ta3, .int .i64 ta4] 27) = W := ⟨_, rfl⟩
        rw [hwb1]
        have hgb1 : Grow wz4 wx4 := hwb1 ▸ (Grow.refl wz4).alloc _
        have hbb1 : wx4.heap[wz4.heap.size]? = some (.cells #[.int .i64 ta0, .int .i64 ta1, .int .i64 ta2, .int .i64 ta3, .int .i64 ta4] 27 (0, 0)) := by have h := heap_alloc_new wz4 (.cells #[.int .i64 ta0, .int .i64 ta1, .int .i64 ta2, .int .i64 ta3, .int .i64 ta4] 27); rw [hwb1] at h; exact h
        have hszb : wx4.heap.size = wz4.heap.size + 1 := by rw [← hwb1, World.size_alloc]
        clear hwb1
        have hgr5 : Grow wz4 wx4 := by first | exact hgb1 | exact Grow.trans ((Grow.refl _).alloc _) hgb1 | exact Grow.trans (((Grow.refl _).alloc _).alloc _) hgb1 | exact Grow.trans ((((Grow.refl _).alloc _).alloc _).alloc _) hgb1 | exact Grow.trans (((((Grow.refl _).alloc _).alloc _).alloc _).alloc _) hgb1 | exact Grow.trans ((Grow.refl _).drewN _) hgb1
        have HP_5 := Lib.hid (HP_4.out.grow hgr5)
        have HL_5 := Lib.hid (HL_4.out.grow hgr5)
        have GCH5 := Lib.hid (GCH4.out.trans hgr5)
        have hbx_5 := hgr5.blk HBX0_4.out
        clear ea0 ea1 ea2 ea3 ea4 za
        obtain ⟨ea0, ea1, ea2, ea3, ea4⟩ := box5 hbx_5
        have za := lt_of_block hbx_5
        have HBX0_5 := Lib.hid hbx_5
        clear hbx_5
        clear hgb1 hgr5 HP_4 HL_4 GCH4 HBX0_4
        obtain ⟨eb0, eb1, eb2, eb3, eb4⟩ := box5 hbb1
        have zb := lt_of_block hbb1
        have HBB1 := Lib.hid hbb1
        clear hbb1
        obtain ⟨g1, g2, g3⟩ := sngl_good HSA.out
        have HG1 := Lib.hid g1
        have HG3 := Lib.hid g3
        have HIG := Lib.hid (show (decide (chkX p [(⟨ta0, ta1, ta2, ta3, ta4⟩ : Ed)] l = 0) && goodM p [⟨ta0, ta1, ta2, ta3, ta4⟩] l) = true by rw [g1, g2]; rfl)
        clear g1 g2 g3
        obtain ⟨sn, hsn⟩ : ∃ z, sizeE p [(⟨ta0, ta1, ta2, ta3, ta4⟩ : Ed)] = z := ⟨_, rfl⟩
        have HSN := Lib.hid hsn
        clear hsn
        have hlit := edits_lit wx4 ta0 ta1 ta2 ta3 ta4 27
        rw [hszb] at hlit
        have HLITb := Lib.hid hlit
        clear hlit hszb
        refine IsGood_any p [⟨ta0, ta1, ta2, ta3, ta4⟩] l _ _ _ _ (by first | exact HP_5.out | exact HP_5.out.grow ((Grow.refl _).alloc _) | exact HP_5.out.grow (((Grow.refl _).alloc _).alloc _) | exact HP_5.out.grow ((((Grow.refl _).alloc _).alloc _).alloc _) | exact HP_5.out.grow (((((Grow.refl _).alloc _).alloc _).alloc _).alloc _) | exact HP_5.out.grow ((Grow.refl _).drewN _)) HLITb.out (by first | exact HL_5.out | exact HL_5.out.grow ((Grow.refl _).alloc _) | exact HL_5.out.grow (((Grow.refl _).alloc _).alloc _) | exact HL_5.out.grow ((((Grow.refl _).alloc _).alloc _).alloc _) | exact HL_5.out.grow (((((Grow.refl _).alloc _).alloc _).alloc _).alloc _) | exact HL_5.out.grow ((Grow.refl _).drewN _)) _ ?_
        intro wz6 hg6 
        have hgr6 : Grow wx4 wz6 := by first | exact hg6 | exact Grow.trans ((Grow.refl _).alloc _) hg6 | exact Grow.trans (((Grow.refl _).alloc _).alloc _) hg6 | exact Grow.trans ((((Grow.refl _).alloc _).alloc _).alloc _) hg6 | exact Grow.trans (((((Grow.refl _).alloc _).alloc _).alloc _).alloc _) hg6 | exact Grow.trans ((Grow.refl _).drewN _) hg6
        have HP_6 := Lib.hid (HP_5.out.grow hgr6)
        have HL_6 := Lib.hid (HL_5.out.grow hgr6)
        have GCH6 := Lib.hid (GCH5.out.trans hgr6)
        have hbx_6 := hgr6.blk HBX0_5.out
        clear ea0 ea1 ea2 ea3 ea4 za
        obtain ⟨ea0, ea1, ea2, ea3, ea4⟩ := box5 hbx_6
        have za := lt_of_block hbx_6
        have HBX0_6 := Lib.hid hbx_6
        clear hbx_6
        have hbx_6 := hgr6.blk HBB1.out
        clear eb0 eb1 eb2 eb3 eb4 zb
        obtain ⟨eb0, eb1, eb2, eb3, eb4⟩ := box5 hbx_6
        have zb := lt_of_block hbx_6
        have HBX1_6 := Lib.hid hbx_6
        clear hbx_6
        clear hg6 hgr6 HP_5 HL_5 GCH5 HBX0_5 HBB1
        rw [HIG.out, HG1.out]
        go_wp2_with fail
        refine Single_any p l 2 _ _ _ (by first | exact HP_6.out | exact HP_6.out.grow ((Grow.refl _).alloc _) | exact HP_6.out.grow (((Grow.refl _).alloc _).alloc _) | exact HP_6.out.grow ((((Grow.refl _).alloc _).alloc _).alloc _) | exact HP_6.out.grow (((((Grow.refl _).alloc _).alloc _).alloc _).alloc _) | exact HP_6.out.grow ((Grow.refl _).drewN _)) (by first | exact HL_6.out | exact HL_6.out.grow ((Grow.refl _).alloc _) | exact HL_6.out.grow (((Grow.refl _).alloc _).alloc _) | exact HL_6.out.grow ((((Grow.refl _).alloc _).alloc _).alloc _) | exact HL_6.out.grow (((((Grow.refl _).alloc _).alloc _).alloc _).alloc _) | exact HL_6.out.grow ((Grow.refl _).drewN _)) _ ?_
        intro wz7 ec okc hg7 hsc
        have hgr7 : Grow wz6 wz7 := by first | exact hg7 | exact Grow.trans ((Grow.refl _).alloc _) hg7 | exact Grow.trans (((Grow.refl _).alloc _).alloc _) hg7 | exact Grow.trans ((((Grow.refl _).alloc _).alloc _).alloc _) hg7 | exact Grow.trans (((((Grow.refl _).alloc _).alloc _).alloc _).alloc _) hg7 | exact Grow.trans ((Grow.refl _).drewN _) hg7
        have HP_7 := Lib.hid (HP_6.out.grow hgr7)
        have HL_7 := Lib.hid (HL_6.out.grow hgr7)
        have GCH7 := Lib.hid (GCH6.out.trans hgr7)
        have hbx_7 := hgr7.blk HBX0_6.out
        clear ea0 ea1 ea2 ea3 ea4 za
        obtain ⟨ea0, ea1, ea2, ea3, ea4⟩ := box5 hbx_7
        have za := lt_of_block hbx_7
        have HBX0_7 := Lib.hid hbx_7
        clear hbx_7
        have hbx_7 := hgr7.blk HBX1_6.out
        clear eb0 eb1 eb2 eb3 eb4 zb
        obtain ⟨eb0, eb1, eb2, eb3, eb4⟩ := box5 hbx_7
        have zb := lt_of_block hbx_7
        have HBX1_7 := Lib.hid hbx_7
        clear hbx_7
        clear hg7 hgr7 HP_6 HL_6 GCH6 HBX0_6 HBX1_6
        obtain ⟨rfl, hs2, hle⟩ := sngl_two HSA.out hsc
        rw [hs2]
        obtain ⟨_, _, g3⟩ := sngl_good hsc
        have HG3C := Lib.hid g3
        clear g3 hs2 hsc
        obtain ⟨tc0, tc1, tc2, tc3, tc4⟩ := ec
        dsimp only
        obtain ⟨sm, hsm⟩ : ∃ z, sizeE p [(⟨tc0, tc1, tc2, tc3, tc4⟩ : Ed)] = z := ⟨_, rfl⟩
        have HSM := Lib.hid hsm
        have hmn : sm ≤ sn := by rw [← hsm, ← HSN.out]; exact hle
        clear hsm hle
        go_wp2_with fail
        obtain ⟨wx7, hwb2⟩ : ∃ W, wz7.alloc (.cells #[.int .i64 tc0, .int .i64 tc1, .int .i64 tc2, .int .i64 tc3, .int .i64 tc4] 27) = W := ⟨_, rfl⟩
        rw [hwb2]
        have hgb2 : Grow wz7 wx7 := hwb2 ▸ (Grow.refl wz7).alloc _
        have hbb2 : wx7.heap[wz7.heap.size]? = some (.cells #[.int .i64 tc0, .int .i64 tc1, .int .i64 tc2, .int .i64 tc3, .int .i64 tc4] 27 (0, 0)) := by have h := heap_alloc_new wz7 (.cells #[.int .i64 tc0, .int .i64 tc1, .int .i64 tc2, .int .i64 tc3, .int .i64 tc4] 27); rw [hwb2] at h; exact h
        have hszc : wx7.heap.size = wz7.heap.size + 1 := by rw [← hwb2, World.size_alloc]
        clear hwb2
        have hgr8 : Grow wz7 wx7 := by first | exact hgb2 | exact Grow.trans ((Grow.refl _).alloc _) hgb2 | exact Grow.trans (((Grow.refl _).alloc _).alloc _) hgb2 | exact Grow.trans ((((Grow.refl _).alloc _).alloc _).alloc _) hgb2 | exact Grow.trans (((((Grow.refl _).alloc _).alloc _).alloc _).alloc _) hgb2 | exact Grow.trans ((Grow.refl _).drewN _) hgb2
        have HP_8 := Lib.hid (HP_7.out.grow hgr8)
        have HL_8 := Lib.hid (HL_7.out.grow hgr8)
        have GCH8 := Lib.hid (GCH7.out.trans hgr8)
        have hbx_8 := hgr8.blk HBX0_7.out
        clear ea0 ea1 ea2 ea3 ea4 za
        obtain ⟨ea0, ea1, ea2, ea3, ea4⟩ := box5 hbx_8
        have za := lt_of_block hbx_8
        have HBX0_8 := Lib.hid hbx_8
        clear hbx_8
        have hbx_8 := hgr8.blk HBX1_7.out
        clear eb0 eb1 eb2 eb3 eb4 zb
        obtain ⟨eb0, eb1, eb2, eb3, eb4⟩ := box5 hbx_8
        have zb := lt_of_block hbx_8
        have HBX1_8 := Lib.hid hbx_8
        clear hbx_8
        clear hgb2 hgr8 HP_7 HL_7 GCH7 HBX0_7 HBX1_7
        obtain ⟨ec0, ec1, ec2, ec3, ec4⟩ := box5 hbb2
        have zc := lt_of_block hbb2
        have HBB2 := Lib.hid hbb2
        clear hbb2
        have hlit := edits_lit wx7 ta0 ta1 ta2 ta3 ta4 27
        rw [hszc] at hlit
        have HLITc := Lib.hid hlit
        clear hlit hszc
        refine Size_any p [⟨ta0, ta1, ta2, ta3, ta4⟩] _ _ _ (by first | exact HP_8.out | exact HP_8.out.grow ((Grow.refl _).alloc _) | exact HP_8.out.grow (((Grow.refl _).alloc _).alloc _) | exact HP_8.out.grow ((((Grow.refl _).alloc _).alloc _).alloc _) | exact HP_8.out.grow (((((Grow.refl _).alloc _).alloc _).alloc _).alloc _) | exact HP_8.out.grow ((Grow.refl _).drewN _)) HLITc.out _ ?_
        intro wz9 hg9 
        have hgr9 : Grow wx7 wz9 := by first | exact hg9 | exact Grow.trans ((Grow.refl _).alloc _) hg9 | exact Grow.trans (((Grow.refl _).alloc _).alloc _) hg9 | exact Grow.trans ((((Grow.refl _).alloc _).alloc _).alloc _) hg9 | exact Grow.trans (((((Grow.refl _).alloc _).alloc _).alloc _).alloc _) hg9 | exact Grow.trans ((Grow.refl _).drewN _) hg9
        have HP_9 := Lib.hid (HP_8.out.grow hgr9)
        have HL_9 := Lib.hid (HL_8.out.grow hgr9)
        have GCH9 := Lib.hid (GCH8.out.trans hgr9)
        have hbx_9 := hgr9.blk HBX0_8.out
        clear ea0 ea1 ea2 ea3 ea4 za
        obtain ⟨ea0, ea1, ea2, ea3, ea4⟩ := box5 hbx_9
        have za := lt_of_block hbx_9
        have HBX0_9 := Lib.hid hbx_9
        clear hbx_9
        have hbx_9 := hgr9.blk HBX1_8.out
        clear eb0 eb1 eb2 eb3 eb4 zb
        obtain ⟨eb0, eb1, eb2, eb3, eb4⟩ := box5 hbx_9
        have zb := lt_of_block hbx_9
        have HBX1_9 := Lib.hid hbx_9
        clear hbx_9
        have hbx_9 := hgr9.blk HBB2.out
        clear ec0 ec1 ec2 ec3 ec4 zc
        obtain ⟨ec0, ec1, ec2, ec3, ec4⟩ := box5 hbx_9
        have zc := lt_of_block hbx_9
        have HBX2_9 := Lib.hid hbx_9
        clear hbx_9
        clear hg9 hgr9 HP_8 HL_8 GCH8 HBX0_8 HBX1_8 HBB2
        rw [HSN.out, HG3.out]
        go_wp2_with fail
        refine Size_any p [⟨tc0, tc1, tc2, tc3, tc4⟩] _ _ _ (by first | exact HP_9.out | exact HP_9.out.grow ((Grow.refl _).alloc _) | exact HP_9.out.grow (((Grow.refl _).alloc _).alloc _) | exact HP_9.out.grow ((((Grow.refl _).alloc _).alloc _).alloc _) | exact HP_9.out.grow (((((Grow.refl _).alloc _).alloc _).alloc _).alloc _) | exact HP_9.out.grow ((Grow.refl _).drewN _)) (edits_lit _ _ _ _ _ _ _) _ ?_
        intro wz10 hg10 
        have hgr10 : Grow wz9 wz10 := by first | exact hg10 | exact Grow.trans ((Grow.refl _).alloc _) hg10 | exact Grow.trans (((Grow.refl _).alloc _).alloc _) hg10 | exact Grow.trans ((((Grow.refl _).alloc _).alloc _).alloc _) hg10 | exact Grow.trans (((((Grow.refl _).alloc _).alloc _).alloc _).alloc _) hg10 | exact Grow.trans ((Grow.refl _).drewN _) hg10
        have HP_10 := Lib.hid (HP_9.out.grow hgr10)
        have HL_10 := Lib.hid (HL_9.out.grow hgr10)
        have GCH10 := Lib.hid (GCH9.out.trans hgr10)
        have hbx_10 := hgr10.blk HBX0_9.out
        clear ea0 ea1 ea2 ea3 ea4 za
        obtain ⟨ea0, ea1, ea2, ea3, ea4⟩ := box5 hbx_10
        have za := lt_of_block hbx_10
        have HBX0_10 := Lib.hid hbx_10
        clear hbx_10
        have hbx_10 := hgr10.blk HBX1_9.out
        clear eb0 eb1 eb2 eb3 eb4 zb
        obtain ⟨eb0, eb1, eb2, eb3, eb4⟩ := box5 hbx_10
        have zb := lt_of_block hbx_10
        have HBX1_10 := Lib.hid hbx_10
        clear hbx_10
        have hbx_10 := hgr10.blk HBX2_9.out
        clear ec0 ec1 ec2 ec3 ec4 zc
        obtain ⟨ec0, ec1, ec2, ec3, ec4⟩ := box5 hbx_10
        have zc := lt_of_block hbx_10
        have HBX2_10 := Lib.hid hbx_10
        clear hbx_10
        clear hg10 hgr10 HP_9 HL_9 GCH9 HBX0_9 HBX1_9 HBX2_9
        rw [HSM.out, HG3C.out]
        go_wp2_with fail
        refine ssane_any _ _ ?_
        intro wz11 hg11 
        have hgr11 : Grow wz10 wz11 := by first | exact hg11 | exact Grow.trans ((Grow.refl _).alloc _) hg11 | exact Grow.trans (((Grow.refl _).alloc _).alloc _) hg11 | exact Grow.trans ((((Grow.refl _).alloc _).alloc _).alloc _) hg11 | exact Grow.trans (((((Grow.refl _).alloc _).alloc _).alloc _).alloc _) hg11 | exact Grow.trans ((Grow.refl _).drewN _) hg11
        have HP_11 := Lib.hid (HP_10.out.grow hgr11)
        have HL_11 := Lib.hid (HL_10.out.grow hgr11)
        have GCH11 := Lib.hid (GCH10.out.trans hgr11)
        have hbx_11 := hgr11.blk HBX0_10.out
        clear ea0 ea1 ea2 ea3 ea4 za
        obtain ⟨ea0, ea1, ea2, ea3, ea4⟩ := box5 hbx_11
        have za := lt_of_block hbx_11
        have HBX0_11 := Lib.hid hbx_11
        clear hbx_11
        have hbx_11 := hgr11.blk HBX1_10.out
        clear eb0 eb1 eb2 eb3 eb4 zb
        obtain ⟨eb0, eb1, eb2, eb3, eb4⟩ := box5 hbx_11
        have zb := lt_of_block hbx_11
        have HBX1_11 := Lib.hid hbx_11
        clear hbx_11
        have hbx_11 := hgr11.blk HBX2_10.out
        clear ec0 ec1 ec2 ec3 ec4 zc
        obtain ⟨ec0, ec1, ec2, ec3, ec4⟩ := box5 hbx_11
        have zc := lt_of_block hbx_11
        have HBX2_11 := Lib.hid hbx_11
        clear hbx_11
        clear hg11 hgr11 HP_10 HL_10 GCH10 HBX0_10 HBX1_10 HBX2_10
        go_wp2_with fail
        first | exact HR.out _ (GCH11.out) | exact HR.out _ (Grow.trans GCH11.out ((Grow.refl _).alloc _)) | exact HR.out _ (Grow.trans GCH11.out (((Grow.refl _).alloc _).alloc _)) | exact HR.out _ (Grow.trans GCH11.out ((((Grow.refl _).alloc _).alloc _).alloc _)) | exact HR.out _ (Grow.trans GCH11.out (((((Grow.refl _).alloc _).alloc _).alloc _).alloc _)) | exact HR.out _ (Grow.trans GCH11.out ((Grow.refl _).drewN _))
end Go.Proofs.YtbccbokjecdaaaaGreat

namespace Go.Proofs.YtbccbokjecdaaaaGreat
open Go.ChangeShapes Go.WideShapes Go.ChangeAt Go.RowKit

theorem Tryz.own : ownKnob Tryz.prog.godebug = none := by kernel_rfl
theorem Tryz.laidOut : laidOutB Tryz.prog = true := by kernel_rfl

set_option maxRecDepth 100000 in
set_option maxHeartbeats 4000000 in
theorem seekSingles_lifted (os : Os) (started : os.Started) (H : Type) (enc : TypeId × Value → H) :
    ReturnsInHanded {} Tryz.checked os 9 .any (Rows.seekSinglesSpec.pre6 enc Tryz.prog Tryz.f9 Rows.seekSinglesRow.domain false) (Rows.seekSinglesSpec.post enc Tryz.prog Tryz.f9 false true false false) := by
  refine returnsInHanded_of_change (C := Tryz.checked) Tryz.own started (by kernel_rfl) Tryz.func9
    (ChangeSpec.witness6 (enc := enc) (C := Tryz.checked) false ⟨#[], #[.slice none 0 0, .slice none 0 0, .int .i64 0], []⟩ 8 (by kernel_rfl) (by kernel_rfl) (by kernel_rfl) (by kernel_rfl)) ?_
  intro W base args ds gs before hval0 hW hcnd _
  have hval : ∀ (j : Nat) t v, Tryz.f9.params[j]? = some t → args[j]? = some v → Value.okWide Tryz.prog W .any base t v := hval0
  have hW' := hW
  obtain ⟨p, q, hA0, hV, rfl, hfz, hnd⟩ := hW
  have hA : DataW.TrodAll enc Tryz.prog W 0 (fun _ => true) true Tryz.f9.params.toList args.toList ds p := hA0
  rw [Tryz.params9] at hA hval
  obtain ⟨v0, v1, v2, d0, d1, d2, p0, p1, p2, rfl, rfl, rfl, h0, h1, h2⟩ := trodAll_three hA
  obtain ⟨rfl, rfl⟩ := trodVars_none hV
  have hk0 := h0
  have hk1 := h1
  have hk2 := h2
  obtain ⟨x0, hx0⟩ := arg_lines (hval 0 22 v0 rfl rfl) h0
  obtain ⟨x1, hx1⟩ := arg_tests (hval 1 23 v1 rfl rfl) h1
  obtain ⟨x2, rfl, _, _, wx2⟩ := open_int Tryz.underlying3 (hval 2 3 v2 rfl rfl) h2
  clear hA0 hval0
  refine Calls.mono (seekSingles_any x0 x1 x2 W v0 v1 hx0 hx1 (fun e W' => e = .returned (.bool true) ∧ Grow W W') (fun W' hg => ⟨rfl, hg⟩)) fun e W' ⟨he, hB⟩ => ?_
  subst he
  have hlt0 : ∀ x ∈ p0, x.block < W.heap.size := fun x hx => hW'.lt x (List.mem_append_left _ (List.mem_append_left _ (List.mem_append_left _ (hx))))
  have ht0 := Below.trod Tryz.laidOut (by kernel_rfl) (of_decide_eq_true (by kernel_rfl)) hk0 hB hlt0
  have hlt1 : ∀ x ∈ p1, x.block < W.heap.size := fun x hx => hW'.lt x (List.mem_append_left _ (List.mem_append_left _ (List.mem_append_right _ hx)))
  have ht1 := Below.trod Tryz.laidOut (by kernel_rfl) (of_decide_eq_true (by kernel_rfl)) hk1 hB hlt1
  have hlt2 : ∀ x ∈ p2, x.block < W.heap.size := fun x hx => hW'.lt x (List.mem_append_left _ (List.mem_append_right _ hx))
  have ht2 := Below.trod Tryz.laidOut (by kernel_rfl) (of_decide_eq_true (by kernel_rfl)) hk2 hB hlt2
  exact ⟨_, rfl, _, _, _, [], _, [], hW', trodAll_mk1 (shut_bool Tryz.underlying4 true), trodAll_mk3 ht0 ht1 ht2, rfl, hB.frame _, fun h => by cases h⟩

theorem seekSingles_holds : Rows.SeekSinglesSaid :=
  OpenClaim.holds_of_wide 9 Tryz.f9 rfl rfl rfl rfl rfl rfl rfl ⟨rfl, rfl, rfl, rfl, rfl⟩ rfl rfl rfl rfl rfl (by kernel_rfl) Tryz.func9 (by kernel_rfl)
    (of_decide_eq_true (by kernel_rfl)) (by unfold Func.isWrapper; first | (rw [if_pos (by decide +kernel)]; kernel_rfl) | (rw [if_neg (by decide +kernel)]; exact ⟨rfl, rfl⟩))
    (fun os started H enc _ => seekSingles_lifted os started H enc)

end Go.Proofs.YtbccbokjecdaaaaGreat
