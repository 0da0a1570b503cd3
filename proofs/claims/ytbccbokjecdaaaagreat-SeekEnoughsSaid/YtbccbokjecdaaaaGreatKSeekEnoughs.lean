/-
The statement SeekEnoughs: the smallest set of tests that kills all mutants that some test kills is what the document says, and with these tests the same mutants are left alive, for all programs and tests. No condition.
-/
import Derived.Test.YtbccbokjecdaaaaGreatC10
import Derived.Test.YtbccbokjecdaaaaGreatC11
import Derived.Test.YtbccbokjecdaaaaGreatC26
import Derived.Test.YtbccbokjecdaaaaGreatC27
import Derived.ProofKit
import Derived.Lib.SmallJoins
import Derived.Test.YtbccbokjecdaaaaGreatC25
namespace Go.Proofs.YtbccbokjecdaaaaGreat
open Go.RowKit

theorem info_ts : (Tryz.prog.info? 50).map (fun i => (i.zero, i.size, i.bytes)) = some (some (.agg #[.slice none 0 0, .int .i64 0, .int .i64 0]), 3, 40) := by kernel_rfl
/-- A test whose list is a slice value. -/
structure Tq where
  a : Option Addr
  n : Nat
  c : Nat
  xs : List Int
  o : Int
  wt : Int
def Tq.t (q : Tq) : Tst := ⟨.slice q.a q.n q.c, q.xs, q.o, q.wt⟩
def encTq (q : Tq) : List Value := [.slice q.a q.n q.c, .int .i64 q.o, .int .i64 q.wt]
theorem encTq_len (q : Tq) : (encTq q).length = 3 := rfl
theorem encTq_one (q : Tq) : ∀ u ∈ encTq q, u.oneCell' = true := by
  intro u hu
  unfold encTq at hu
  simp only [List.mem_cons, List.not_mem_nil, or_false] at hu
  rcases hu with rfl | rfl | rfl <;> rfl
theorem tests_of {w : World} {v : Value} {Q : List Tq} {ts : List Tst} (h : SlcAt 3 encTq w v Q) (hq : Q.map Tq.t = ts) (hi : ∀ t ∈ ts, IntsAt w t.v t.xs) : TestsAt w v ts := by
  refine ⟨?_, hi⟩
  subst hq
  obtain ⟨a, c, rfl, h1, h2, h3⟩ := h
  refine ⟨a, c, by rw [List.length_map], by rw [List.length_map]; exact h1, h2, ?_⟩
  rcases h3 with ⟨rfl, h3⟩ | ⟨b, o, rfl, hb, h3⟩
  · exact .inl ⟨rfl, h3⟩
  · refine .inr ⟨b, o, rfl, hb, fun j x hx i u hu => ?_⟩
    rw [List.getElem?_map] at hx
    cases hj : Q[j]? with
    | none => rw [hj] at hx; cases hx
    | some t => rw [hj] at hx; cases hx; exact h3 j t hj i u hu
theorem few_mem {ts : List Tst} {l : List Int} {t : Tst} (h : t ∈ fewT ts l) : t ∈ ts := by
  unfold fewT at h
  obtain ⟨i, _, hi⟩ := List.mem_filterMap.1 h
  exact List.mem_of_getElem? hi

set_option maxRecDepth 100000 in
set_option maxHeartbeats 32000000 in
theorem seekEnoughs_any (p : List Ln) (l : List Tst) (w : World) (vp vl : Value) (hp : LinesAt w vp p) (hl : TestsAt w vl l) (R : Ending → World → Prop) (hR : ∀ w', Grow w w' → R (.returned (.bool true)) w') :
    Calls Tryz.prog 5 #[vp, vl] w R := by
  have HR := Lib.hid hR
  have HP_ := Lib.hid hp
  obtain ⟨adp, cpp, rfl, qp1, qp2, _⟩ := hp
  have HL_ := Lib.hid hl
  obtain ⟨⟨adl, cpl, rfl, ql1, ql2, _⟩, _⟩ := hl
  clear hR
  by_cases gd0 : 100 < p.length
  · have hd0 : decide (100 < p.length) = true := decide_eq_true gd0
    have HD0 := Lib.hid hd0
    clear hd0 gd0
    go_enter Tryz.func5, Tryz.ntmps5
    go_wp2_with fail
    refine long4_any p _ _ (by first | exact HP_.out | exact HP_.out.grow ((Grow.refl _).alloc _) | exact HP_.out.grow (((Grow.refl _).alloc _).alloc _) | exact HP_.out.grow ((((Grow.refl _).alloc _).alloc _).alloc _) | exact HP_.out.grow (((((Grow.refl _).alloc _).alloc _).alloc _).alloc _) | exact HP_.out.grow ((Grow.refl _).drewN _)) _ ?_
    rw [HD0.out]
    go_wp2_with fail
    refine ssame_any _ _ ?_
    intro wz1 hg1 
    have hgr1 : Grow w wz1 := by first | exact hg1 | exact Grow.trans ((Grow.refl _).alloc _) hg1 | exact Grow.trans (((Grow.refl _).alloc _).alloc _) hg1 | exact Grow.trans ((((Grow.refl _).alloc _).alloc _).alloc _) hg1 | exact Grow.trans (((((Grow.refl _).alloc _).alloc _).alloc _).alloc _) hg1 | exact Grow.trans ((Grow.refl _).drewN _) hg1
    have HP_1 := Lib.hid (HP_.out.grow hgr1)
    have HL_1 := Lib.hid (HL_.out.grow hgr1)
    have GCH1 := Lib.hid hgr1
    clear hg1 hgr1 HP_ HL_
    go_wp2_with fail
    first | exact HR.out _ (GCH1.out) | exact HR.out _ (Grow.trans GCH1.out ((Grow.refl _).alloc _)) | exact HR.out _ (Grow.trans GCH1.out (((Grow.refl _).alloc _).alloc _)) | exact HR.out _ (Grow.trans GCH1.out ((((Grow.refl _).alloc _).alloc _).alloc _)) | exact HR.out _ (Grow.trans GCH1.out (((((Grow.refl _).alloc _).alloc _).alloc _).alloc _)) | exact HR.out _ (Grow.trans GCH1.out ((Grow.refl _).drewN _))
  · have hd0 : decide (100 < p.length) = false := decide_eq_false gd0
    have HD0 := Lib.hid hd0
    clear hd0
    obtain ⟨mb, hmb⟩ : ∃ z, manyB l = z := ⟨_, rfl⟩
    have HMB := Lib.hid hmb
    clear hmb
    cases mb with
    | true =>
      go_enter Tryz.func5, Tryz.ntmps5
      go_wp2_with fail
      refine long4_any p _ _ (by first | exact HP_.out | exact HP_.out.grow ((Grow.refl _).alloc _) | exact HP_.out.grow (((Grow.refl _).alloc _).alloc _) | exact HP_.out.grow ((((Grow.refl _).alloc _).alloc _).alloc _) | exact HP_.out.grow (((((Grow.refl _).alloc _).alloc _).alloc _).alloc _) | exact HP_.out.grow ((Grow.refl _).drewN _)) _ ?_
      rw [HD0.out]
      go_wp2_with fail
      refine many_any l _ _ (by first | exact HL_.out | exact HL_.out.grow ((Grow.refl _).alloc _) | exact HL_.out.grow (((Grow.refl _).alloc _).alloc _) | exact HL_.out.grow ((((Grow.refl _).alloc _).alloc _).alloc _) | exact HL_.out.grow (((((Grow.refl _).alloc _).alloc _).alloc _).alloc _) | exact HL_.out.grow ((Grow.refl _).drewN _)) _ ?_
      intro wz1 hg1 
      have hgr1 : Grow w wz1 := by first | exact hg1 | exact Grow.trans ((Grow.refl _).alloc _) hg1 | exact Grow.trans (((Grow.refl _).alloc _).alloc _) hg1 | exact Grow.trans ((((Grow.refl _).alloc _).alloc _).alloc _) hg1 | exact Grow.trans (((((Grow.refl _).alloc _).alloc _).alloc _).alloc _) hg1 | exact Grow.trans ((Grow.refl _).drewN _) hg1
      have HP_1 := Lib.hid (HP_.out.grow hgr1)
      have HL_1 := Lib.hid (HL_.out.grow hgr1)
      have GCH1 := Lib.hid hgr1
      clear hg1 hgr1 HP_ HL_
      rw [HMB.out]
      go_wp2_with fail
      refine ssame_any _ _ ?_
      intro wz2 hg2 
      have hgr2 : Grow wz1 wz2 := by first | exact hg2 | exact Grow.trans ((Grow.refl _).alloc _) hg2 | exact Grow.trans (((Grow.refl _).alloc _).alloc _) hg2 | exact Grow.trans ((((Grow.refl _).alloc _).alloc _).alloc _) hg2 | exact Grow.trans (((((Grow.refl _).alloc _).alloc _).alloc _).alloc _) hg2 | exact Grow.trans ((Grow.refl _).drewN _) hg2
      have HP_2 := Lib.hid (HP_1.out.grow hgr2)
      have HL_2 := Lib.hid (HL_1.out.grow hgr2)
      have GCH2 := Lib.hid (GCH1.out.trans hgr2)
      clear hg2 hgr2 HP_1 HL_1 GCH1
      go_wp2_with fail
      first | exact HR.out _ (GCH2.out) | exact HR.out _ (Grow.trans GCH2.out ((Grow.refl _).alloc _)) | exact HR.out _ (Grow.trans GCH2.out (((Grow.refl _).alloc _).alloc _)) | exact HR.out _ (Grow.trans GCH2.out ((((Grow.refl _).alloc _).alloc _).alloc _)) | exact HR.out _ (Grow.trans GCH2.out (((((Grow.refl _).alloc _).alloc _).alloc _).alloc _)) | exact HR.out _ (Grow.trans GCH2.out ((Grow.refl _).drewN _))
    | false =>
      obtain ⟨e, he⟩ : ∃ z, chkT p l = z := ⟨_, rfl⟩
      have HE := Lib.hid he
      obtain ⟨A, hA⟩ : ∃ z, enO p l = z := ⟨_, rfl⟩
      have HAA := Lib.hid hA
      have t2 : (e != e) = false := by simp
      by_cases h0 : e = 0
      rotate_left
      · have t1 : (e != 0) = true := by simpa using h0
        clear h0 hA he
        go_enter Tryz.func5, Tryz.ntmps5
        go_wp2_with fail
        refine long4_any p _ _ (by first | exact HP_.out | exact HP_.out.grow ((Grow.refl _).alloc _) | exact HP_.out.grow (((Grow.refl _).alloc _).alloc _) | exact HP_.out.grow ((((Grow.refl _).alloc _).alloc _).alloc _) | exact HP_.out.grow (((((Grow.refl _).alloc _).alloc _).alloc _).alloc _) | exact HP_.out.grow ((Grow.refl _).drewN _)) _ ?_
        rw [HD0.out]
        go_wp2_with fail
        refine many_any l _ _ (by first | exact HL_.out | exact HL_.out.grow ((Grow.refl _).alloc _) | exact HL_.out.grow (((Grow.refl _).alloc _).alloc _) | exact HL_.out.grow ((((Grow.refl _).alloc _).alloc _).alloc _) | exact HL_.out.grow (((((Grow.refl _).alloc _).alloc _).alloc _).alloc _) | exact HL_.out.grow ((Grow.refl _).drewN _)) _ ?_
        intro wz1 hg1 
        have hgr1 : Grow w wz1 := by first | exact hg1 | exact Grow.trans ((Grow.refl _).alloc _) hg1 | exact Grow.trans (((Grow.refl _).alloc _).alloc _) hg1 | exact Grow.trans ((((Grow.refl _).alloc _).alloc _).alloc _) hg1 | exact Grow.trans (((((Grow.refl _).alloc _).alloc _).alloc _).alloc _) hg1 | exact Grow.trans ((Grow.refl _).drewN _) hg1
        have HP_1 := Lib.hid (HP_.out.grow hgr1)
        have HL_1 := Lib.hid (HL_.out.grow hgr1)
        have GCH1 := Lib.hid hgr1
        clear hg1 hgr1 HP_ HL_
        rw [HMB.out]
        go_wp2_with fail
        refine Enough_any p l _ _ _ (by first | exact HP_1.out | exact HP_1.out.grow ((Grow.refl _).alloc _) | exact HP_1.out.grow (((Grow.refl _).alloc _).alloc _) | exact HP_1.out.grow ((((Grow.refl _).alloc _).alloc _).alloc _) | exact HP_1.out.grow (((((Grow.refl _).alloc _).alloc _).alloc _).alloc _) | exact HP_1.out.grow ((Grow.refl _).drewN _)) (by first | exact HL_1.out | exact HL_1.out.grow ((Grow.refl _).alloc _) | exact HL_1.out.grow (((Grow.refl _).alloc _).alloc _) | exact HL_1.out.grow ((((Grow.refl _).alloc _).alloc _).alloc _) | exact HL_1.out.grow (((((Grow.refl _).alloc _).alloc _).alloc _).alloc _) | exact HL_1.out.grow ((Grow.refl _).drewN _)) _ ?_
        intro wz2 x2_0 hg2 hx2_0
        have hgr2 : Grow wz1 wz2 := by first | exact hg2 | exact Grow.trans ((Grow.refl _).alloc _) hg2 | exact Grow.trans (((Grow.refl _).alloc _).alloc _) hg2 | exact Grow.trans ((((Grow.refl _).alloc _).alloc _).alloc _) hg2 | exact Grow.trans (((((Grow.refl _).alloc _).alloc _).alloc _).alloc _) hg2 | exact Grow.trans ((Grow.refl _).drewN _) hg2
        have HP_2 := Lib.hid (HP_1.out.grow hgr2)
        have HL_2 := Lib.hid (HL_1.out.grow hgr2)
        have GCH2 := Lib.hid (GCH1.out.trans hgr2)
        clear hg2 hgr2 HP_1 HL_1 GCH1
        rw [HAA.out] at hx2_0
        have hyHXA_2 := hx2_0
        have HXA_2 := Lib.hid hyHXA_2
        obtain ⟨aHXA_2, cHXA_2, rfl, qHXA_21, qHXA_22, _⟩ := hyHXA_2
        clear hx2_0
        rw [HE.out]
        go_wp2_with fail
        refine r5Enough_any p l _ _ _ (by first | exact HP_2.out | exact HP_2.out.grow ((Grow.refl _).alloc _) | exact HP_2.out.grow (((Grow.refl _).alloc _).alloc _) | exact HP_2.out.grow ((((Grow.refl _).alloc _).alloc _).alloc _) | exact HP_2.out.grow (((((Grow.refl _).alloc _).alloc _).alloc _).alloc _) | exact HP_2.out.grow ((Grow.refl _).drewN _)) (by first | exact HL_2.out | exact HL_2.out.grow ((Grow.refl _).alloc _) | exact HL_2.out.grow (((Grow.refl _).alloc _).alloc _) | exact HL_2.out.grow ((((Grow.refl _).alloc _).alloc _).alloc _) | exact HL_2.out.grow (((((Grow.refl _).alloc _).alloc _).alloc _).alloc _) | exact HL_2.out.grow ((Grow.refl _).drewN _)) _ ?_
        intro wz3 x3_0 hg3 hx3_0
        have hgr3 : Grow wz2 wz3 := by first | exact hg3 | exact Grow.trans ((Grow.refl _).alloc _) hg3 | exact Grow.trans (((Grow.refl _).alloc _).alloc _) hg3 | exact Grow.trans ((((Grow.refl _).alloc _).alloc _).alloc _) hg3 | exact Grow.trans (((((Grow.refl _).alloc _).alloc _).alloc _).alloc _) hg3 | exact Grow.trans ((Grow.refl _).drewN _) hg3
        have HP_3 := Lib.hid (HP_2.out.grow hgr3)
        have HL_3 := Lib.hid (HL_2.out.grow hgr3)
        have HXA_3 := Lib.hid (HXA_2.out.grow hgr3)
        have GCH3 := Lib.hid (GCH2.out.trans hgr3)
        clear hg3 hgr3 HP_2 HL_2 HXA_2 GCH2
        rw [HAA.out] at hx3_0
        have hyHXB_3 := hx3_0
        have HXB_3 := Lib.hid hyHXB_3
        obtain ⟨aHXB_3, cHXB_3, rfl, qHXB_31, qHXB_32, _⟩ := hyHXB_3
        clear hx3_0
        rw [HE.out]
        go_wp2_with fail
        refine rsameI4_any A A _ _ _ (by first | exact HXA_3.out | exact HXA_3.out.grow ((Grow.refl _).alloc _) | exact HXA_3.out.grow (((Grow.refl _).alloc _).alloc _) | exact HXA_3.out.grow ((((Grow.refl _).alloc _).alloc _).alloc _) | exact HXA_3.out.grow (((((Grow.refl _).alloc _).alloc _).alloc _).alloc _) | exact HXA_3.out.grow ((Grow.refl _).drewN _)) (by first | exact HXB_3.out | exact HXB_3.out.grow ((Grow.refl _).alloc _) | exact HXB_3.out.grow (((Grow.refl _).alloc _).alloc _) | exact HXB_3.out.grow ((((Grow.refl _).alloc _).alloc _).alloc _) | exact HXB_3.out.grow (((((Grow.refl _).alloc _).alloc _).alloc _).alloc _) | exact HXB_3.out.grow ((Grow.refl _).drewN _)) _ ?_
        intro wz4 hg4 
        have hgr4 : Grow wz3 wz4 := by first | exact hg4 | exact Grow.trans ((Grow.refl _).alloc _) hg4 | exact Grow.trans (((Grow.refl _).alloc _).alloc _) hg4 | exact Grow.trans ((((Grow.refl _).alloc _).alloc _).alloc _) hg4 | exact Grow.trans (((((Grow.refl _).alloc _).alloc _).alloc _).alloc _) hg4 | exact Grow.trans ((Grow.refl _).drewN _) hg4
        have HP_4 := Lib.hid (HP_3.out.grow hgr4)
        have HL_4 := Lib.hid (HL_3.out.grow hgr4)
        have HXA_4 := Lib.hid (HXA_3.out.grow hgr4)
        have HXB_4 := Lib.hid (HXB_3.out.grow hgr4)
        have GCH4 := Lib.hid (GCH3.out.trans hgr4)
        clear hg4 hgr4 HP_3 HL_3 HXA_3 HXB_3 GCH3
        rw [show decide (A = A) = true from decide_eq_true rfl]
        go_wp2_with fail
        refine ssame_any _ _ ?_
        intro wz5 hg5 
        have hgr5 : Grow wz4 wz5 := by first | exact hg5 | exact Grow.trans ((Grow.refl _).alloc _) hg5 | exact Grow.trans (((Grow.refl _).alloc _).alloc _) hg5 | exact Grow.trans ((((Grow.refl _).alloc _).alloc _).alloc _) hg5 | exact Grow.trans (((((Grow.refl _).alloc _).alloc _).alloc _).alloc _) hg5 | exact Grow.trans ((Grow.refl _).drewN _) hg5
        have HP_5 := Lib.hid (HP_4.out.grow hgr5)
        have HL_5 := Lib.hid (HL_4.out.grow hgr5)
        have HXA_5 := Lib.hid (HXA_4.out.grow hgr5)
        have HXB_5 := Lib.hid (HXB_4.out.grow hgr5)
        have GCH5 := Lib.hid (GCH4.out.trans hgr5)
        clear hg5 hgr5 HP_4 HL_4 HXA_4 HXB_4 GCH4
        go_wp2_with fail
        first | exact HR.out _ (GCH5.out) | exact HR.out _ (Grow.trans GCH5.out ((Grow.refl _).alloc _)) | exact HR.out _ (Grow.trans GCH5.out (((Grow.refl _).alloc _).alloc _)) | exact HR.out _ (Grow.trans GCH5.out ((((Grow.refl _).alloc _).alloc _).alloc _)) | exact HR.out _ (Grow.trans GCH5.out (((((Grow.refl _).alloc _).alloc _).alloc _).alloc _)) | exact HR.out _ (Grow.trans GCH5.out ((Grow.refl _).drewN _))
      subst h0
      obtain ⟨hv, hvt⟩ := chkT_ok.1 he
      have hA2 : enM p l = A := by rw [← hA]; unfold enO; rw [he, ifOK_ok]
      have hal := few_alive hv hvt
      have hfv := few_valid (p := p) hvt
      have hmm := fun (i : Int) h => enM_mem (p := p) (ts := l) (i := i) h
      have hml := enM_len p l
      rw [hA2] at hal hfv hmm hml
      have HE2 := Lib.hid (show chkT p (fewT l A) = 0 from chkT_ok.2 ⟨hv, hfv⟩)
      have hao : aliveO p (fewT l A) = aliveO p l := by unfold aliveO; rw [HE2.out, he, hal]
      obtain ⟨X, hX⟩ : ∃ z, aliveO p l = z := ⟨_, rfl⟩
      rw [hX] at hao
      have HX0 := Lib.hid hX
      have HX1 := Lib.hid hao
      have hl8 := (valT_ok.1 hvt).1
      have HMM := Lib.hid hmm
      clear hv hvt hA2 hal hfv hmm hX hao hA he
      go_enter Tryz.func5, Tryz.ntmps5
      go_wp2_with fail
      refine long4_any p _ _ (by first | exact HP_.out | exact HP_.out.grow ((Grow.refl _).alloc _) | exact HP_.out.grow (((Grow.refl _).alloc _).alloc _) | exact HP_.out.grow ((((Grow.refl _).alloc _).alloc _).alloc _) | exact HP_.out.grow (((((Grow.refl _).alloc _).alloc _).alloc _).alloc _) | exact HP_.out.grow ((Grow.refl _).drewN _)) _ ?_
      rw [HD0.out]
      go_wp2_with fail
      refine many_any l _ _ (by first | exact HL_.out | exact HL_.out.grow ((Grow.refl _).alloc _) | exact HL_.out.grow (((Grow.refl _).alloc _).alloc _) | exact HL_.out.grow ((((Grow.refl _).alloc _).alloc _).alloc _) | exact HL_.out.grow (((((Grow.refl _).alloc _).alloc _).alloc _).alloc _) | exact HL_.out.grow ((Grow.refl _).drewN _)) _ ?_
      intro wz1 hg1 
      have hgr1 : Grow w wz1 := by first | exact hg1 | exact Grow.trans ((Grow.refl _).alloc _) hg1 | exact Grow.trans (((Grow.refl _).alloc _).alloc _) hg1 | exact Grow.trans ((((Grow.refl _).alloc _).alloc _).alloc _) hg1 | exact Grow.trans (((((Grow.refl _).alloc _).alloc _).alloc _).alloc _) hg1 | exact Grow.trans ((Grow.refl _).drewN _) hg1
      have HP_1 := Lib.hid (HP_.out.grow hgr1)
      have HL_1 := Lib.hid (HL_.out.grow hgr1)
      have GCH1 := Lib.hid hgr1
      clear hg1 hgr1 HP_ HL_
      rw [HMB.out]
      go_wp2_with fail
      refine Enough_any p l _ _ _ (by first | exact HP_1.out | exact HP_1.out.grow ((Grow.refl _).alloc _) | exact HP_1.out.grow (((Grow.refl _).alloc _).alloc _) | exact HP_1.out.grow ((((Grow.refl _).alloc _).alloc _).alloc _) | exact HP_1.out.grow (((((Grow.refl _).alloc _).alloc _).alloc _).alloc _) | exact HP_1.out.grow ((Grow.refl _).drewN _)) (by first | exact HL_1.out | exact HL_1.out.grow ((Grow.refl _).alloc _) | exact HL_1.out.grow (((Grow.refl _).alloc _).alloc _) | exact HL_1.out.grow ((((Grow.refl _).alloc _).alloc _).alloc _) | exact HL_1.out.grow (((((Grow.refl _).alloc _).alloc _).alloc _).alloc _) | exact HL_1.out.grow ((Grow.refl _).drewN _)) _ ?_
      intro wz2 x2_0 hg2 hx2_0
      have hgr2 : Grow wz1 wz2 := by first | exact hg2 | exact Grow.trans ((Grow.refl _).alloc _) hg2 | exact Grow.trans (((Grow.refl _).alloc _).alloc _) hg2 | exact Grow.trans ((((Grow.refl _).alloc _).alloc _).alloc _) hg2 | exact Grow.trans (((((Grow.refl _).alloc _).alloc _).alloc _).alloc _) hg2 | exact Grow.trans ((Grow.refl _).drewN _) hg2
      have HP_2 := Lib.hid (HP_1.out.grow hgr2)
      have HL_2 := Lib.hid (HL_1.out.grow hgr2)
      have GCH2 := Lib.hid (GCH1.out.trans hgr2)
      clear hg2 hgr2 HP_1 HL_1 GCH1
      rw [HAA.out] at hx2_0
      have hyHXA_2 := hx2_0
      have HXA_2 := Lib.hid hyHXA_2
      obtain ⟨aHXA_2, cHXA_2, rfl, qHXA_21, qHXA_22, _⟩ := hyHXA_2
      clear hx2_0
      rw [HE.out]
      go_wp2_with fail
      refine r5Enough_any p l _ _ _ (by first | exact HP_2.out | exact HP_2.out.grow ((Grow.refl _).alloc _) | exact HP_2.out.grow (((Grow.refl _).alloc _).alloc _) | exact HP_2.out.grow ((((Grow.refl _).alloc _).alloc _).alloc _) | exact HP_2.out.grow (((((Grow.refl _).alloc _).alloc _).alloc _).alloc _) | exact HP_2.out.grow ((Grow.refl _).drewN _)) (by first | exact HL_2.out | exact HL_2.out.grow ((Grow.refl _).alloc _) | exact HL_2.out.grow (((Grow.refl _).alloc _).alloc _) | exact HL_2.out.grow ((((Grow.refl _).alloc _).alloc _).alloc _) | exact HL_2.out.grow (((((Grow.refl _).alloc _).alloc _).alloc _).alloc _) | exact HL_2.out.grow ((Grow.refl _).drewN _)) _ ?_
      intro wz3 x3_0 hg3 hx3_0
      have hgr3 : Grow wz2 wz3 := by first | exact hg3 | exact Grow.trans ((Grow.refl _).alloc _) hg3 | exact Grow.trans (((Grow.refl _).alloc _).alloc _) hg3 | exact Grow.trans ((((Grow.refl _).alloc _).alloc _).alloc _) hg3 | exact Grow.trans (((((Grow.refl _).alloc _).alloc _).alloc _).alloc _) hg3 | exact Grow.trans ((Grow.refl _).drewN _) hg3
      have HP_3 := Lib.hid (HP_2.out.grow hgr3)
      have HL_3 := Lib.hid (HL_2.out.grow hgr3)
      have HXA_3 := Lib.hid (HXA_2.out.grow hgr3)
      have GCH3 := Lib.hid (GCH2.out.trans hgr3)
      clear hg3 hgr3 HP_2 HL_2 HXA_2 GCH2
      rw [HAA.out] at hx3_0
      have hyHXB_3 := hx3_0
      have HXB_3 := Lib.hid hyHXB_3
      obtain ⟨aHXB_3, cHXB_3, rfl, qHXB_31, qHXB_32, _⟩ := hyHXB_3
      clear hx3_0
      rw [HE.out]
      go_wp2_with fail
      refine rsameI4_any A A _ _ _ (by first | exact HXA_3.out | exact HXA_3.out.grow ((Grow.refl _).alloc _) | exact HXA_3.out.grow (((Grow.refl _).alloc _).alloc _) | exact HXA_3.out.grow ((((Grow.refl _).alloc _).alloc _).alloc _) | exact HXA_3.out.grow (((((Grow.refl _).alloc _).alloc _).alloc _).alloc _) | exact HXA_3.out.grow ((Grow.refl _).drewN _)) (by first | exact HXB_3.out | exact HXB_3.out.grow ((Grow.refl _).alloc _) | exact HXB_3.out.grow (((Grow.refl _).alloc _).alloc _) | exact HXB_3.out.grow ((((Grow.refl _).alloc _).alloc _).alloc _) | exact HXB_3.out.grow (((((Grow.refl _).alloc _).alloc _).alloc _).alloc _) | exact HXB_3.out.grow ((Grow.refl _).drewN _)) _ ?_
      intro wz4 hg4 
      have hgr4 : Grow wz3 wz4 := by first | exact hg4 | exact Grow.trans ((Grow.refl _).alloc _) hg4 | exact Grow.trans (((Grow.refl _).alloc _).alloc _) hg4 | exact Grow.trans ((((Grow.refl _).alloc _).alloc _).alloc _) hg4 | exact Grow.trans (((((Grow.refl _).alloc _).alloc _).alloc _).alloc _) hg4 | exact Grow.trans ((Grow.refl _).drewN _) hg4
      have HP_4 := Lib.hid (HP_3.out.grow hgr4)
      have HL_4 := Lib.hid (HL_3.out.grow hgr4)
      have HXA_4 := Lib.hid (HXA_3.out.grow hgr4)
      have HXB_4 := Lib.hid (HXB_3.out.grow hgr4)
      have GCH4 := Lib.hid (GCH3.out.trans hgr4)
      clear hg4 hgr4 HP_3 HL_3 HXA_3 HXB_3 GCH3
      rw [show decide (A = A) = true from decide_eq_true rfl]
      go_wp2_with fail
      go_loopw [9, 10] (fun out i wr => ∃ (j : Nat) (Q : List Tq), j ≤ A.length ∧ i = .int .i64 j ∧ Grow wz4 wr ∧ Q.map Tq.t = fewT l (A.take j) ∧ wr.ownsRow wz4.heap.size 50 3 out Q.length (Q.flatMap encTq)) (fun _ i _ => A.length - (intOf i).toNat)
      case atStart => exact ⟨0, [], Nat.zero_le _, rfl, Grow.refl _, rfl, World.ownsRow_nil _ _ _ _⟩
      case round =>
        obtain ⟨j, Q, hj, rfl, hg, hq, how⟩ := hrel
        have HG := Lib.hid hg
        have HQ := Lib.hid hq
        have HOW := Lib.hid how
        have hzw := hg.sz
        have hQl : Q.length ≤ A.length := by
          have h1 := congrArg List.length hq
          rw [List.length_map] at h1
          have h2 : (fewT l (A.take j)).length ≤ (A.take j).length := List.length_filterMap_le _ _
          rw [List.length_take] at h2
          omega
        clear hg hq how
        by_cases hjl : j < A.length
        · have hj2 : (j : Int) < (A.length : Int) := by omega
          obtain ⟨u, hu⟩ : ∃ x, A[j]? = some x := ⟨_, List.getElem?_eq_getElem hjl⟩
          obtain ⟨hu0, hul⟩ := HMM.out u (List.mem_of_getElem? hu)
          obtain ⟨n, rfl⟩ : ∃ n : Nat, u = n := ⟨u.toNat, by omega⟩
          have hnl : n < l.length := by omega
          obtain ⟨t, ht⟩ : ∃ t, l[n]? = some t := ⟨_, List.getElem?_eq_getElem hnl⟩
          have HFS := Lib.hid (fewT_snoc (ts := l) hu (t := t) (by simpa using ht))
          obtain ⟨gi, oi, rfl, hgi, i0⟩ := ints_at (HXA_4.out.grow HG.out) hu
          obtain ⟨gt, ot, rfl, hgt, f0, f1, f2⟩ := tests_at (HL_4.out.grow HG.out).at_ ht
          have hti := HL_4.out.ins t (List.mem_of_getElem? ht)
          obtain ⟨tv, txs, too, twt⟩ := t
          obtain ⟨ta2, tc2, hv, jk8⟩ := hti
          dsimp only at hv f0 f1 f2 HFS
          subst hv
          have hn0 : ¬ (n : Int) < 0 := by omega
          have hn1 : ¬ (n : Int) ≥ (l.length : Int) := by omega
          have hn2 : (n : Int) < (l.length : Int) := by omega
          have HLE := Lib.hid (show Q.length < 100000000000 by omega)
          clear hu ht jk8
          have HQN := Lib.hid (show (Q ++ [(⟨ta2, txs.length, tc2, txs, too, twt⟩ : Tq)]).map Tq.t = fewT l (A.take (j + 1)) by rw [HFS.out, List.map_append, HQ.out]; rfl)
          go_wp2_with (at_builtin; refine wpList_app _ rfl (.tmp 66) (.tmp 74) 23 rfl wz4.heap.size 50 Tryz.underlying23 info_ts rfl (by decide) (by decide) encTq encTq_len encTq_one _ Q rfl (((Grow.refl _).alloc _).owns HOW.out) _ (⟨ta2, txs.length, tc2, txs, too, twt⟩ : Tq) 1 rfl (newsG _ _ (by simp) (encTq ⟨ta2, txs.length, tc2, txs, too, twt⟩) _) HLE.out (by simp; omega) ?_; intro out2 w5 hown5 hgr5)
          have HG5 := Lib.hid (show Grow wz4 w5 from grown_below HOW.out hgr5 (Nat.le_refl _) (by simp; omega) (HG.out.alloc _))
          have HO5 := Lib.hid hown5
          clear hown5 hgr5
          go_roundw
          case rel => exact ⟨j + 1, _, by omega, by go_num, HG5.out, HQN.out, HO5.out⟩
          case measure => simp [intOf]; omega
        · have hjn : j = A.length := by omega
          have hq := HQ.out
          rw [hjn, List.take_length] at hq
          have hfw : TestsAt wr _ (fewT l A) := tests_of (slc_of_owns encTq_len HOW.out) hq fun t ht => (HL_4.out.ins t (few_mem ht)).grow HG.out
          have HFW := Lib.hid hfw
          have hjl2 : ¬ (j : Int) < (A.length : Int) := by omega
          obtain ⟨⟨fa, fc, hfv, jk9⟩, _⟩ := hfw
          subst hfv
          have hgl := HG.out
          clear hq hjn jk9 HG HOW HQ
          have hgr5 : Grow wz4 wr := by first | exact hgl | exact Grow.trans ((Grow.refl _).alloc _) hgl | exact Grow.trans (((Grow.refl _).alloc _).alloc _) hgl | exact Grow.trans ((((Grow.refl _).alloc _).alloc _).alloc _) hgl | exact Grow.trans (((((Grow.refl _).alloc _).alloc _).alloc _).alloc _) hgl | exact Grow.trans ((Grow.refl _).drewN _) hgl
          have HP_5 := Lib.hid (HP_4.out.grow hgr5)
          have HL_5 := Lib.hid (HL_4.out.grow hgr5)
          have HXA_5 := Lib.hid (HXA_4.out.grow hgr5)
          have HXB_5 := Lib.hid (HXB_4.out.grow hgr5)
          have GCH5 := Lib.hid (GCH4.out.trans hgr5)
          clear hgl hgr5 HP_4 HL_4 HXA_4 HXB_4 GCH4
          go_wp2_with fail
          refine Alive_any p l _ _ _ (by first | exact HP_5.out | exact HP_5.out.grow ((Grow.refl _).alloc _) | exact HP_5.out.grow (((Grow.refl _).alloc _).alloc _) | exact HP_5.out.grow ((((Grow.refl _).alloc _).alloc _).alloc _) | exact HP_5.out.grow (((((Grow.refl _).alloc _).alloc _).alloc _).alloc _) | exact HP_5.out.grow ((Grow.refl _).drewN _)) (by first | exact HL_5.out | exact HL_5.out.grow ((Grow.refl _).alloc _) | exact HL_5.out.grow (((Grow.refl _).alloc _).alloc _) | exact HL_5.out.grow ((((Grow.refl _).alloc _).alloc _).alloc _) | exact HL_5.out.grow (((((Grow.refl _).alloc _).alloc _).alloc _).alloc _) | exact HL_5.out.grow ((Grow.refl _).drewN _)) _ ?_
          intro wz6 x6_0 hg6 hx6_0
          have hgr6 : Grow wr wz6 := by first | exact hg6 | exact Grow.trans ((Grow.refl _).alloc _) hg6 | exact Grow.trans (((Grow.refl _).alloc _).alloc _) hg6 | exact Grow.trans ((((Grow.refl _).alloc _).alloc _).alloc _) hg6 | exact Grow.trans (((((Grow.refl _).alloc _).alloc _).alloc _).alloc _) hg6 | exact Grow.trans ((Grow.refl _).drewN _) hg6
          have HP_6 := Lib.hid (HP_5.out.grow hgr6)
          have HL_6 := Lib.hid (HL_5.out.grow hgr6)
          have HXA_6 := Lib.hid (HXA_5.out.grow hgr6)
          have HXB_6 := Lib.hid (HXB_5.out.grow hgr6)
          have HFW6 := Lib.hid (HFW.out.grow hgr6)
          have GCH6 := Lib.hid (GCH5.out.trans hgr6)
          clear hg6 hgr6 HP_5 HL_5 HXA_5 HXB_5 HFW GCH5
          rw [HX0.out] at hx6_0
          have hyHYA_6 := hx6_0
          have HYA_6 := Lib.hid hyHYA_6
          obtain ⟨aHYA_6, cHYA_6, rfl, qHYA_61, qHYA_62, _⟩ := hyHYA_6
          clear hx6_0
          rw [HE.out]
          go_wp2_with fail
          refine Alive_any p (fewT l A) _ _ _ (by first | exact HP_6.out | exact HP_6.out.grow ((Grow.refl _).alloc _) | exact HP_6.out.grow (((Grow.refl _).alloc _).alloc _) | exact HP_6.out.grow ((((Grow.refl _).alloc _).alloc _).alloc _) | exact HP_6.out.grow (((((Grow.refl _).alloc _).alloc _).alloc _).alloc _) | exact HP_6.out.grow ((Grow.refl _).drewN _)) (by first | exact HFW6.out | exact HFW6.out.grow ((Grow.refl _).alloc _) | exact HFW6.out.grow (((Grow.refl _).alloc _).alloc _) | exact HFW6.out.grow ((((Grow.refl _).alloc _).alloc _).alloc _) | exact HFW6.out.grow (((((Grow.refl _).alloc _).alloc _).alloc _).alloc _) | exact HFW6.out.grow ((Grow.refl _).drewN _)) _ ?_
          intro wz7 x7_0 hg7 hx7_0
          have hgr7 : Grow wz6 wz7 := by first | exact hg7 | exact Grow.trans ((Grow.refl _).alloc _) hg7 | exact Grow.trans (((Grow.refl _).alloc _).alloc _) hg7 | exact Grow.trans ((((Grow.refl _).alloc _).alloc _).alloc _) hg7 | exact Grow.trans (((((Grow.refl _).alloc _).alloc _).alloc _).alloc _) hg7 | exact Grow.trans ((Grow.refl _).drewN _) hg7
          have HP_7 := Lib.hid (HP_6.out.grow hgr7)
          have HL_7 := Lib.hid (HL_6.out.grow hgr7)
          have HXA_7 := Lib.hid (HXA_6.out.grow hgr7)
          have HXB_7 := Lib.hid (HXB_6.out.grow hgr7)
          have HFW7 := Lib.hid (HFW6.out.grow hgr7)
          have HYA_7 := Lib.hid (HYA_6.out.grow hgr7)
          have GCH7 := Lib.hid (GCH6.out.trans hgr7)
          clear hg7 hgr7 HP_6 HL_6 HXA_6 HXB_6 HFW6 HYA_6 GCH6
          rw [HX1.out] at hx7_0
          have hyHYB_7 := hx7_0
          have HYB_7 := Lib.hid hyHYB_7
          obtain ⟨aHYB_7, cHYB_7, rfl, qHYB_71, qHYB_72, _⟩ := hyHYB_7
          clear hx7_0
          rw [HE2.out]
          go_wp2_with fail
          refine rsameE_any X X _ _ _ (by first | exact HYA_7.out | exact HYA_7.out.grow ((Grow.refl _).alloc _) | exact HYA_7.out.grow (((Grow.refl _).alloc _).alloc _) | exact HYA_7.out.grow ((((Grow.refl _).alloc _).alloc _).alloc _) | exact HYA_7.out.grow (((((Grow.refl _).alloc _).alloc _).alloc _).alloc _) | exact HYA_7.out.grow ((Grow.refl _).drewN _)) (by first | exact HYB_7.out | exact HYB_7.out.grow ((Grow.refl _).alloc _) | exact HYB_7.out.grow (((Grow.refl _).alloc _).alloc _) | exact HYB_7.out.grow ((((Grow.refl _).alloc _).alloc _).alloc _) | exact HYB_7.out.grow (((((Grow.refl _).alloc _).alloc _).alloc _).alloc _) | exact HYB_7.out.grow ((Grow.refl _).drewN _)) _ ?_
          intro wz8 hg8 
          have hgr8 : Grow wz7 wz8 := by first | exact hg8 | exact Grow.trans ((Grow.refl _).alloc _) hg8 | exact Grow.trans (((Grow.refl _).alloc _).alloc _) hg8 | exact Grow.trans ((((Grow.refl _).alloc _).alloc _).alloc _) hg8 | exact Grow.trans (((((Grow.refl _).alloc _).alloc _).alloc _).alloc _) hg8 | exact Grow.trans ((Grow.refl _).drewN _) hg8
          have HP_8 := Lib.hid (HP_7.out.grow hgr8)
          have HL_8 := Lib.hid (HL_7.out.grow hgr8)
          have HXA_8 := Lib.hid (HXA_7.out.grow hgr8)
          have HXB_8 := Lib.hid (HXB_7.out.grow hgr8)
          have HFW8 := Lib.hid (HFW7.out.grow hgr8)
          have HYA_8 := Lib.hid (HYA_7.out.grow hgr8)
          have HYB_8 := Lib.hid (HYB_7.out.grow hgr8)
          have GCH8 := Lib.hid (GCH7.out.trans hgr8)
          clear hg8 hgr8 HP_7 HL_7 HXA_7 HXB_7 HFW7 HYA_7 HYB_7 GCH7
          rw [show decide (X = X) = true from decide_eq_true rfl]
          go_wp2_with fail
          refine ssame_any _ _ ?_
          intro wz9 hg9 
          have hgr9 : Grow wz8 wz9 := by first | exact hg9 | exact Grow.trans ((Grow.refl _).alloc _) hg9 | exact Grow.trans (((Grow.refl _).alloc _).alloc _) hg9 | exact Grow.trans ((((Grow.refl _).alloc _).alloc _).alloc _) hg9 | exact Grow.trans (((((Grow.refl _).alloc _).alloc _).alloc _).alloc _) hg9 | exact Grow.trans ((Grow.refl _).drewN _) hg9
          have HP_9 := Lib.hid (HP_8.out.grow hgr9)
          have HL_9 := Lib.hid (HL_8.out.grow hgr9)
          have HXA_9 := Lib.hid (HXA_8.out.grow hgr9)
          have HXB_9 := Lib.hid (HXB_8.out.grow hgr9)
          have HFW9 := Lib.hid (HFW8.out.grow hgr9)
          have HYA_9 := Lib.hid (HYA_8.out.grow hgr9)
          have HYB_9 := Lib.hid (HYB_8.out.grow hgr9)
          have GCH9 := Lib.hid (GCH8.out.trans hgr9)
          clear hg9 hgr9 HP_8 HL_8 HXA_8 HXB_8 HFW8 HYA_8 HYB_8 GCH8
          go_wp2_with fail
          first | exact HR.out _ (GCH9.out) | exact HR.out _ (Grow.trans GCH9.out ((Grow.refl _).alloc _)) | exact HR.out _ (Grow.trans GCH9.out (((Grow.refl _).alloc _).alloc _)) | exact HR.out _ (Grow.trans GCH9.out ((((Grow.refl _).alloc _).alloc _).alloc _)) | exact HR.out _ (Grow.trans GCH9.out (((((Grow.refl _).alloc _).alloc _).alloc _).alloc _)) | exact HR.out _ (Grow.trans GCH9.out ((Grow.refl _).drewN _))
end Go.Proofs.YtbccbokjecdaaaaGreat

namespace Go.Proofs.YtbccbokjecdaaaaGreat
open Go.ChangeShapes Go.WideShapes Go.ChangeAt Go.RowKit

theorem Tryz.own : ownKnob Tryz.prog.godebug = none := by kernel_rfl
theorem Tryz.laidOut : laidOutB Tryz.prog = true := by kernel_rfl

set_option maxRecDepth 100000 in
set_option maxHeartbeats 4000000 in
theorem seekEnoughs_lifted (os : Os) (started : os.Started) (H : Type) (enc : TypeId × Value → H) :
    ReturnsInHanded {} Tryz.checked os 5 .any (Rows.seekEnoughsSpec.pre6 enc Tryz.prog Tryz.f5 Rows.seekEnoughsRow.domain false) (Rows.seekEnoughsSpec.post enc Tryz.prog Tryz.f5 false true false false) := by
  refine returnsInHanded_of_change (C := Tryz.checked) Tryz.own started (by kernel_rfl) Tryz.func5
    (ChangeSpec.witness6 (enc := enc) (C := Tryz.checked) false ⟨#[], #[.slice none 0 0, .slice none 0 0], []⟩ 8 (by kernel_rfl) (by kernel_rfl) (by kernel_rfl) (by kernel_rfl)) ?_
  intro W base args ds gs before hval0 hW hcnd _
  have hval : ∀ (j : Nat) t v, Tryz.f5.params[j]? = some t → args[j]? = some v → Value.okWide Tryz.prog W .any base t v := hval0
  have hW' := hW
  obtain ⟨p, q, hA0, hV, rfl, hfz, hnd⟩ := hW
  have hA : DataW.TrodAll enc Tryz.prog W 0 (fun _ => true) true Tryz.f5.params.toList args.toList ds p := hA0
  rw [Tryz.params5] at hA hval
  obtain ⟨v0, v1, d0, d1, p0, p1, rfl, rfl, rfl, h0, h1⟩ := trodAll_two hA
  obtain ⟨rfl, rfl⟩ := trodVars_none hV
  have hk0 := h0
  have hk1 := h1
  obtain ⟨x0, hx0⟩ := arg_lines (hval 0 22 v0 rfl rfl) h0
  obtain ⟨x1, hx1⟩ := arg_tests (hval 1 23 v1 rfl rfl) h1
  clear hA0 hval0
  refine Calls.mono (seekEnoughs_any x0 x1 W v0 v1 hx0 hx1 (fun e W' => e = .returned (.bool true) ∧ Grow W W') (fun W' hg => ⟨rfl, hg⟩)) fun e W' ⟨he, hB⟩ => ?_
  subst he
  have hlt0 : ∀ x ∈ p0, x.block < W.heap.size := fun x hx => hW'.lt x (List.mem_append_left _ (List.mem_append_left _ (hx)))
  have ht0 := Below.trod Tryz.laidOut (by kernel_rfl) (of_decide_eq_true (by kernel_rfl)) hk0 hB hlt0
  have hlt1 : ∀ x ∈ p1, x.block < W.heap.size := fun x hx => hW'.lt x (List.mem_append_left _ (List.mem_append_right _ hx))
  have ht1 := Below.trod Tryz.laidOut (by kernel_rfl) (of_decide_eq_true (by kernel_rfl)) hk1 hB hlt1
  exact ⟨_, rfl, _, _, _, [], _, [], hW', trodAll_mk1 (shut_bool Tryz.underlying4 true), trodAll_mk2 ht0 ht1, rfl, hB.frame _, fun h => by cases h⟩

theorem seekEnoughs_holds : Rows.SeekEnoughsSaid :=
  OpenClaim.holds_of_wide 5 Tryz.f5 rfl rfl rfl rfl rfl rfl rfl ⟨rfl, rfl, rfl, rfl, rfl⟩ rfl rfl rfl rfl rfl (by kernel_rfl) Tryz.func5 (by kernel_rfl)
    (of_decide_eq_true (by kernel_rfl)) (by unfold Func.isWrapper; first | (rw [if_pos (by decide +kernel)]; kernel_rfl) | (rw [if_neg (by decide +kernel)]; exact ⟨rfl, rfl⟩))
    (fun os started H enc _ => seekEnoughs_lifted os started H enc)

end Go.Proofs.YtbccbokjecdaaaaGreat
