/- The walk of the statement TopSuites. -/
import Derived.Test.YtfbfkkaepgcggaaGreatQ18
import Derived.Test.YtfbfkkaepgcggaaGreatQ34
import Derived.Test.YtfbfkkaepgcggaaGreatQ36
import Derived.Test.YtfbfkkaepgcggaaGreatQ40
import Derived.Test.YtfbfkkaepgcggaaGreatQ37
import Derived.Test.YtfbfkkaepgcggaaGreatQ48
import Derived.Test.YtfbfkkaepgcggaaGreatQ33
import Derived.Test.YtfbfkkaepgcggaaGreatQ46
import Derived.Test.YtfbfkkaepgcggaaGreatQ47
import Derived.Deep.DeepCutAuto
import Derived.Deep.CutBlock
namespace Go.Proofs.YtfbfkkaepgcggaaGreat
open Go.RowKit

theorem su_ex : coverN (covH (hitS [[1, 0], [0, 1], [1, 1]]) (goalsS [[1, 0], [0, 1], [1, 1]]) 3) 3 = some [2] := by decide +kernel
theorem su_exv : ValS [[1, 0], [0, 1], [1, 1]] := ⟨by decide, by decide, by decide, by decide⟩
theorem su_small {hit : Nat → Nat → Bool} {G n : Nat} {C : List Nat} (h : coverN (covH hit G n) n = some C) : Smallest (covH hit G n) n C := by
  obtain ⟨D, h1, h2⟩ := coverN_some (cov_range hit G n)
  rw [h] at h1
  cases h1
  exact h2
theorem su_heaps4 (w : World) (A B C D : Obj) : let W := (((w.alloc A).alloc B).alloc C).alloc D
    W.heap[w.heap.size]? = some A ∧ W.heap[w.heap.size + 1]? = some B ∧ W.heap[w.heap.size + 1 + 1]? = some C ∧ W.heap[w.heap.size + 1 + 1 + 1]? = some D := by
  have up : ∀ {X : World} {k : Nat} {o p : Obj}, X.heap[k]? = some o → (X.alloc p).heap[k]? = some o := fun {X k o p} h => ((Grow.refl X).alloc p).blk h
  have hn : ∀ {X : World} {n : Nat} {o : Obj}, X.heap.size = n → (X.alloc o).heap[n]? = some o := fun {X n o} e => e ▸ heap_alloc_new X o
  refine ⟨up (up (up (hn rfl))), up (up (hn (by simp))), up (hn (by simp)), hn (by simp)⟩
theorem su_cells {w : World} {b : Nat} {cs : List Value} {e : TypeId} (h : w.heap[b]? = some (.cells cs.toArray e (0, 0))) (j : Nat) (u : Value) (hj : cs[j]? = some u) : w.cell? ⟨b, j, none⟩ = some u := by
  simp [World.cell?, h, hj]
theorem su_ints {w : World} {b : Nat} {xs : List Int} {e : TypeId} (h : w.heap[b]? = some (.cells (xs.map (Value.int .i64)).toArray e (0, 0))) (hl : xs.length < 1000000) : IntsAt w (.slice (some ⟨b, 0, none⟩) xs.length xs.length) xs := by
  refine ⟨_, _, rfl, Nat.le_refl _, by omega, .inr ⟨b, 0, rfl, lt_of_block h, fun j x hj i u hu => ?_⟩⟩
  have hi : i = 0 := by have := (List.getElem?_eq_some_iff.1 hu).1; simpa [encI] using this
  subst hi
  have hu2 : u = .int .i64 x := by simpa [encI] using hu.symm
  subst hu2
  rw [show 0 + j * 1 + 0 = j by omega]
  exact su_cells h j _ (by rw [List.getElem?_map, hj]; rfl)
theorem su_fam {w : World} {b : Nat} {L : List (Lo Int)} {e : TypeId} (h : w.heap[b]? = some (.cells (L.map Lo.v).toArray e (0, 0))) (hl : L.length < 1000000) (hi : ∀ t ∈ L, IntsAt w t.v t.x) : FamAt w (.slice (some ⟨b, 0, none⟩) L.length L.length) (L.map Lo.x) := by
  refine ⟨L, ⟨_, _, rfl, Nat.le_refl _, by omega, .inr ⟨b, 0, rfl, lt_of_block h, fun j x hj i u hu => ?_⟩⟩, hi, rfl⟩
  have hi : i = 0 := by have := (List.getElem?_eq_some_iff.1 hu).1; simpa [encLo] using this
  subst hi
  have hu2 : u = x.v := by simpa [encLo] using hu.symm
  subst hu2
  rw [show 0 + j * 1 + 0 = j by omega]
  exact su_cells h j _ (by rw [List.getElem?_map, hj]; rfl)
/-- The literal of the statement. -/
theorem su_lit (w : World) (q : Nat) (hq : w.heap.size = q) (T1 T2 : TypeId) : ∃ W, (((w.alloc (.cells #[.int .i64 1, .int .i64 0] T1)).alloc (.cells #[.int .i64 0, .int .i64 1] T1)).alloc (.cells #[.int .i64 1, .int .i64 1] T1)).alloc
      (.cells #[.slice (some ⟨q, 0, none⟩) 2 2, .slice (some ⟨q + 1, 0, none⟩) 2 2, .slice (some ⟨q + 1 + 1, 0, none⟩) 2 2] T2) = W ∧ Grow w W ∧ FamAt W (.slice (some ⟨q + 1 + 1 + 1, 0, none⟩) 3 3) [[1, 0], [0, 1], [1, 1]] := by
  obtain ⟨k0, k1, k2, k3⟩ := su_heaps4 w (.cells #[.int .i64 1, .int .i64 0] T1) (.cells #[.int .i64 0, .int .i64 1] T1) (.cells #[.int .i64 1, .int .i64 1] T1) (.cells #[.slice (some ⟨q, 0, none⟩) 2 2, .slice (some ⟨q + 1, 0, none⟩) 2 2, .slice (some ⟨q + 1 + 1, 0, none⟩) 2 2] T2)
  rw [hq] at k0 k1 k2 k3
  refine ⟨_, rfl, ((((Grow.refl w).alloc _).alloc _).alloc _).alloc _, ?_⟩
  refine su_fam (L := [⟨some ⟨q, 0, none⟩, 2, 2, [1, 0]⟩, ⟨some ⟨q + 1, 0, none⟩, 2, 2, [0, 1]⟩, ⟨some ⟨q + 1 + 1, 0, none⟩, 2, 2, [1, 1]⟩]) k3 (by simp) (fun t ht => ?_)
  simp only [List.mem_cons, List.not_mem_nil, or_false] at ht
  rcases ht with rfl | rfl | rfl
  · exact su_ints (xs := [1, 0]) k0 (by decide)
  · exact su_ints (xs := [0, 1]) k1 (by decide)
  · exact su_ints (xs := [1, 1]) k2 (by decide)

theorem su_met {hit : Nat → Nat → Bool} {G : Nat} {S S' : List Nat} (h : ∀ r, r ∈ S' ↔ r ∈ S) : metH hit G S' = metH hit G S := by
  unfold metH
  refine List.filter_congr fun g _ => Bool.eq_iff_iff.2 ?_
  simp only [List.any_eq_true]
  exact ⟨fun ⟨r, hr, h2⟩ => ⟨r, (h r).1 hr, h2⟩, fun ⟨r, hr, h2⟩ => ⟨r, (h r).2 hr, h2⟩⟩
theorem su_cov {hit : Nat → Nat → Bool} {G n : Nat} {S S' : List Nat} (h : ∀ r, r ∈ S' ↔ r ∈ S) : covH hit G n S' = covH hit G n S := by
  unfold covH; rw [su_met h]
theorem su_asc {n k : Nat} {S S' : List Nat} (hp : S.Perm (List.range n)) (h : S'.Perm (S.take k)) (hs : S'.Pairwise (· ≤ ·)) : ascF n 0 S' := by
  refine asc_sorted hs (h.nodup_iff.2 ((List.take_sublist k S).nodup (hp.nodup_iff.2 List.nodup_range))) fun x hx => ⟨Nat.zero_le _, ?_⟩
  exact List.mem_range.1 (hp.mem_iff.1 (List.mem_of_mem_take (h.mem_iff.1 hx)))
theorem su_le {hit : Nat → Nat → Bool} {G n k : Nat} {C S : List Nat} (hs : Smallest (covH hit G n) n C) (hp : S.Perm (List.range n)) (hc : covH hit G n (S.take k) = true) : C.length ≤ k := by
  have h1 : ascF n 0 ((List.range n).filter fun r => decide (r ∈ S.take k)) := ascF_filter _ (ascF_range n)
  have h2 : ∀ r, r ∈ (List.range n).filter (fun r => decide (r ∈ S.take k)) ↔ r ∈ S.take k := fun r => by
    rw [List.mem_filter, decide_eq_true_eq]
    exact ⟨fun h => h.2, fun h => ⟨hp.mem_iff.1 (List.mem_of_mem_take h), h⟩⟩
  have h3 := hs.le h1 (by rw [su_cov h2]; exact hc)
  have h4 : ((List.range n).filter fun r => decide (r ∈ S.take k)).length = (S.filter fun r => decide (r ∈ S.take k)).length := (hp.symm.filter _).length_eq
  have hnd : S.Nodup := hp.nodup_iff.2 List.nodup_range
  have h5 : S.filter (fun r => decide (r ∈ S.take k)) = S.take k := by
    have hnd2 := hnd
    rw [← List.take_append_drop k S] at hnd2
    have hd := (List.nodup_append.1 hnd2).2.2
    have e : ∀ p : Nat → Bool, S.filter p = (S.take k).filter p ++ (S.drop k).filter p := fun p => by rw [← List.filter_append, List.take_append_drop]
    rw [e, List.filter_eq_self.2 (fun x hx => decide_eq_true hx), List.filter_eq_nil_iff.2 (fun x hx => by
      intro h
      exact hd x (of_decide_eq_true h) x hx rfl), List.append_nil]
  rw [h4, h5, List.length_take] at h3
  omega
theorem su_full {hit : Nat → Nat → Bool} {G n : Nat} {S : List Nat} (hS : ∀ r ∈ S, r < n) (h : ¬ (metH hit G S).length < (openH hit G n).length) : covH hit G n S = true := by
  have := left_eq (hit := hit) (G := G) hS
  unfold covH
  exact decide_eq_true (by omega)
theorem su_take {α : Type} {k : Nat} {enc : α → List Value} {w : World} {a : Option Addr} {n c : Nat} {xs : List α} (h : SlcAt k enc w (.slice a n c) xs) {m : Nat} (hm : m ≤ xs.length) : SlcAt k enc w (.slice a m c) (xs.take m) := by
  obtain ⟨a', c', e, h2, h3, h4⟩ := h
  cases e
  have hl : (xs.take m).length = m := by rw [List.length_take]; omega
  refine ⟨a, c, by rw [hl], by rw [hl]; omega, h3, ?_⟩
  rcases h4 with ⟨h4, h5⟩ | ⟨b, o, e, hb, hc⟩
  · exact .inl ⟨by rw [h4]; simp, h5⟩
  · refine .inr ⟨b, o, e, hb, fun j x hx i u hu => ?_⟩
    have hj : j < m := by have := (List.getElem?_eq_some_iff.1 hx).1; rw [hl] at this; exact this
    rw [List.getElem?_take, if_pos hj] at hx
    exact hc j x hx i u hu

set_option maxRecDepth 100000 in
set_option maxHeartbeats 64000000 in
theorem topSuites_any (t : List (List Int)) (p : List Ln) (l : List Tst) (w : World) (vt vp vl : Value) (ht : FamAt w vt t) (hp : LinesAt w vp p) (hl : TestsAt w vl l) (R : Ending → World → Prop) (hR : ∀ w', Grow w w' → R (.returned (.bool true)) w') :
    Calls Tryz.prog 3 #[vt, vp, vl] w R := by
  have HR := Lib.hid hR
  have HT := Lib.hid ht
  have HP := Lib.hid hp
  have HL := Lib.hid hl
  obtain ⟨ta, tc, rfl, qt1, qt2⟩ := FamAt.out ht
  obtain ⟨pa, pc, rfl, qp1, qp2, _⟩ := hp
  obtain ⟨⟨la, lc, rfl, ql1, ql2, _⟩, _⟩ := hl
  clear hR ht
  go_enter Tryz.func3, Tryz.ntmps3
  go_wp2_with fail
  obtain ⟨q, hq⟩ : ∃ b, w.heap.size = b := ⟨_, rfl⟩
  obtain ⟨W, hW, hgW, hf0⟩ := su_lit w q hq 3 25
  rw [hq, hW]
  have HG0 := Lib.hid hgW
  have HF0 := Lib.hid hf0
  clear hW hq hgW hf0
  refine Cover_any _ _ _ HF0.out su_exv _ ?_
  intro w1 v1 C1 hg1 hc1 hv1 hi1
  obtain rfl : [2] = C1 := Option.some.inj (su_ex.symm.trans hc1)
  obtain ⟨a1, c1, rfl⟩ := hv1
  have HG1 := Lib.hid (HG0.out.trans hg1)
  have HI1 := Lib.hid (show IntsAt w1 (.slice a1 1 c1) [2] from hi1)
  clear hg1 hi1 hc1 HF0
  go_wp2_with fail
  have hlit := (Grow.refl w1).alloc (.cells #[.int .i64 2] 3)
  have HL2 := Lib.hid (show IntsAt (w1.alloc (.cells #[.int .i64 2] 3)) (.slice (some ⟨w1.heap.size, 0, none⟩) 1 1) [2] from su_ints (xs := [2]) (heap_alloc_new w1 _) (by decide))
  refine sameInts8_any [2] [2] _ _ _ (HI1.out.grow hlit) HL2.out _ ?_
  intro w2 hg2
  rw [show decide (([2] : List Int) = [2]) = true from rfl]
  have HG2 := Lib.hid (HG1.out.trans (hlit.trans hg2))
  clear hlit hg2 HL2 HI1 HG1 HG0
  go_wp2_with fail
  refine long8_any t _ _ (HT.out.grow HG2.out) _ ?_
  intro q1
  cases q1 with
  | true =>
    go_wp2_with fail
    exact HR.out _ HG2.out
  | false =>
    go_wp2_with fail
    refine long4_any p _ _ (HP.out.grow HG2.out) _ ?_
    generalize decide (100 < p.length) = q2
    cases q2 with
    | true =>
      go_wp2_with fail
      exact HR.out _ HG2.out
    | false =>
      go_wp2_with fail
      refine many_any l _ _ (HL.out.grow HG2.out) _ ?_
      intro q3 hq3
      cases q3 with
      | true =>
        clear hq3
        go_wp2_with fail
        exact HR.out _ HG2.out
      | false =>
        have HL50 := Lib.hid (hq3 rfl)
        clear hq3
        go_wp2_with fail
        refine Open_any t _ _ (HT.out.grow HG2.out) _ ?_
        intro w3 v3 e3 hg3 he3 ho3
        have HG3 := Lib.hid (HG2.out.trans hg3)
        have HE3 := Lib.hid he3
        have HO3 := Lib.hid ho3
        clear hg3 he3 ho3
        go_upto_if 70 with (fail)
        go_cut [] from 38 (fun wc => Grow w wc)
        case first => as_aux_lemma =>
          by_cases h0 : e3 = 0
          rotate_left
          · have t1 : (e3 == 0) = false := by simpa using h0
            go_wp2_with fail
            go_meet
            exact HG3.out
          subst h0
          have HV := Lib.hid (HE3.out.1 rfl)
          have hs3 := (HO3.out rfl).slc encI_len
          obtain ⟨O, hO⟩ : ∃ O, openH (hitS t) (goalsS t) t.length = O := ⟨_, rfl⟩
          have HO := Lib.hid hO
          rw [hO] at hs3
          have HI3 := Lib.hid hs3
          obtain ⟨a3, c3, rfl, jk⟩ := hs3
          rw [natL_len] at HI3 ⊢
          clear jk HO3 HE3 hO
          go_wp2_with fail
          refine Cover_any t _ _ (HT.out.grow HG3.out) HV.out _ ?_
          intro w4 v4 C hg4 hc4 hv4 hi4
          obtain ⟨a4, c4, rfl⟩ := hv4
          have HSM := Lib.hid (su_small hc4)
          have HG4 := Lib.hid (HG3.out.trans hg4)
          have HI4 := Lib.hid hi4
          have HOI4 := Lib.hid (HI3.out.grow hg4)
          clear hg4 hc4 hi4 HI3
          go_wp2_with fail
          refine Excluding_any t _ _ (HT.out.grow HG4.out) HV.out _ ?_
          intro w5 v5 A hg5 hi5 hv5 ha1 ha2
          obtain ⟨a5, c5, rfl⟩ := hv5
          have hCr : ∀ r ∈ C, r < t.length := fun r hr => (ascF_mem HSM.out.asc hr).2
          have hAC : ¬ ((A.length : Nat) : Int) > ((C.length : Nat) : Int) := by have := apart_le_cover hCr HSM.out.isC ha1 ha2; omega
          have HMT := Lib.hid (cov_met hCr HSM.out.isC)
          have HG5 := Lib.hid (HG4.out.trans hg5)
          have HI5 := Lib.hid (HI4.out.grow hg5)
          have HOI5 := Lib.hid (HOI4.out.grow hg5)
          clear hg5 hi5 ha1 ha2 HI4 HOI4 hCr
          go_wp2_with fail
          refine Met_any t C _ _ _ (HT.out.grow HG5.out) HI5.out HV.out HSM.out.asc _ ?_
          intro w6 v6 hg6 ho6
          rw [HMT.out, HO.out] at ho6
          have hs6 := ho6.slc encI_len
          have HM6 := Lib.hid hs6
          obtain ⟨a6, c6, rfl, jk⟩ := hs6
          rw [natL_len] at HM6 ⊢
          have HG6 := Lib.hid (HG5.out.trans hg6)
          have HI6 := Lib.hid (HI5.out.grow hg6)
          have HOI6 := Lib.hid (HOI5.out.grow hg6)
          clear hg6 ho6 jk HI5 HOI5
          go_wp2_with fail
          refine Least_any t C _ _ _ (HT.out.grow HG6.out) HI6.out HV.out HSM.out.asc (fun i hi he => by
            have h1 := HSM.out.less i hi
            have h2 := of_decide_eq_true HSM.out.isC
            unfold covH at h1
            exact of_decide_eq_false h1 (he.trans h2)) _ ?_
          intro w7 v7 hg7 hi7
          have hi7b := hi7
          obtain ⟨a7, c7, rfl, jk⟩ := hi7b
          rw [natL_len] at hi7 ⊢
          have HL7 := Lib.hid hi7
          have HG7 := Lib.hid (HG6.out.trans hg7)
          have HI7 := Lib.hid (HI6.out.grow hg7)
          have HM7 := Lib.hid (HM6.out.grow hg7)
          have HOI7 := Lib.hid (HOI6.out.grow hg7)
          clear hg7 hi7 jk HI6 HOI6 HM6
          go_wp2_with fail
          refine sameInts8_any (natL O) (natL O) _ _ _ HM7.out HOI7.out _ ?_
          intro w8 hg8
          rw [show decide (natL O = natL O) = true from decide_eq_true rfl]
          have HG8 := Lib.hid (HG7.out.trans hg8)
          have HI8 := Lib.hid (HI7.out.grow hg8)
          have HL8 := Lib.hid (HL7.out.grow hg8)
          have HOI8 := Lib.hid (HOI7.out.grow hg8)
          clear hg8 HI7 HM7 HL7 HOI7
          go_wp2_with fail
          refine sameInts8_any (natL C) (natL C) _ _ _ HL8.out HI8.out _ ?_
          intro w9 hg9
          rw [show decide (natL C = natL C) = true from decide_eq_true rfl]
          have HG9 := Lib.hid (HG8.out.trans hg9)
          have HOI9 := Lib.hid (HOI8.out.grow hg9)
          clear hg9 HI8 HL8 HOI8
          go_wp2_with fail
          refine Greedy_any t _ _ (HT.out.grow HG9.out) HV.out _ ?_
          intro w10 v10 S hg10 hi10 hv10 hp10 hgr10
          obtain ⟨a10, c10, rfl⟩ := hv10
          have HG10 := Lib.hid (HG9.out.trans hg10)
          have HOI10 := Lib.hid (HOI9.out.grow hg10)
          have HS10 := Lib.hid hi10
          have HPS := Lib.hid hp10
          have HGR := Lib.hid hgr10
          clear hg10 hi10 hp10 hgr10 HOI9
          go_wp2_with fail
          refine Wait_any t S _ _ _ (HT.out.grow HG10.out) HS10.out HV.out HPS.out _ ?_
          intro w11 hg11
          obtain ⟨a, ha⟩ : ∃ a, waitH (hitS t) (openH (hitS t) (goalsS t) t.length) S = a := ⟨_, rfl⟩
          have HA := Lib.hid ha
          rw [ha]
          have HG11 := Lib.hid (HG10.out.trans hg11)
          have HOI11 := Lib.hid (HOI10.out.grow hg11)
          have HS11 := Lib.hid (HS10.out.grow hg11)
          clear hg11 ha HS10 HOI10
          go_wp2_with fail
          refine Best_any t _ _ (HT.out.grow HG11.out) HV.out _ ?_
          intro w12 v12 B hg12 hi12 hv12 hp12 hmin
          obtain ⟨a12, c12, rfl⟩ := hv12
          obtain ⟨b, hb⟩ : ∃ b, waitH (hitS t) (openH (hitS t) (goalsS t) t.length) B = b := ⟨_, rfl⟩
          have hab := hmin S HPS.out
          have ha4 := greedy_le HGR.out HPS.out hp12
          have hb90 := waitH_le (hitS t) B (openH (hitS t) (goalsS t) t.length)
          rw [HA.out, hb] at hab ha4
          have HB := Lib.hid hb
          have HPB := Lib.hid hp12
          have hb99 : b ≤ 90 := by
            rw [hb] at hb90
            have h1 : (openH (hitS t) (goalsS t) t.length).length ≤ 10 := Nat.le_trans (met_len _ _ _) HV.out.goals
            have h2 : B.length = t.length := by rw [hp12.length_eq, List.length_range]
            have h3 := HV.out.rows
            exact Nat.le_trans hb90 (Nat.le_trans (Nat.mul_le_mul h1 (show B.length + 1 ≤ 9 by omega)) (by decide))
          rw [hb]
          have HG12 := Lib.hid (HG11.out.trans hg12)
          have HOI12 := Lib.hid (HOI11.out.grow hg12)
          have HS12 := Lib.hid (HS11.out.grow hg12)
          have HB12 := Lib.hid hi12
          clear hg12 hi12 hp12 hmin hb HS11 HOI11 hb90
          go_wp2_with fail
          refine Wait_any t B _ _ _ (HT.out.grow HG12.out) HB12.out HV.out HPB.out _ ?_
          intro w13 hg13
          rw [HB.out]
          have HG13 := Lib.hid (HG12.out.trans hg13)
          have HOI13 := Lib.hid (HOI12.out.grow hg13)
          have HS13 := Lib.hid (HS12.out.grow hg13)
          clear hg13 HS12 HOI12 HB12
          have t1 : ((b : Int) != (b : Int)) = false := by simp
          have t2 : ¬ (a : Int) < (b : Int) := by omega
          have t3 : IntKind.i64.wrap (4 * (b : Int)) = 4 * (b : Int) := IntWalk.i64_in _ (by omega)
          have t4 : ¬ (a : Int) > 4 * (b : Int) := by omega
          have t5 : ¬ a < b := by omega
          have t6 : ¬ 4 * (b : Int) < (a : Int) := by omega
          have t7 : decide (a < b) = false := decide_eq_false t5
          have t8 : decide (4 * (b : Int) < (a : Int)) = false := decide_eq_false t6
          clear hab ha4 hb99
          go_upto_block 0 with fail
          go_cut [24] from 38 (fun kv wc => ∃ k : Nat, kv = .int .i64 k ∧ C.length ≤ k ∧ k ≤ 8 ∧ Grow w wc)
          case first => as_aux_lemma =>
            clear t1 t2 t3 t4 t5 t6 t7 t8 hAC
            have hS8 : S.length ≤ 8 := by have h1 := HPS.out.length_eq; have h2 := HV.out.rows; rw [List.length_range] at h1; omega
            go_wp2_with fail
            go_loopw [24, 25, 26, 27] (fun kv _ _ _ wr => ∃ k : Nat, k ≤ S.length ∧ kv = .int .i64 k ∧ Grow w13 wr ∧ covH (hitS t) (goalsS t) t.length (S.take k) = true) (fun kv _ _ _ _ => (intOf kv).toNat)
            case atStart => exact ⟨S.length, Nat.le_refl _, rfl, Grow.refl _, by rw [List.take_of_length_le (Nat.le_refl _), su_cov (fun r => HPS.out.mem_iff)]; exact cov_range _ _ _⟩
            case round => as_aux_lemma =>
              obtain ⟨k, hk, rfl, hg, hcv⟩ := hrel
              have HG := Lib.hid hg
              have HCK := Lib.hid (su_le HSM.out HPS.out hcv)
              clear hg hcv
              by_cases hk0 : k = 0
              · subst hk0
                have t0 : ¬ ((0 : Nat) : Int) > 0 := by omega
                go_wp2_with fail
                go_meet
                exact ⟨0, rfl, HCK.out, by omega, HG13.out.trans HG.out⟩
              · obtain ⟨m, hm⟩ : ∃ m, m + 1 = k := ⟨k - 1, by omega⟩
                have q1 : IntKind.i64.wrap ((k : Int) - 1) = (m : Int) := by rw [show (k : Int) - 1 = (m : Int) by omega]; exact IntWalk.i64_in _ (by omega)
                have q2 : (k : Int) > 0 := by omega
                have q3 : (0 : Int) ≤ (m : Int) := by omega
                have hm8 : m < S.length := by omega
                have HS := Lib.hid (HS13.out.grow HG.out)
                obtain ⟨sb, so, hsa, hsb⟩ : ∃ b o, a10 = some ⟨b, o, none⟩ ∧ b < wr.heap.size := by
                  obtain ⟨_, _, e, _, _, h⟩ := HS.out
                  injection e with e1 _ _
                  subst e1
                  rcases h with ⟨h0, _⟩ | ⟨b, o, h0, h1, _⟩
                  · have := congrArg List.length h0
                    rw [natL_len, List.length_nil] at this; omega
                  · exact ⟨b, o, h0, h1⟩
                subst hsa
                have hsc : S.length ≤ c10 ∧ c10 ≤ 9223372036854775807 := by
                  obtain ⟨_, _, e, h1, h2, _⟩ := HS.out
                  rw [natL_len] at h1
                  injection e with _ _ e3
                  subst e3
                  exact ⟨h1, h2⟩
                obtain ⟨qc1, qc2⟩ := hsc
                have q4 : (m : Int) ≤ (c10 : Int) := by omega
                have hn4 : (natL S).take m = natL (S.take m) := by unfold natL; rw [List.map_take]
                have htk := su_take HS.out (m := m) (by rw [natL_len]; omega)
                rw [hn4] at htk
                have HTK := Lib.hid htk
                have HLT := Lib.hid (show (natL (S.take m)).length ≤ 8 by rw [natL_len, List.length_take]; omega)
                clear htk hn4 hk0
                go_wp2_with (at_builtin; refine wpList_appAll _ rfl (.tmp 183) (.tmp 187) 25 rfl wr.heap.size 3 Tryz.underlying25 info_int rfl (by decide) (by decide) encI encI_len encI_one _ [] rfl (ownsRow_empty wr 1 _ _ _ (Nat.le_refl _)) _ (natL (S.take m)) rfl (HTK.out.grow ((Grow.refl wr).alloc _)) (by have := HLT.out; simp only [List.length_nil]; omega) (by simp) ?_; intro v20 w20 hown20 hgr20)
                have HG20 := Lib.hid (HG.out.trans (show Grow wr w20 from grown_below (ownsRow_empty (α := Int) wr 1 3 encI _ (Nat.le_refl _)) hgr20 (Nat.le_refl _) (by simp) ((Grow.refl wr).alloc _)))
                have hsz20 : w13.heap.size ≤ wr.heap.size := HG.out.sz
                have HOW := Lib.hid (show w20.ownsRow wr.heap.size 3 1 v20 (natL (S.take m)).length ((natL (S.take m)).flatMap encI) from hown20)
                clear hown20 hgr20 HTK
                refine sortOwn_any (S.take m) v20 wr.heap.size _ w20 HOW.out (by have := HLT.out; rw [natL_len] at this; omega) _ ?_
                intro w21 S' hb21 hi21 hp21 hs21
                have HG21 := Lib.hid (show Grow w13 w21 from Below.trans HG20.out (hb21.mono hsz20))
                have HI21 := Lib.hid hi21
                have HAS := Lib.hid (su_asc HPS.out hp21 hs21)
                have HMS := Lib.hid (fun r => hp21.mem_iff (a := r))
                clear hb21 hi21 hp21 hs21 HOW
                go_wp2_with fail
                refine Met_any t S' _ _ _ (HT.out.grow (HG13.out.trans HG21.out)) HI21.out HV.out HAS.out _ ?_
                intro w22 v22 hg22 ho22
                rw [su_met HMS.out] at ho22
                have hs22 := ho22.slc encI_len
                obtain ⟨a22, c22, rfl, jk1, jk2, jk3⟩ := hs22
                rw [natL_len]
                have hfull := fun h => su_full (hit := hitS t) (G := goalsS t) (n := t.length) (S := S.take m) (fun r hr => List.mem_range.1 (HPS.out.mem_iff.1 (List.mem_of_mem_take hr))) h
                obtain ⟨L, hL⟩ : ∃ L, (metH (hitS t) (goalsS t) (S.take m)).length = L := ⟨_, rfl⟩
                rw [hL, HO.out] at hfull
                rw [hL]
                have HFU := Lib.hid hfull
                have HG22 := Lib.hid (HG21.out.trans hg22)
                clear jk1 jk2 jk3 ho22 hg22 hfull hL HI21 HAS HMS
                by_cases hlo : L < O.length
                · have q5 : (L : Int) < (O.length : Int) := by omega
                  go_wp2_with fail
                  go_meet
                  exact ⟨k, rfl, HCK.out, by omega, HG13.out.trans HG22.out⟩
                · have q5 : ¬ (L : Int) < (O.length : Int) := by omega
                  have HCV := Lib.hid (HFU.out hlo)
                  go_wp2_with fail
                  go_roundw
                  case rel => exact ⟨m, by omega, by go_num, HG22.out, HCV.out⟩
                  case measure => simp [intOf]; omega
          case rest => as_aux_lemma =>
            obtain ⟨k, rfl, hck, hk8, hgc⟩ := hcut
            have HGC := Lib.hid hgc
            have t9 : ¬ (k : Int) < (C.length : Int) := by omega
            clear t1 t2 t3 t4 t5 t6 t7 t8 hAC hck hgc
            go_wp2_with fail
            rw [show O.length = (natL O).length from (natL_len O).symm]
            go_meet
            exact HGC.out
        case rest => as_aux_lemma =>
          have HG := Lib.hid hcut
          clear hcut HE3 HO3 HG3
          go_wp2_with fail
          refine Mutants_any p _ _ (HP.out.grow HG.out) _ ?_
          intro w14 v14 hg14 hm14
          have HG14 := Lib.hid (HG.out.trans hg14)
          by_cases hvp : valP p = 0
          rotate_left
          · have t1 : (valP p != 0) = true := by simpa using hvp
            obtain ⟨ma, mc, rfl, _⟩ := hm14
            generalize valP p = e at *
            generalize (mutO p).length = ml
            clear hvp hg14
            go_wp2_with fail
            exact HR.out _ HG14.out
          have hmo : mutO p = mutM p p.length := by unfold mutO; rw [hvp, ifOK_ok]
          rw [hmo] at hm14
          rw [hvp]
          obtain ⟨M, hM⟩ : ∃ M, mutM p p.length = M := ⟨_, rfl⟩
          rw [hM] at hm14
          have HMU := Lib.hid hM
          have HM := Lib.hid hm14
          have HVP := Lib.hid hvp
          obtain ⟨ma, mc, rfl, mq1, mq2, jk⟩ := hm14
          obtain ⟨ml, hml⟩ : ∃ ml, M.length = ml := ⟨_, rfl⟩
          have HML := Lib.hid hml
          rw [hml] at HM mq1 ⊢
          obtain ⟨n, hn⟩ : ∃ n, l.length = n := ⟨_, rfl⟩
          have HN := Lib.hid hn
          have hn50 : n ≤ 50 := by rw [← hn]; exact HL50.out
          have HLT := Lib.hid (show TestsAt w (.slice la n lc) l from hn ▸ HL.out)
          rw [hn] at ql1 ⊢
          clear hmo hM hvp jk hml hg14 hn
          by_cases hn0 : n = 0
          · subst hn0
            go_wp2_with fail
            exact HR.out _ HG14.out
          by_cases hm0 : ml = 0
          · have t1 : ((n : Int) == 0) = false := beq_eq_false_iff_ne.2 (by omega)
            subst hm0
            go_wp2_with fail
            exact HR.out _ HG14.out
          have t1 : ((n : Int) == 0) = false := beq_eq_false_iff_ne.2 (by omega)
          have t2 : ((ml : Int) == 0) = false := beq_eq_false_iff_ne.2 (by omega)
          obtain ⟨m, hm⟩ : ∃ m, min ml 10 = m := ⟨_, rfl⟩
          have hm1 : 0 < m := by omega
          have hm10 : m ≤ 10 := by omega
          have hmml : m ≤ ml := by omega
          go_wp2_with fail
          clear t1 t2
          go_loopw [29, 30] (fun tv iv wr => ∃ (k : Nat) (bs : List Nat), k ≤ n ∧ iv = .int .i64 k ∧ Grow w14 wr ∧ MkT w14.heap.size m k 25 bs wr tv) (fun _ iv _ => n - (intOf iv).toNat)
          case atStart => exact ⟨0, [], Nat.zero_le _, rfl, Grow.refl _, MkT.nil _ _ _ _⟩
          case round => as_aux_lemma =>
            obtain ⟨k, bs, hk, rfl, hg, hmk⟩ := hrel
            have HGA := Lib.hid hg
            have HMK := Lib.hid hmk
            clear hg hmk
            by_cases hlt : k < n
            · have hlt2 : (k : Int) < (n : Int) := by omega
              have hmake := mk_ints m hm1 hm10 wr
              have hmin : min (ml : Int) 10 = (m : Int) := by omega
              have hsz := HGA.out.sz
              have HLE := Lib.hid (show (bs.map (loZ m)).length < 100000000000 by rw [List.length_map, HMK.out.len]; omega)
              go_wp2_with (at_builtin; refine wpList_appAt8 _ rfl (.tmp 233) (.tmp 238) 22 rfl w14.heap.size 25 Tryz.underlying22 info_sli8 rfl (by decide) (by decide) encLo encLo_len encLo_one _ (bs.map (loZ m)) rfl ((((Grow.refl wr).alloc _).alloc _).owns HMK.out.own.row) _ (loZ m wr.heap.size) 1 rfl (newsG _ _ (by simp) (encLo (loZ m wr.heap.size)) _) HLE.out (by simp; omega) ?_; intro v5 w5 hown5 hgr5 hat5)
              have HM5 := Lib.hid (HMK.out.app hsz (by omega) hown5 hgr5 hat5)
              have HG5 := Lib.hid (show Grow w14 w5 from grown_below HMK.out.own.row hgr5 (Nat.le_refl _) (by simp; omega) ((HGA.out.alloc _).alloc _))
              clear hown5 hgr5 hat5 hmake
              go_roundw
              case rel => exact ⟨k + 1, bs ++ [wr.heap.size], by omega, by go_num, HG5.out, HM5.out⟩
              case measure => simp [intOf]; omega
            · have hlt2 : ¬ (k : Int) < (n : Int) := by omega
              obtain rfl : n = k := by omega
              obtain ⟨ob, oo, tc2, hte, htc1, htc2, htab⟩ := HMK.out.start (by omega)
              subst hte
              have HTAB := Lib.hid htab
              have HGB := Lib.hid (HG14.out.trans HGA.out)
              obtain ⟨w15, rfl⟩ : ∃ z : World, z = wr := ⟨_, rfl⟩
              clear htab hlt HMK
              obtain ⟨K, hK⟩ : ∃ K : Nat → List Int, K = fun j => ((M[j]?).map fun e => brkO p [e] l).getD [] := ⟨_, rfl⟩
              have hKg : ∀ (j : Nat) e, M[j]? = some e → K j = brkO p [e] l := fun j e he => by rw [hK]; show ((M[j]?).map _).getD [] = _; rw [he]; rfl
              have HKG := Lib.hid hKg
              have HKI := Lib.hid (show ∀ j, j < m → ∀ i ∈ K j, 0 ≤ i ∧ i.toNat < n from fun j hj i hi => by
                obtain ⟨e, he⟩ : ∃ e, M[j]? = some e := ⟨_, List.getElem?_eq_getElem (by rw [HML.out]; omega)⟩
                rw [HKG.out j e he] at hi
                rw [← HN.out]
                exact brkO_mem hi)
              clear hK hKg
              go_upto_block 4 with fail
              go_cut [] from 38 (fun wx => ∃ P : Nat → Nat → Bool, Grow w14 wx ∧ Tab w14.heap.size wx ob oo n bs m P ∧ KlP K m 0 n m P ∧ chkT p l = 0)
              case first => as_aux_lemma =>
                go_wp2_with fail
                go_loopw [31, 32, 33, 34] (fun gv _ _ _ wr => ∃ (g : Nat) (P : Nat → Nat → Bool), g ≤ m ∧ gv = .int .i64 g ∧ Grow w14 wr ∧ Tab w14.heap.size wr ob oo n bs m P ∧ KlP K g 0 n m P ∧ (0 < g → chkT p l = 0)) (fun gv _ _ _ _ => m - (intOf gv).toNat)
                case atStart => exact ⟨0, _, Nat.zero_le _, rfl, HGA.out, HTAB.out, KlP.start _ _ _, fun h => by omega⟩
                case round => as_aux_lemma =>
                  obtain ⟨g, P, hg, rfl, hgr, htb, hkl, hck⟩ := hrel
                  have HGR := Lib.hid hgr
                  have HTB := Lib.hid htb
                  have HKL := Lib.hid hkl
                  have HCK := Lib.hid hck
                  clear hgr htb hkl hck HTAB
                  by_cases hgm : g < m
                  · have q1 : (g : Int) < (ml : Int) := by omega
                    have q2 : (g : Int) < 10 := by omega
                    obtain ⟨⟨et, eo, ed, ea, eb⟩, he⟩ : ∃ e, M[g]? = some e := ⟨_, List.getElem?_eq_getElem (by rw [HML.out]; omega)⟩
                    have hmg := HM.out.grow HGR.out
                    rw [← HML.out] at hmg
                    obtain ⟨mb, mo, hma, hmb, y0, y1, y2, y3, y4⟩ := edits_at hmg he
                    subst hma
                    have HKE := Lib.hid (HKG.out g _ he)
                    obtain ⟨w16, rfl⟩ : ∃ z : World, z = wr := ⟨_, rfl⟩
                    clear hmg he
                    go_wp2_with fail
                    refine Kills8_any p l et eo ed ea eb _ _ _ (HP.out.grow (HG14.out.trans HGR.out)) (HLT.out.grow (HG14.out.trans HGR.out)) _ ?_
                    intro w17 v17 hg17 hk17 hn17
                    have HG17 := Lib.hid (HGR.out.trans hg17)
                    by_cases hke : kilE p l ⟨et, ⟨eo, ed, ea, eb⟩⟩ = 0
                    rotate_left
                    · have t1 : (kilE p l ⟨et, ⟨eo, ed, ea, eb⟩⟩ != 0) = true := by simpa using hke
                      generalize kilE p l ⟨et, ⟨eo, ed, ea, eb⟩⟩ = e at t1 ⊢
                      clear hke hk17 hn17 hg17 y0 y1 y2 y3 y4
                      go_wp2_with fail
                      exact HR.out _ (HG14.out.trans HG17.out)
                    have hck1 : chkT p l = 0 := chkT_ok.2 (kilE_ok.1 hke).1
                    have hko : kilO p l ⟨et, ⟨eo, ed, ea, eb⟩⟩ = K g := by
                      rw [HKE.out, (brkO_kil hke).2]
                      unfold kilO
                      rw [hke, ifOK_ok]
                    rw [hko] at hk17
                    rw [hke]
                    have HC1 := Lib.hid hck1
                    have HT17 := Lib.hid (HTB.out.grow hg17)
                    have hoff : ∀ b o s, ∀ a n c, v17 = .slice a n c → a = some ⟨b, o, s⟩ → ∀ r ∈ bs, b ≠ r := fun b o s a n c hv ha r hr => by
                      have h1 := hn17 ⟨b, o, s⟩ n c (by rw [hv, ha])
                      have h2 := (HTB.out.blk r hr).2.1
                      intro e
                      subst e
                      exact absurd h1 (by show ¬ w16.heap.size ≤ b; omega)
                    have HK17 := Lib.hid hk17
                    obtain ⟨ka, kc, rfl, kq1, kq2, jk⟩ := hk17
                    have HOF := Lib.hid (fun b o s h => hoff b o s ka _ kc rfl h)
                    obtain ⟨L, hL⟩ : ∃ L, K g = L := ⟨_, rfl⟩
                    have HLK := Lib.hid hL
                    rw [hL] at HK17 kq1 ⊢
                    have HLI := Lib.hid (hL ▸ HKI.out g hgm)
                    clear hke hck1 hko hn17 hg17 hoff jk hL y0 y1 y2 y3 y4 HKE HTB
                    go_wp2_with fail
                    go_loopw [34] (fun iv wr => ∃ (q : Nat) (P : Nat → Nat → Bool), q ≤ L.length ∧ iv = .int .i64 q ∧ Grow w14 wr ∧ IntsAt wr (.slice ka L.length kc) L ∧ Tab w14.heap.size wr ob oo n bs m P ∧ KlP K g q n m P) (fun iv _ => L.length - (intOf iv).toNat)
                    case atStart => exact ⟨0, P, Nat.zero_le _, rfl, HG17.out, HK17.out, HT17.out, HKL.out⟩
                    case round => as_aux_lemma =>
                      obtain ⟨q9, P2, hq, rfl, hgr, hka, htb, hkl⟩ := hrel
                      have HGR2 := Lib.hid hgr
                      have HKA2 := Lib.hid hka
                      have HTB2 := Lib.hid htb
                      have HKL2 := Lib.hid hkl
                      clear hgr hka htb hkl HT17 HK17 HKL
                      by_cases hlq : q9 < L.length
                      · obtain ⟨x, hx⟩ : ∃ x, L[q9]? = some x := ⟨_, List.getElem?_eq_getElem hlq⟩
                        obtain ⟨h0, h1⟩ := HLI.out x (List.mem_of_getElem? hx)
                        obtain ⟨i, rfl⟩ : ∃ i : Nat, x = i := ⟨x.toNat, by omega⟩
                        have hin : i < n := by omega
                        obtain ⟨kb, ko, hkae, hkb, z0⟩ := ints_at HKA2.out hx
                        obtain ⟨b, hb⟩ : ∃ b, bs[i]? = some b := ⟨_, List.getElem?_eq_getElem (by rw [HTB2.out.len]; exact hin)⟩
                        have hbm := List.mem_of_getElem? hb
                        have z1 := HTB2.out.out i b hb
                        obtain ⟨z2, z3⟩ := HTB2.out.row i b hb g _ (rowP_at hgm)
                        generalize (if P2 i g then (1 : Int) else 0) = y at z2
                        have hob := HTB2.out.obl
                        have hbl := (HTB2.out.blk b hbm).2.1
                        have r1 : (q9 : Int) < (L.length : Int) := by omega
                        have r2 : ¬ (i : Int) < 0 := by omega
                        have r3 : ¬ (i : Int) ≥ (n : Int) := by omega
                        have r4 : (i : Int) < (n : Int) := by omega
                        have r5 : (g : Int) < (m : Int) := by omega
                        have HT3 := Lib.hid (HTB2.out.set hb hgm)
                        have HKA3 := Lib.hid (slc_setCell8 (g := b) (j := g) (u := .int .i64 1) HKA2.out (fun b' o s h => HOF.out b' o s h b hbm))
                        have HKL3 := Lib.hid (HKL2.out.set (i := i) (by rw [HLK.out]; exact hx))
                        have HG3 := Lib.hid (show Grow w14 (wr.setCell ⟨b, g, none⟩ (.int .i64 1)) from Below.setCell HGR2.out (p := ⟨b, g, none⟩) (HTB2.out.blk b hbm).1 _)
                        subst hkae
                        clear hx h0 h1 hb hbm
                        go_wp2_with fail
                        go_roundw
                        case rel => exact ⟨q9 + 1, _, by omega, by go_num, HG3.out, HKA3.out, HT3.out, HKL3.out⟩
                        case measure => simp [intOf]; omega
                      · have r1 : ¬ (q9 : Int) < (L.length : Int) := by omega
                        have HKN := Lib.hid (HKL2.out.next (by rw [HLK.out]; omega))
                        clear hlq
                        go_wp2_with fail
                        go_roundw
                        case rel => exact ⟨g + 1, P2, by omega, by go_num, HGR2.out, HTB2.out, HKN.out, fun _ => HC1.out⟩
                        case measure => simp [intOf]; omega
                  · obtain rfl : m = g := by omega
                    have HCE := Lib.hid (HCK.out hm1)
                    by_cases hm11 : ml ≤ 10
                    · have q1 : ¬ (m : Int) < (ml : Int) := by omega
                      go_wp2_with fail
                      go_meet
                      exact ⟨P, HGR.out, HTB.out, HKL.out, HCE.out⟩
                    · have q1 : (m : Int) < (ml : Int) := by omega
                      have q2 : ¬ (m : Int) < 10 := by omega
                      go_wp2_with fail
                      go_meet
                      exact ⟨P, HGR.out, HTB.out, HKL.out, HCE.out⟩
              case rest => as_aux_lemma =>
                obtain ⟨P, hgx, htb, hkl, hck⟩ := hcut
                have HGX := Lib.hid (HG14.out.trans hgx)
                have hn8 : n ≤ 8 := by rw [← HN.out]; exact (valT_ok.1 (chkT_ok.1 hck).2).1
                have hn1 : 0 < n := by omega
                have hen := enM_tab (p := p) (ts := l) (hit := hitS (tabP n m P)) (K := K) (G := m) (by rw [HN.out]; exact hkl.tab HKI.out) (by rw [HMU.out, HML.out]; exact hmml) (fun g hg e he => HKG.out g e (by rw [HMU.out] at he; exact he))
                rw [HN.out, HMU.out, HML.out] at hen
                obtain ⟨S, hS1, hS2, hS3, hS4⟩ := hen
                have hso : enO p l = natL S := by unfold enO; rw [hck, ifOK_ok]; exact hS1
                have HSO := Lib.hid hso
                have HSA := Lib.hid hS2
                have HSC := Lib.hid hS3
                have HSS := Lib.hid hS4
                have HCK := Lib.hid hck
                have HTV := Lib.hid (tabP_val (P := P) hn1 hn8 hm10)
                have HTG := Lib.hid (tabP_goals (m := m) (P := P) hn1)
                have HTF := Lib.hid (htb.fam htc1 htc2 (by omega))
                obtain ⟨w17, rfl⟩ : ∃ z : World, z = wc := ⟨_, rfl⟩
                clear hgx htb hkl hck hS1 hS2 hS3 hS4 hso HTAB HGA HGB
                go_wp2_with fail
                refine Enough_any p l _ _ _ (HP.out.grow HGX.out) (HLT.out.grow HGX.out) _ ?_
                intro w18 v18 hg18 hi18
                rw [HSO.out] at hi18
                rw [HCK.out]
                have HI18 := Lib.hid hi18
                obtain ⟨a18, c18, rfl, jk⟩ := hi18
                rw [natL_len] at HI18 ⊢
                have HG18 := Lib.hid hg18
                clear hg18 jk
                go_wp2_with fail
                refine Cover_any (tabP n m P) _ _ (HTF.out.grow HG18.out) HTV.out _ ?_
                intro w19 v19 C hg19 hc19 hv19 hi19
                obtain ⟨a19, c19, rfl⟩ := hv19
                rw [tabP_len, HTG.out] at hc19
                have HSM := Lib.hid (su_small hc19)
                have hle : ¬ ((C.length : Nat) : Int) > ((S.length : Nat) : Int) := by have := HSM.out.le HSA.out HSC.out; omega
                have HI19 := Lib.hid hi19
                have HG19 := Lib.hid (HG18.out.trans hg19)
                have HIS := Lib.hid (HI18.out.grow hg19)
                clear hg19 hc19 hi19 HI18 HG18
                go_wp2_with fail
                refine CheckCover_any (tabP n m P) S _ _ _ (HTF.out.grow HG19.out) HIS.out HTV.out (by rw [tabP_len]; exact HSA.out) (by rw [tabP_len, HTG.out]; exact HSC.out) _ ?_
                intro w20 hg20
                have HI20 := Lib.hid (HI19.out.grow hg20)
                have HIS20 := Lib.hid (HIS.out.grow hg20)
                have HF := Lib.hid (fun (X : World) (h : Grow w20 X) => HR.out X (HGX.out.trans (HG19.out.trans (hg20.trans h))))
                clear hg20 HI19 HIS
                by_cases hm11 : 10 < ml
                · have q1 : (ml : Int) > 10 := by omega
                  go_wp2_with fail
                  exact HF.out _ (Grow.refl _)
                · have q1 : ¬ (ml : Int) > 10 := by omega
                  have hcs : C = S := HSM.out.eq (HSS.out (by omega))
                  subst hcs
                  go_wp2_with fail
                  refine sameInts8_any (natL C) (natL C) _ _ _ HI20.out HIS20.out _ ?_
                  intro w21 hg21
                  rw [show decide (natL C = natL C) = true from decide_eq_true rfl]
                  go_wp2_with fail
                  exact HF.out _ hg21
end Go.Proofs.YtfbfkkaepgcggaaGreat
