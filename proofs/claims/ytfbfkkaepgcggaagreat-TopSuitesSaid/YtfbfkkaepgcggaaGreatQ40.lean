/- The walk of suite.Least, at a set of which no row can be left out. -/
import Derived.Test.YtfbfkkaepgcggaaGreatQ39
import Derived.Test.YtfbfkkaepgcggaaGreatQ19
namespace Go.Proofs.YtfbfkkaepgcggaaGreat
open Go.RowKit

attribute [local go_sem] Oper.semAt_some

theorem natL_erase : ∀ (S : List Nat) (i : Nat), (natL S).eraseIdx i = natL (S.eraseIdx i)
  | [], _ => rfl
  | _ :: _, 0 => rfl
  | x :: S, i + 1 => by
    show (x : Int) :: (natL S).eraseIdx i = (x : Int) :: natL (S.eraseIdx i)
    rw [natL_erase S i]
set_option maxRecDepth 100000 in
set_option maxHeartbeats 16000000 in
theorem Least_any (T : List (List Int)) (S : List Nat) (tv sv : Value) (w : World) (hx : FamAt w tv T) (hs : IntsAt w sv (natL S)) (hv : ValS T) (ha : ascF T.length 0 S)
    (hne : ∀ i, i < S.length → (metH (hitS T) (goalsS T) (S.eraseIdx i)).length ≠ (metH (hitS T) (goalsS T) S).length)
    (R : Ending → World → Prop) (hR : ∀ w' v, Grow w w' → IntsAt w' v (natL S) → R (.returned (.tuple #[v, .int .i64 0])) w') :
    Calls Tryz.prog 12 #[tv, sv] w R := by
  have HX := Lib.hid hx
  have HS := Lib.hid hs
  have HV := Lib.hid hv
  have HA := Lib.hid ha
  have HNE := Lib.hid hne
  have HR := Lib.hid hR
  have hsl : S.length ≤ 8 := by
    have h1 := hv.rows
    rcases ascF_len ha with h | h <;> omega
  obtain ⟨a, c, rfl, k1, k2⟩ := hx.out
  obtain ⟨n, hn⟩ : ∃ n, T.length = n := ⟨_, rfl⟩
  have HN := Lib.hid hn
  obtain ⟨sa, sc, rfl, s1, s2, jk⟩ := hs
  rw [natL_len] at HS s1 ⊢
  rw [hn] at HX k1 ⊢
  clear hR hx hv hn ha hne jk
  refine (callsIn_wide (n := 5)).1 ?_
  refine callsIn_of_wp_marks Tryz.func12 rfl trivial ?_ rfl
  simp only [Tryz.ntmps12, List.size_toArray, List.length_cons, List.length_nil, Nat.reduceAdd, Nat.reduceSub, Array.replicate_succ, Array.replicate_zero, List.push_toArray, List.append_toArray, List.nil_append, List.cons_append]
  gi_wp2_with fail
  have hb0 := heap_two0 w (.cells #[.slice a n c] 22) (.cells #[.slice sa S.length sc] 25)
  have hb1 := heap_two1 w (.cells #[.slice a n c] 22) (.cells #[.slice sa S.length sc] 25)
  have hg0 : Grow w ((w.alloc (.cells #[.slice a n c] 22)).alloc (.cells #[.slice sa S.length sc] 25)) := ((Grow.refl w).alloc _).alloc _
  generalize (w.alloc (.cells #[.slice a n c] 22)).alloc (.cells #[.slice sa S.length sc] 25) = W at hb0 hb1 hg0 ⊢
  have HB0 := Lib.hid hb0
  have HB1 := Lib.hid hb1
  have HG0 := Lib.hid hg0
  clear hb0 hb1 hg0
  refine ⟨trivial, callsIn_wide.2 (rows_any T S _ _ _ (HX.out.grow HG0.out) (HS.out.grow HG0.out) HV.out HA.out _ ?_)⟩
  intro w1 hg1
  have HG1 := Lib.hid (HG0.out.trans hg1)
  have HT1 := Lib.hid (hg1.blk HB0.out)
  have HS1 := Lib.hid (hg1.blk HB1.out)
  have cS := box1 HS1.out
  clear hg1
  gi_wp2_with fail
  refine ⟨trivial, callsIn_wide.2 (cloneR_any (natL S) _ _ (HS.out.grow HG1.out) (by rw [natL_len]; omega) _ ?_)⟩
  intro w2 v2 hg2 hv2
  have HG2 := Lib.hid (HG1.out.trans hg2)
  have HT2 := Lib.hid (hg2.blk HT1.out)
  have HS2 := Lib.hid (hg2.blk HS1.out)
  obtain ⟨va, vc, rfl, q1, q2, jk⟩ := slc_of_owns encI_len hv2
  have HV2 := Lib.hid (show IntsAt w2 (.slice va S.length vc) (natL S) from by have h9 := slc_of_owns encI_len hv2; rw [natL_len] at h9; exact h9)
  rw [natL_len] at q1 ⊢
  have cS2 : (w2.alloc (.cells #[.slice va S.length vc] 25)).cell? ⟨w.heap.size + 1, 0, none⟩ = some (.slice sa S.length sc) := box1 (((Grow.refl w2).alloc _).blk HS2.out)
  clear hg2 hv2 jk cS
  gi_wp2_with fail
  have hbo := heap_alloc_new w2 (.cells #[.slice va S.length vc] 25)
  have hg3 := (Grow.refl w2).alloc (.cells #[.slice va S.length vc] 25)
  have hz3 : (w2.alloc (.cells #[.slice va S.length vc] 25)).heap.size = w2.heap.size + 1 := by simp
  generalize w2.alloc (.cells #[.slice va S.length vc] 25) = W3 at hbo hg3 hz3 cS2 ⊢
  have HG3 := Lib.hid (HG2.out.trans hg3)
  have HT3 := Lib.hid (hg3.blk HT2.out)
  have HS3 := Lib.hid (hg3.blk HS2.out)
  have HV3 := Lib.hid (HV2.out.grow hg3)
  have HO3 := Lib.hid hbo
  clear hbo hg3 cS2
  refine ⟨trivial, callsIn_wide.2 (backward8_any _ _ _ _ _ ?_)⟩
  have hbk := heap_alloc_new W3 (.cells #[.slice sa S.length sc] 25)
  have hg4 := (Grow.refl W3).alloc (.cells #[.slice sa S.length sc] 25)
  have hz4 : (W3.alloc (.cells #[.slice sa S.length sc] 25)).heap.size = W3.heap.size + 1 := by simp
  generalize W3.alloc (.cells #[.slice sa S.length sc] 25) = W0 at hbk hg4 hz4 ⊢
  have HG4 := Lib.hid (HG3.out.trans hg4)
  have HT4 := Lib.hid (hg4.blk HT3.out)
  have HS4 := Lib.hid (hg4.blk HS3.out)
  have HV4 := Lib.hid (HV3.out.grow hg4)
  have HO4 := Lib.hid (hg4.blk HO3.out)
  have HI4 := Lib.hid (HS.out.grow HG4.out)
  have HST := Lib.hid (back8_stops 4 (by omega) W3.heap.size W0.heap.size (.slice sa S.length sc) (natL S) (by rw [natL_len]; omega) W0 (Nat.le_refl _) (by omega) (box1 hbk) (IntsU.of HI4.out))
  have hzo : w2.heap.size < W0.heap.size := by omega
  clear hbk hg4
  gi_wp2_with fail
  have hcO : ∀ X, Grow W0 X → X.cell? ⟨w2.heap.size, 0, none⟩ = some (.slice va S.length vc) := fun X h => box1 (h.blk HO4.out)
  have HCO := Lib.hid hcO
  clear hcO
  have hst := HST.out
  rw [hz3] at hst
  refine wpIn_rangeFunc_ownG rfl (by omega) (encs := bkI (natL S)) (Kp := Below W0.heap.size) (gf := 60) (lb := #[.pointer (some ⟨w2.heap.size + 1, 0, none⟩)]) rfl trivial (enters_of Tryz.func60 (by kernel_rfl) rfl)
    hst belowK_t (belowK_b (w := W0) (Nat.le_refl _)) (Below.refl _ _) (fun _ => rfl)
    (fun _ X => Below W0.heap.size W0 X) (fun _ _ _ => False) (ownFrom_below (Nat.le_refl _) (Nat.le_refl _)) (fun _ _ _ _ _ hs _ _ => hs) (Below.refl _ _)
    (fun (j : Fin (natL S).length) => { tmps := #[.slice a n c, .slice sa S.length sc, .pointer (some ⟨w.heap.size, 0, none⟩), .pointer (some ⟨w.heap.size + 1, 0, none⟩), .slice none 0 0, .int .i64 0, .int .i64 0, .pointer (some ⟨w2.heap.size, 0, none⟩), .int .i64 (((natL S).length - 1 - j.1 : Nat) : Int), undef, .slice a n c, .slice sa S.length sc, .int .i64 0, .int .i64 0, .bool false, undef, .slice sa S.length sc, .slice va S.length vc, .slice sa S.length sc, .func (.func 60) #[] #[.pointer (some ⟨w2.heap.size + 1, 0, none⟩)], .int .i64 (((natL S).length - 1 - j.1 : Nat) : Int), .int .i64 ((natL S).getD ((natL S).length - 1 - j.1) 0), undef, undef, undef, undef, undef, undef, undef, undef, undef, undef, undef, undef, undef, undef, undef, undef, undef], defers := [] }) ?assign ?body ?done ?stop
  case assign =>
    intro l x X K hK
    unfold bkI
    gi_wp2
    exact hK
  case body =>
    rintro l pre j X hIp hpl
    have hGX : Grow W0 X := hIp
    obtain ⟨i, hie⟩ : ∃ z, (natL S).length - 1 - j.1 = z := ⟨_, rfl⟩
    have hil : i < S.length := by have h1 := j.2; have h2 := natL_len S; omega
    generalize (natL S).getD ((natL S).length - 1 - j.1) 0 = xv
    rw [hie]
    have HGX := Lib.hid hGX
    have HCX := HCO.out X hGX
    have HT5 := Lib.hid (hGX.blk HT4.out)
    have HS5 := Lib.hid (hGX.blk HS4.out)
    have HV5 := Lib.hid (HV4.out.grow hGX)
    clear hIp hGX hie
    gi_wp2_with fail
    refine ⟨trivial, CallsIn.inRound l (callsIn_wide.2 (cloneR_any (natL S) _ _ HV5.out (by rw [natL_len]; omega) _ ?_))⟩
    intro w5 v5 hg5 hv5
    have q9 : IntKind.i64.wrap ((i : Int) + 1) = (i : Int) + 1 := IntWalk.i64_in _ (by omega)
    have HG5 := Lib.hid hg5
    have HW5 := Lib.hid hv5
    clear hg5 hv5 HCX
    gi_wp2_with fail
    refine ⟨trivial, CallsIn.inRound l (callsIn_wide.2 (delete1_any (natL S) i X.heap.size v5 w5 (by rw [natL_len]; exact hil) HW5.out (by rw [natL_len]; omega) _ ?_))⟩
    intro w6 v6 hb6 hi6
    have hg6 : Grow X w6 := Below.trans HG5.out hb6
    have hel : (natL S).eraseIdx i = natL (S.eraseIdx i) := natL_erase S i
    rw [hel] at hi6
    obtain ⟨ea, ec, rfl, e1, e2, jk2⟩ := hi6
    rw [natL_len]
    have HI6 := Lib.hid (show IntsAt w6 (.slice ea (S.eraseIdx i).length ec) (natL (S.eraseIdx i)) from by rw [← natL_len]; exact ⟨ea, ec, rfl, e1, e2, jk2⟩)
    have HG6 := Lib.hid hg6
    clear hb6 hg6 hel jk2
    gi_wp2_with fail
    have HT6 := Lib.hid (HG6.out.blk HT5.out)
    have HS6 := Lib.hid (HG6.out.blk HS5.out)
    have HX6 := Lib.hid (HX.out.grow (HG4.out.trans (HGX.out.trans HG6.out)))
    have HI7 := Lib.hid (HI4.out.grow (HGX.out.trans HG6.out))
    have HSE := Lib.hid (show ∀ r ∈ S.eraseIdx i, r < T.length from fun r hr => (ascF_mem HA.out (List.mem_of_mem_eraseIdx hr)).2)
    have HSN := Lib.hid (show ∀ r ∈ S, r < T.length from fun r hr => (ascF_mem HA.out hr).2)
    have hl1 := met_len (hitS T) (goalsS T) (S.eraseIdx i)
    have hl2 := met_len (hitS T) (goalsS T) S
    have hg10 := HV.out.goals
    have hne := HNE.out i hil
    obtain ⟨L1, hL1⟩ : ∃ z, (metH (hitS T) (goalsS T) (S.eraseIdx i)).length = z := ⟨_, rfl⟩
    obtain ⟨L2, hL2⟩ : ∃ z, (metH (hitS T) (goalsS T) S).length = z := ⟨_, rfl⟩
    rw [hL1] at hl1
    rw [hL2] at hl2
    rw [hL1, hL2] at hne
    have HL1 := Lib.hid hL1
    have HL2 := Lib.hid hL2
    have hne2 : ((L1 : Int) == (L2 : Int)) = false := by rw [beq_eq_false_iff_ne]; omega
    clear hL1 hL2 hne
    refine wpIn_region_round (S := (fun Y : World => Y.heap[w.heap.size]? = some (.cells #[.slice a n c] 22 (0, 0)) ∧ Y.heap[w.heap.size + 1]? = some (.cells #[.slice sa S.length sc] 25 (0, 0)))) (by kernel_rfl) (no_defer (by kernel_rfl)) ⟨((Grow.refl w6).drew).blk HT6.out, ((Grow.refl w6).drew).blk HS6.out⟩ (fun hH => ?_)
    refine wpAnyH_take (i := 0) (v := .slice a n c) rfl (by kernel_rfl) (by kernel_rfl) (by kernel_rfl) (fun _ _ _ h => h) (Or.inl ⟨by rfl, ?_⟩) hH ?_
    · intro w9 hw9
      have c9 := box1 hw9.1
      go_simp
    try simp only [List.getElem_toArray, List.getElem_cons_zero, Act.put, List.setIfInBounds_toArray, List.set_cons_zero, List.set_cons_succ]
    refine wpAnyH_take (i := 1) (v := .slice ea (S.eraseIdx i).length ec) rfl (by kernel_rfl) (by kernel_rfl) (by kernel_rfl) (fun _ _ _ h => h) (Or.inl ⟨by rfl, ?_⟩) hH ?_
    · intro w9 hw9
      go_simp
    try simp only [List.getElem_toArray, List.getElem_cons_succ, List.getElem_cons_zero, Act.put, List.setIfInBounds_toArray, List.set_cons_zero, List.set_cons_succ]
    refine wpAnyH_take (i := 4) (v := .slice a n c) rfl (by kernel_rfl) (by kernel_rfl) (by kernel_rfl) (fun _ _ _ h => h) (Or.inl ⟨by rfl, ?_⟩) hH ?_
    · intro w9 hw9
      have c9 := box1 hw9.1
      go_simp
    try simp only [List.getElem_toArray, List.getElem_cons_succ, List.getElem_cons_zero, Act.put, List.setIfInBounds_toArray, List.set_cons_zero, List.set_cons_succ]
    refine wpAnyH_take (i := 5) (v := .slice sa S.length sc) rfl (by kernel_rfl) (by kernel_rfl) (by kernel_rfl) (fun _ _ _ h => h) (Or.inl ⟨by rfl, ?_⟩) hH ?_
    · intro w9 hw9
      have c9 := box1 hw9.2
      go_simp
    try simp only [List.getElem_toArray, List.getElem_cons_succ, List.getElem_cons_zero, Act.put, List.setIfInBounds_toArray, List.set_cons_zero, List.set_cons_succ]
    refine wpAnyH_ready (rs := [2]) (by kernel_rfl) (by simp) ?_
    refine AllReadyH.cons rfl (fun K hK => ?_) (AllReadyH.nil)
    go_simp
    refine met_any T (S.eraseIdx i) _ _ _ (HX6.out.grow (Grow.refl w6).drew) (HI6.out.grow (Grow.refl w6).drew) HV.out HSE.out _ ?_
    intro w7 v7 hg7 ho7
    obtain ⟨ma, mc, rfl, jk⟩ := ho7.slc encI_len
    rw [natL_len, HL1.out]
    clear jk ho7
    go_wp2_with fail
    refine hK.out _ _ ⟨hg7.blk hH.1, hg7.blk hH.2⟩ (fun hH2 => ?_)
    clear hK K hH
    have hH := hH2
    clear hH2
    try simp only [List.getElem_toArray, List.getElem_cons_succ, List.getElem_cons_zero, Act.put, List.setIfInBounds_toArray, List.set_cons_zero, List.set_cons_succ]
    have HG7 := Lib.hid ((Grow.refl w6).drew.trans hg7)
    clear hg7
    refine wpAnyH_take (i := 3) (v := .int .i64 (L1 : Nat)) rfl (by kernel_rfl) (by kernel_rfl) (by kernel_rfl) (fun _ _ _ h => h) (Or.inl ⟨by rfl, ?_⟩) hH ?_
    · intro w9 hw9
      go_simp
    try simp only [List.getElem_toArray, List.getElem_cons_succ, List.getElem_cons_zero, Act.put, List.setIfInBounds_toArray, List.set_cons_zero, List.set_cons_succ]
    refine wpAnyH_ready (rs := [6]) (by kernel_rfl) (by simp) ?_
    refine AllReadyH.cons rfl (fun K hK => ?_) (AllReadyH.nil)
    go_simp
    refine met_any T S _ _ _ (HX6.out.grow HG7.out) (by have h9 := HI7.out.grow HG7.out; exact h9) HV.out HSN.out _ ?_
    intro w8 v8 hg8 ho8
    obtain ⟨mb, md, rfl, jk⟩ := ho8.slc encI_len
    rw [natL_len, HL2.out]
    clear jk ho8
    go_wp2_with fail
    refine hK.out _ _ ⟨hg8.blk hH.1, hg8.blk hH.2⟩ (fun hH2 => ?_)
    clear hK K hH
    have hH := hH2
    clear hH2
    try simp only [List.getElem_toArray, List.getElem_cons_succ, List.getElem_cons_zero, Act.put, List.setIfInBounds_toArray, List.set_cons_zero, List.set_cons_succ]
    have HG8 := Lib.hid (HG6.out.trans (HG7.out.trans hg8))
    clear hg8
    refine wpAnyH_take (i := 7) (v := .int .i64 (L2 : Nat)) rfl (by kernel_rfl) (by kernel_rfl) (by kernel_rfl) (fun _ _ _ h => h) (Or.inl ⟨by rfl, ?_⟩) hH ?_
    · intro w9 hw9
      go_simp
    try simp only [List.getElem_toArray, List.getElem_cons_succ, List.getElem_cons_zero, Act.put, List.setIfInBounds_toArray, List.set_cons_zero, List.set_cons_succ]
    refine wpAnyH_take (i := 8) (v := .bool false) rfl (by kernel_rfl) (by kernel_rfl) (by kernel_rfl) (fun _ _ _ h => h) (Or.inl ⟨by rfl, ?_⟩) hH ?_
    · intro w9 hw9
      go_simp
    try simp only [List.getElem_toArray, List.getElem_cons_succ, List.getElem_cons_zero, Act.put, List.setIfInBounds_toArray, List.set_cons_zero, List.set_cons_succ]
    refine wpAnyH_done (by kernel_rfl) ?_ _
    clear hH
    unfold NoOut
    dsimp only
    gi_wp2_with fail
    exact ⟨⟨HG8.out.sz, fun _ _ _ hk _ => HG8.out.blk hk⟩, HG8.out.below (HGX.out.sz), Below.trans HGX.out (HG8.out.below HGX.out.sz)⟩
  case done =>
    rintro D ys X hD rfl hIp hK
    have hGX : Grow W0 X := hIp
    have HCX := HCO.out X hGX
    have hgP : Grow W0 (X.putObj D (.deferred none)) := Below.trans hGX (belowK_b (w := W0) (Nat.le_refl _) X D _ (.deferred none) hD hK rfl rfl)
    have HF := Lib.hid (HR.out _ _ (HG4.out.trans hgP) (HV4.out.grow hgP))
    have HK := Lib.hid hK
    clear hIp hGX hgP hK
    gi_wp2_with fail
    refine ⟨by simp, .inl ⟨_, _, rfl, run_takeDeferred HK.out, ?_⟩⟩
    refine ⟨_, results_tmp2 rfl _ _ _, ?_⟩
    have hfin := HF.out
    go_simp
    exact hfin
  case stop =>
    rintro D c' pre X _ _ h _
    exact h.elim
end Go.Proofs.YtfbfkkaepgcggaaGreat
