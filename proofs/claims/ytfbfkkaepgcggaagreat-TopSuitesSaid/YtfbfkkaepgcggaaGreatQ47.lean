/- The walk of Enough. -/
import Derived.Test.YtfbfkkaepgcggaaGreatQ46
namespace Go.Proofs.YtfbfkkaepgcggaaGreat
open Go.RowKit

theorem wrap_pow {i : Nat} (h : i ≤ 8) : IntKind.i64.wrap (1 * 2 ^ i) = ((2 ^ i : Nat) : Int) := by
  have h1 : (2 : Nat) ^ i ≤ 2 ^ 8 := Nat.pow_le_pow_right (by decide) h
  rw [Int.one_mul, show (2 : Int) ^ i = ((2 ^ i : Nat) : Int) by rw [Int.natCast_pow]; rfl]
  generalize 2 ^ i = q at h1 ⊢
  exact IntWalk.i64_in (q : Int) (by omega)
set_option maxRecDepth 100000 in
set_option maxHeartbeats 16000000 in
theorem Enough_any (p : List Ln) (ts : List Tst) (pv tv : Value) (w : World) (hp : LinesAt w pv p) (ht : TestsAt w tv ts) (R : Ending → World → Prop)
    (hR : ∀ w' v, Grow w w' → IntsAt w' v (enO p ts) → R (.returned (.tuple #[v, .int .i64 (chkT p ts)])) w') :
    Calls Tryz.prog 19 #[pv, tv] w R := by
  have HP := Lib.hid hp
  have HT := Lib.hid ht
  rw [show enO p ts = ifOK (chkT p ts) (bestN ts.length (killL p ts) (2 ^ ts.length)).1 from rfl] at hR
  have HR := Lib.hid hR
  obtain ⟨e, he⟩ : ∃ e, chkT p ts = e := ⟨_, rfl⟩
  have hok := fun h : e = 0 => chkT_ok.1 (he.trans h)
  rw [he] at HR
  have HE := Lib.hid he
  obtain ⟨pa, pc, rfl, jk1⟩ := hp
  obtain ⟨⟨ta, tc, rfl, jk2⟩, jk3⟩ := ht
  clear hR he jk1 jk2 jk3
  by_cases h0 : e = 0
  rotate_left
  · rw [ifOK_err h0] at HR
    have t1 : (e != 0) = true := by simpa using h0
    clear hok h0
    go_enter Tryz.func19, Tryz.ntmps19
    go_wp2_with fail
    refine programs_any p ts _ _ _ HP.out HT.out _ ?_
    intro w1 hg1
    rw [HE.out]
    have HF := Lib.hid (HR.out w1 (.slice none 0 0) hg1 (SlcAt.nil _ _ _))
    clear hg1
    go_wp2_with fail
    exact HF.out
  obtain ⟨hv, hvt⟩ := hok h0
  subst h0
  rw [ifOK_ok] at HR
  have hlen := mutM_len hv p.length (Nat.le_refl _)
  have hp8 := (valP_ok.1 hv).1
  have hn8 := (valT_ok.1 hvt).1
  have HV := Lib.hid hv
  have HKL := Lib.hid (killN_all p ts)
  have HBR := Lib.hid (fun (m : Ed) (i : Int) h => brkO_mem (p := p) (x := [m]) (ts := ts) (i := i) h)
  obtain ⟨M, hM⟩ : ∃ M, mutM p p.length = M := ⟨_, rfl⟩
  rw [hM] at hlen HKL
  have HM := Lib.hid hM
  have hM8 : M.length ≤ 8000 := by omega
  obtain ⟨n, hn⟩ : ∃ n, ts.length = n := ⟨_, rfl⟩
  rw [hn] at HR hn8 HBR
  have HN := Lib.hid hn
  obtain ⟨K, hK⟩ : ∃ K, killL p ts = K := ⟨_, rfl⟩
  rw [hK] at HR HKL
  have hk8 : ∀ l ∈ K, ∀ i ∈ l, i.toNat < 8 := by
    intro l hl i hi
    rw [← hK] at hl
    unfold killL at hl
    rw [List.mem_filter, List.mem_map] at hl
    obtain ⟨⟨m, _, rfl⟩, _⟩ := hl
    have := (brkO_mem hi).2
    omega
  have HK8 := Lib.hid hk8
  clear hok hv hvt hM hlen hn hK hk8
  go_enter Tryz.func19, Tryz.ntmps19
  go_wp2_with fail
  refine programs_any p ts _ _ _ HP.out HT.out _ ?_
  intro w1 hg1
  rw [HE.out]
  have HG1 := Lib.hid hg1
  clear hg1
  go_wp2_with fail
  refine mutants_any p _ _ (HP.out.grow HG1.out) HV.out _ ?_
  intro w2 v2 hg2 hv2
  rw [HM.out] at hv2
  have HX2 := Lib.hid hv2.edits
  obtain ⟨a2, c2, rfl, r1, r2, jk4⟩ := hv2.edits
  have HG2 := Lib.hid (HG1.out.trans hg2)
  clear hg2 jk4 hv2
  go_wp2_with fail
  go_loopw [7, 27] (fun out i wr => ∃ k : Nat, k ≤ M.length ∧ i = .int .i64 k ∧ Grow w2 wr ∧ wr.ownsRow w2.heap.size 3 1 out ((killN p ts M k).map fun l => (maskN l : Int)).length (((killN p ts M k).map fun l => (maskN l : Int)).flatMap encI)) (fun _ i _ => M.length - (intOf i).toNat)
  case atStart => exact ⟨0, Nat.zero_le _, rfl, Grow.refl _, World.ownsRow_nil _ _ _ _⟩
  case round =>
    obtain ⟨k, hk, rfl, hg, how⟩ := hrel
    have HGX := Lib.hid hg
    have HG := Lib.hid (HG2.out.trans hg)
    have HOW := Lib.hid how
    have hzw := hg.sz
    clear hg how
    by_cases hlt : k < M.length
    · obtain ⟨⟨t, op, d, a, b⟩, hx⟩ : ∃ x, M[k]? = some x := ⟨_, List.getElem?_eq_getElem hlt⟩
      obtain ⟨gb, o, rfl, hb, e0, e1, e2, e3, e4⟩ := edits_at (HX2.out.grow HGX.out) hx
      have hlt2 : (k : Int) < (M.length : Int) := by omega
      have HSN := Lib.hid (killN_succ (p := p) (ts := ts) hx)
      have hle : (killN p ts M k).length ≤ k := by
        unfold killN
        refine Nat.le_trans (List.length_filter_le _ _) ?_
        rw [List.length_map, List.length_take]; omega
      have HLB := Lib.hid (show ((killN p ts M k).map fun l => (maskN l : Int)).length < 100000000000 by rw [List.length_map]; omega)
      have HBM := Lib.hid (HBR.out ⟨t, ⟨op, d, a, b⟩⟩)
      obtain ⟨L, hL⟩ : ∃ L, brkO p [⟨t, ⟨op, d, a, b⟩⟩] ts = L := ⟨_, rfl⟩
      rw [hL] at HSN HBM
      have HL := Lib.hid hL
      have hgb2 := (Grow.refl wr).alloc (.cells #[.int .i64 t, .int .i64 op, .int .i64 d, .int .i64 a, .int .i64 b] 46)
      have HGB := Lib.hid hgb2
      clear hx hle hL hgb2
      go_wp2_with fail
      refine kills_any p ts t op d a b _ _ _ (HP.out.grow (HG.out.trans HGB.out)) (HT.out.grow (HG.out.trans HGB.out)) _ ?_
      intro w3 v3 hg3 hv3
      rw [HL.out] at hv3
      have HX3 := Lib.hid hv3
      obtain ⟨a3, c3, rfl, s1, s2, jk5⟩ := hv3
      have HG3 := Lib.hid (HGX.out.trans (HGB.out.trans hg3))
      have HO3 := Lib.hid ((HGB.out.trans hg3).owns HOW.out)
      have hz3 := (HGX.out.trans (HGB.out.trans hg3)).sz
      clear hg3 e0 e1 e2 e3 e4 HOW jk5
      go_wp2_with fail
      obtain ⟨wo, hwo⟩ : ∃ z : World, z = wr := ⟨_, rfl⟩
      clear hwo
      go_loopw [10, 36] (fun s i wr => ∃ j : Nat, j ≤ L.length ∧ i = .int .i64 j ∧ s = .int .i64 (maskN (L.take j) : Int) ∧ wr = w3) (fun _ i _ => L.length - (intOf i).toNat)
      case atStart => exact ⟨0, Nat.zero_le _, rfl, rfl, rfl⟩
      case round =>
        obtain ⟨j, hj, rfl, rfl, rfl⟩ := hrel
        by_cases hjl : j < L.length
        · obtain ⟨i, hi⟩ : ∃ x, L[j]? = some x := ⟨_, List.getElem?_eq_getElem hjl⟩
          obtain ⟨gb3, o3, rfl, hb3, f0⟩ := ints_at HX3.out hi
          have hjl2 : (j : Int) < (L.length : Int) := by omega
          obtain ⟨hi0, hin⟩ := HBM.out i (List.mem_of_getElem? hi)
          obtain ⟨q, rfl⟩ : ∃ q : Nat, i = q := ⟨i.toNat, by omega⟩
          have hq8 : q < 8 := by omega
          have HMT := Lib.hid (mask_take hi)
          have hm1 : maskN (L.take j) < 256 := mask_lt fun i hi => by have := (HBM.out i (List.mem_of_mem_take hi)).2; omega
          have hor := bits_or (maskN (L.take j)) (2 ^ q) hm1 (pow_lt8 hq8)
          have HWP := Lib.hid (wrap_pow (i := q) (by omega))
          have HOR := Lib.hid hor
          have y1 : (0 : Int) ≤ (q : Int) := by omega
          have y2 : (q : Int) ≤ 64 := by omega
          clear hi hor
          go_wp2_with fail
          go_roundw
          case rel =>
            refine ⟨j + 1, by omega, by go_num, ?_, by first | rfl | trivial⟩
            rw [HMT.out]
            have h1 := HWP.out
            rw [IntWalk.i64_left] at h1
            simp only [Int.toNat_natCast] at h1 ⊢
            rw [Int.one_mul] at h1
            rw [← HOR.out, ← h1]
          case measure => simp [intOf]; omega
        · have hjn : j = L.length := by omega
          subst hjn
          have htk : L.take L.length = L := List.take_length
          rw [htk]
          clear hj hjl htk
          by_cases hl0 : L = []
          · have hm0 : maskN L = 0 := mask_zero.2 hl0
            have hll : L.length = 0 := by rw [hl0]; rfl
            have HSE := Lib.hid (show killN p ts M (k + 1) = killN p ts M k by rw [HSN.out, if_pos hll, List.append_nil])
            rw [hm0, hll]
            clear hm0 hll
            go_wp2_with fail
            go_roundw
            case rel => exact ⟨k + 1, by omega, by go_num, HG3.out, by rw [HSE.out]; exact HO3.out⟩
            case measure => simp [intOf]; omega
          · have hm0 : maskN L ≠ 0 := fun h => hl0 (mask_zero.1 h)
            have hll : L.length ≠ 0 := fun h => hl0 (List.length_eq_zero_iff.1 h)
            have HSE := Lib.hid (show killN p ts M (k + 1) = killN p ts M k ++ [L] by rw [HSN.out, if_neg hll])
            have t1 : ((maskN L : Int) != 0) = true := bne_iff_ne.2 (by omega)
            have t2 : ¬ (maskN L : Int) = 0 := by omega
            clear hm0 hl0
            go_wp2_with (at_builtin; refine wpList_app _ rfl (.tmp 47) (.tmp 49) 25 rfl w2.heap.size 3 Tryz.underlying25 info_int rfl (by decide) (by decide) encI encI_len encI_one _ ((killN p ts M k).map fun l => (maskN l : Int)) rfl (((Grow.refl _).alloc _).owns HO3.out) _ (maskN L : Int) 1 rfl (newsG _ _ (by simp) (encI (maskN L : Int)) _) HLB.out (by simp; omega) ?_; intro out2 w5 hown5 hgr5)
            have HG5 := Lib.hid (show Grow w2 w5 from grown_below HO3.out hgr5 (Nat.le_refl _) (by simp; omega) (HG3.out.alloc _))
            have HO5 := Lib.hid hown5
            clear hown5 hgr5
            go_roundw
            case rel => exact ⟨k + 1, by omega, by go_num, HG5.out, by rw [HSE.out, List.map_append]; exact HO5.out⟩
            case measure => simp [intOf]; omega
    · have hkn : k = M.length := by omega
      have HO2 := HOW.out
      rw [hkn, HKL.out] at HO2
      have HND := Lib.hid (slc_of_owns encI_len HO2)
      obtain ⟨an, cn, hvn, n1, n2, jk6⟩ := slc_of_owns encI_len HO2
      subst hvn
      clear HO2 hkn jk6
      have HG6 := Lib.hid HG.out
      have HG7 := Lib.hid HGX.out
      have hpw : IntKind.i64.wrap (1 * 2 ^ n) = ((2 ^ n : Nat) : Int) := wrap_pow hn8
      obtain ⟨N, hNN⟩ : ∃ N, 2 ^ n = N := ⟨_, rfl⟩
      have hN9 : N ≤ 256 := by rw [← hNN]; exact Nat.pow_le_pow_right (by decide) hn8
      rw [hNN] at HR hpw
      have HPW := Lib.hid hpw
      have y1 : (0 : Int) ≤ (n : Int) := by omega
      have y2 : (n : Int) ≤ 64 := by omega
      have hnt : (ts.length : Int) = (n : Int) := by rw [HN.out]
      have HT2 := Lib.hid (HT.out.grow HG.out)
      have HKM := Lib.hid (fun (s : Nat) (hs : s < 256) => show (K.map fun l => (maskN l : Int)).any (misI s) = !covB K s by
        unfold covB
        rw [List.any_map, List.not_all_eq_any_not]
        have hcg : ∀ X : List (List Int), (∀ l ∈ X, ∀ i ∈ l, i.toNat < 8) → X.any (misI s ∘ fun l => ((maskN l : Nat) : Int)) = X.any fun l => !hasB s l := by
          intro X
          induction X with
          | nil => intro _; rfl
          | cons l r ih =>
            intro h
            rw [List.any_cons, List.any_cons, ih fun l hl => h l (by simp [hl])]
            congr 1
            show misI s ((maskN l : Nat) : Int) = _
            rw [misI_nat s _ (mask_lt (h l (by simp))) hs, misB_mask]
        exact hcg K HK8.out)
      have hlt3 : ¬ (k : Int) < (M.length : Int) := by omega
      clear hpw hNN HOW HGX HG hk hzw
      go_wp2_with fail
      have e54 : wrap64 (2 ^ n) = (N : Int) := by have h := HPW.out; rw [Int.one_mul, IntWalk.i64_left] at h; exact h
      rw [e54]
      have hz4 := HG7.out.sz
      obtain ⟨w4, rfl⟩ : ∃ w4 : World, w4 = wr := ⟨_, rfl⟩
      have HEN := Lib.hid (enters_of (P := Tryz.prog) Tryz.func50 (by kernel_rfl) rfl)
      go_loopw [13, 14, 55] (fun bv fv i wr => ∃ s : Nat, s ≤ N ∧ i = .int .i64 s ∧ Grow w4 wr ∧ fv = .bool (bestN n K s).2 ∧ IntsAt wr bv (bestN n K s).1) (fun _ _ i _ => N - (intOf i).toNat)
      case atStart => exact ⟨0, Nat.zero_le _, rfl, Grow.refl _, rfl, SlcAt.nil _ _ _⟩
      case round =>
        obtain ⟨s, hs, rfl, hg, rfl, hbv⟩ := hrel
        have HG8 := Lib.hid hg
        have hzs := hg.sz
        have hsucc := bestN_succ n K s
        have HNS := Lib.hid (fun h : s = N => (congrArg (bestN n K) h))
        obtain ⟨⟨B, f⟩, hst⟩ : ∃ st, bestN n K s = st := ⟨_, rfl⟩
        rw [hst] at hbv hsucc HNS
        have HBV := Lib.hid (show IntsAt wr _ B from hbv)
        have HSU := Lib.hid hsucc
        rw [hst]
        obtain ⟨ba, bc, rfl, b1, b2, jk7⟩ := (show IntsAt wr _ B from hbv)
        clear hbv hst hsucc hg jk7
        dsimp only
        by_cases hsN : s < N
        · have hsN2 : (s : Int) < (N : Int) := by omega
          have hs256 : s < 256 := by omega
          have hbx := heap_alloc_new wr (.cells #[.int .i64 (s : Int)] 3)
          have hgx := (Grow.refl wr).alloc (.cells #[.int .i64 (s : Int)] 3)
          have HBX := Lib.hid hbx
          have HGX := Lib.hid hgx
          clear hbx hgx
          have hpw : PredW 50 #[.pointer (some ⟨wr.heap.size, 0, none⟩)] (misI s) (SInv wr.heap.size s) := by
            intro x X hX R hR
            have e : (#[Value.int .i64 x] ++ #[Value.pointer (some ⟨wr.heap.size, 0, none⟩)] : Array Value) = #[Value.int .i64 x, Value.pointer (some ⟨wr.heap.size, 0, none⟩)] := rfl
            rw [e]
            exact enF_any x s _ X hX R hR
          have HPD := Lib.hid hpw
          have HIV := Lib.hid (show ∀ W W', SInv wr.heap.size s W → Grow W W' → SInv wr.heap.size s W' from fun _ _ h g => g.blk h)
          have hgn : Grow w4 (wr.alloc (.cells #[.int .i64 (s : Int)] 3)) := HG8.out.trans HGX.out
          have HNX := Lib.hid (show IntsAt _ (.slice an K.length cn) (K.map fun l => (maskN l : Int)) from by have h := HND.out.grow hgn; rw [List.length_map] at h; exact h)
          clear hpw hgn
          go_wp2_with fail
          refine containsFI_any _ _ HEN.out (misI s) (SInv wr.heap.size s) HIV.out HPD.out _ _ _ HNX.out HBX.out _ ?_
          intro w6 hg6
          rw [HKM.out s hs256]
          have HBX6 := Lib.hid (hg6.blk HBX.out)
          have HG9 := Lib.hid (HG8.out.trans (HGX.out.trans hg6))
          have HBV6 := Lib.hid (HBV.out.grow (HGX.out.trans hg6))
          have hz6 := (HGX.out.trans hg6).sz
          clear hg6
          cases hcv : covB K s with
          | false =>
            have HSE := Lib.hid (show bestN n K (s + 1) = (B, f) by rw [HSU.out]; unfold stepB; rw [hcv]; rfl)
            clear hcv
            go_wp2_with fail
            go_roundw
            case rel => exact ⟨s + 1, by omega, by go_num, HG9.out, by rw [HSE.out], by rw [HSE.out]; exact HBV6.out⟩
            case measure => simp [intOf]; omega
          | true =>
            have HSE := Lib.hid (show bestN n K (s + 1) = if (!f || lessL (bitsL n s) B) then (bitsL n s, true) else (B, f) by rw [HSU.out]; unfold stepB; rw [hcv]; rfl)
            clear hcv
            go_wp2_with fail
            obtain ⟨wo, rfl⟩ : ∃ z : World, z = wr := ⟨_, rfl⟩
            go_loopw [16, 17, 63] (fun out _ i wr => ∃ j : Nat, j ≤ n ∧ i = .int .i64 j ∧ Grow w6 wr ∧ wr.ownsRow w6.heap.size 3 1 out (bitsL j s).length ((bitsL j s).flatMap encI)) (fun _ _ i _ => n - (intOf i).toNat)
            case atStart => exact ⟨0, Nat.zero_le _, rfl, Grow.refl _, World.ownsRow_nil _ _ _ _⟩
            case round =>
              obtain ⟨j, hj, rfl, hg, how⟩ := hrel
              have HGJ := Lib.hid hg
              have HOJ := Lib.hid how
              have hzj := hg.sz
              clear hg how
              by_cases hjn : j < n
              · have hjn2 : (j : Int) < (n : Int) := by omega
                have d0 := box1 (HGJ.out.blk HBX6.out)
                have hzb := lt_of_block (HGJ.out.blk HBX6.out)
                have hbd := bits_digit s j hs256
                have HBS := Lib.hid (bitsL_succ j s)
                have z1 : (0 : Int) ≤ (j : Int) := by omega
                have z2 : (j : Int) ≤ 64 := by omega
                have hbl := bitsL_len j s
                have HLB := Lib.hid (show (bitsL j s).length < 100000000000 by omega)
                clear hbl
                cases htb : s.testBit j with
                | false =>
                  rw [htb, if_neg (by decide)] at hbd
                  have HBE := Lib.hid (show bitsL (j + 1) s = bitsL j s by rw [HBS.out, htb, if_neg (by decide), List.append_nil])
                  clear htb
                  go_wp2_with fail
                  go_roundw
                  case rel => exact ⟨j + 1, by omega, by go_num, HGJ.out, by rw [HBE.out]; exact HOJ.out⟩
                  case measure => simp [intOf]; omega
                | true =>
                  rw [htb, if_pos rfl] at hbd
                  have HBE := Lib.hid (show bitsL (j + 1) s = bitsL j s ++ [(j : Int)] by rw [HBS.out, htb, if_pos rfl])
                  clear htb
                  go_wp2_with (at_builtin; refine wpList_app _ rfl (.tmp 71) (.tmp 73) 25 rfl w6.heap.size 3 Tryz.underlying25 info_int rfl (by decide) (by decide) encI encI_len encI_one _ (bitsL j s) rfl (((Grow.refl _).alloc _).owns HOJ.out) _ (j : Int) 1 rfl (newsG _ _ (by simp) (encI (j : Int)) _) HLB.out (by simp; omega) ?_; intro out2 w7 hown7 hgr7)
                  have HG10 := Lib.hid (show Grow w6 w7 from grown_below HOJ.out hgr7 (Nat.le_refl _) (by simp; omega) (HGJ.out.alloc _))
                  have HO7 := Lib.hid hown7
                  clear hown7 hgr7
                  go_roundw
                  case rel => exact ⟨j + 1, by omega, by go_num, HG10.out, by rw [HBE.out]; exact HO7.out⟩
                  case measure => simp [intOf]; omega
              · have hje : j = n := by omega
                have hjn3 : ¬ (j : Int) < (n : Int) := by omega
                have HO8 := HOJ.out
                rw [hje] at HO8
                obtain ⟨T, hT⟩ : ∃ T, bitsL n s = T := ⟨_, rfl⟩
                rw [hT] at HO8 HSE
                have HTA := Lib.hid (slc_of_owns encI_len HO8)
                obtain ⟨at_, ct, hvt, t1, t2, jk8⟩ := slc_of_owns encI_len HO8
                subst hvt
                have HB8 := Lib.hid (HBV6.out.grow HGJ.out)
                have HG11 := Lib.hid (HG9.out.trans HGJ.out)
                clear HO8 jk8 hT hj hjn hje
                cases f with
                | false =>
                  have HSF := Lib.hid (show bestN n K (s + 1) = (T, true) by rw [HSE.out, if_pos (by rfl)])
                  go_wp2_with fail
                  go_roundw
                  case rel => exact ⟨s + 1, by omega, by go_num, HG11.out, by rw [HSF.out], by rw [HSF.out]; exact HTA.out⟩
                  case measure => simp [intOf]; omega
                | true =>
                  by_cases hl1 : T.length < B.length
                  · have hl2 : (T.length : Int) < (B.length : Int) := by omega
                    have HSF := Lib.hid (show bestN n K (s + 1) = (T, true) by rw [HSE.out, if_pos (by unfold lessL; rw [decide_eq_true hl1]; rfl)])
                    go_wp2_with fail
                    go_roundw
                    case rel => exact ⟨s + 1, by omega, by go_num, HG11.out, by rw [HSF.out], by rw [HSF.out]; exact HTA.out⟩
                    case measure => simp [intOf]; omega
                  have hl2 : ¬ (T.length : Int) < (B.length : Int) := by omega
                  by_cases hl3 : T.length = B.length
                  rotate_left
                  · have hl4 : ¬ (T.length : Int) = (B.length : Int) := by omega
                    have hl5 : ((T.length : Int) == (B.length : Int)) = false := beq_eq_false_iff_ne.2 hl4
                    have HSF := Lib.hid (show bestN n K (s + 1) = (B, true) by rw [HSE.out, if_neg (by unfold lessL; rw [decide_eq_false hl1, decide_eq_false hl3]; simp)])
                    go_wp2_with fail
                    go_roundw
                    case rel => exact ⟨s + 1, by omega, by go_num, HG11.out, by rw [HSF.out], by rw [HSF.out]; exact HB8.out⟩
                    case measure => simp [intOf]; omega
                  have hl4 : (T.length : Int) = (B.length : Int) := by omega
                  have hl5 : ((T.length : Int) == (B.length : Int)) = true := beq_iff_eq.2 hl4
                  obtain ⟨c, hc⟩ : ∃ c, cmpIs T B = c := ⟨_, rfl⟩
                  have hcl := cmpIs_lt T B
                  rw [hc] at hcl
                  have HC := Lib.hid hc
                  clear hc
                  by_cases hc0 : c < 0
                  · rw [decide_eq_true hc0] at hcl
                    have HSF := Lib.hid (show bestN n K (s + 1) = (T, true) by rw [HSE.out, if_pos (by unfold lessL; rw [decide_eq_true hl3, ← hcl]; simp)])
                    clear hcl hl3 hl1
                    go_wp2_with fail
                    refine compareIs_any _ _ _ _ _ HTA.out HB8.out _ ?_
                    rw [HC.out]
                    go_wp2_with fail
                    go_roundw
                    case rel => exact ⟨s + 1, by omega, by go_num, HG11.out, by rw [HSF.out], by rw [HSF.out]; exact HTA.out⟩
                    case measure => simp [intOf]; omega
                  · rw [decide_eq_false hc0] at hcl
                    have HSF := Lib.hid (show bestN n K (s + 1) = (B, true) by rw [HSE.out, if_neg (by unfold lessL; rw [decide_eq_false hl1, decide_eq_true hl3, ← hcl]; simp)])
                    clear hcl hl3 hl1
                    go_wp2_with fail
                    refine compareIs_any _ _ _ _ _ HTA.out HB8.out _ ?_
                    rw [HC.out]
                    go_wp2_with fail
                    go_roundw
                    case rel => exact ⟨s + 1, by omega, by go_num, HG11.out, by rw [HSF.out], by rw [HSF.out]; exact HB8.out⟩
                    case measure => simp [intOf]; omega
        · have hse : s = N := by omega
          have hfin : B = (bestN n K N).1 := (congrArg Prod.fst (HNS.out hse))
          have HF := Lib.hid (HR.out wr (.slice ba B.length bc) (HG6.out.trans HG8.out) (by rw [← hfin]; exact HBV.out))
          have hsN2 : ¬ (s : Int) < (N : Int) := by omega
          clear hfin
          go_wp2_with fail
          exact HF.out
end Go.Proofs.YtfbfkkaepgcggaaGreat
