/-
The walks of package suite: the search that stops by a panic.
The walk of suite.wait: how long an order waits.
-/
import Derived.Test.YtfbfkkaepgcggaaGreatQ15
import Derived.Test.YtfbfkkaepgcggaaGreatQ02
import Derived.Test.YtfbfkkaepgcggaaGreatQ06
namespace Go.Proofs.YtfbfkkaepgcggaaGreat
open Go.RowKit

/-- What a search that has found a cover stops with. -/
def foundV (v : Value) : List PanicEntry := [{ v := .iface 52 (.agg #[v]), recovered := false }]
set_option maxRecDepth 100000 in
set_option maxHeartbeats 8000000 in
theorem search_any (T : List (List Int)) (hv : ValS T) (B n G : Nat) (hit : Nat → Nat → Bool) (hN : T.length = n) (hG : goalsS T = G) (hH : hitS T = hit) : ∀ (more frm : Nat) (S : List Nat) (tv sv : Value) (w : World), FamAt w tv T → IntsAt w sv (natL S) → (∀ r ∈ S, r < n) → S.length + more ≤ n → NewS B sv → B ≤ w.heap.size →
    ∀ R : Ending → World → Prop, (srch (covH hit G n) n more S frm = none → ∀ w', Grow w w' → R (.returned (.tuple #[])) w') →
    (∀ D, srch (covH hit G n) n more S frm = some D → ∀ w' v, Grow w w' → (∃ a c, v = .slice a D.length c) → NewS B v → IntsAt w' v (natL D) → R (.panicked (foundV v)) w') →
    Calls Tryz.prog 23 #[tv, sv, .int .i64 (frm : Int), .int .i64 (more : Int)] w R := by
  intro more
  induction more with
  | zero =>
    intro frm S tv sv w hx hs hS hl hnb hB R hR1 hR2
    have HNB := Lib.hid hnb
    have HX := Lib.hid hx
    have HS := Lib.hid hs
    have HV := Lib.hid hv
    have HR1 := Lib.hid hR1
    have HR2 := Lib.hid hR2
    have HSR := Lib.hid (show ∀ r ∈ S, r < T.length by rw [hN]; exact hS)
    obtain ⟨sa, sc, rfl, s1, s2, _⟩ := hs
    rw [natL_len] at HS s1 HNB ⊢
    clear hR1 hR2 hx hS hv hnb
    go_enter Tryz.func23, Tryz.ntmps23
    go_wp2_with fail
    refine isCover_any T S _ _ _ HX.out HS.out HV.out HSR.out _ ?_
    intro w1 hg1
    rw [hN, hG, hH]
    have HG1 := Lib.hid hg1
    clear hg1
    cases hq : covH hit G n S with
    | true =>
      have HF := Lib.hid (HR2.out S (by unfold srch; rw [hq]; rfl) w1 _ HG1.out ⟨sa, sc, rfl⟩ HNB.out (HS.out.grow HG1.out))
      clear hq
      go_wp2_with fail
      exact ⟨rfl, HF.out⟩
    | false =>
      have HF := Lib.hid (HR1.out (by unfold srch; rw [hq]; rfl) w1 HG1.out)
      clear hq
      go_wp2_with fail
      first | exact HF.out | exact bodyPost_ret (by simp [results, Tryz.results23, go_sem]) rfl HF.out | exact bodyPost_end (by simp [results, Tryz.results23, go_sem]) rfl HF.out
  | succ more ih =>
    intro frm S tv sv w hx hs hS hl hnb hB R hR1 hR2
    have HNB := Lib.hid hnb
    have HX := Lib.hid hx
    have HS := Lib.hid hs
    have HR1 := Lib.hid hR1
    have HR2 := Lib.hid hR2
    have HSR := Lib.hid hS
    have HIH := Lib.hid ih
    have hn8 : n ≤ 8 := by have := hv.rows; omega
    obtain ⟨a, c, rfl, k1, k2⟩ := hx.out
    obtain ⟨sa, sc, rfl, s1, s2, _⟩ := hs
    rw [natL_len] at HS s1 HNB ⊢
    have hmi : ((more + 1 : Nat) : Int) = (more : Int) + 1 := by omega
    rw [hmi]
    have t0 : ((more : Int) + 1 == 0) = false := by
      rw [beq_eq_false_iff_ne]; omega
    have t00 : ¬ ((more : Int) + 1 = 0) := by omega
    rw [hN] at HX k1 ⊢
    clear hR1 hR2 hx hS hv ih hmi hnb
    go_enter Tryz.func23, Tryz.ntmps23
    go_wp2_with fail
    go_loopw [8] (fun i wr => ∃ r : Nat, frm ≤ r ∧ i = .int .i64 r ∧ Grow w wr ∧ ∀ r', frm ≤ r' → r' < r → srch (covH hit G n) n more (S ++ [r']) (r' + 1) = none) (fun i _ => n + 1 - (intOf i).toNat)
    case atStart => exact ⟨frm, Nat.le_refl _, rfl, Grow.refl _, fun r' h1 h2 => by omega⟩
    case round =>
      obtain ⟨r, hr, rfl, hg, hno⟩ := hrel
      have HG := Lib.hid hg
      have HNO := Lib.hid hno
      clear hg hno
      have q1 : IntKind.i64.wrap ((n : Int) - ((more : Int) + 1)) = (n : Int) - ((more : Int) + 1) := IntWalk.i64_in _ (by omega)
      by_cases hlt : r < n - more
      · have hlt2 : (r : Int) ≤ (n : Int) - ((more : Int) + 1) := by omega
        go_wp2_with fail
        refine cloneR_any (natL S) _ _ (HS.out.grow HG.out) (by rw [natL_len]; omega) _ ?_
        intro w1 x1 hg1 ho1
        have HO1 := Lib.hid ho1
        have HG1 := Lib.hid hg1
        have HGW1 := Lib.hid (HG.out.trans hg1)
        have hz1 := hg1.sz
        have HLB := Lib.hid (show (natL S).length < 100000000000 by rw [natL_len]; omega)
        clear hg1 ho1
        go_wp2_with (at_builtin; refine wpList_app _ rfl (.tmp 28) (.tmp 30) 25 rfl wr.heap.size 3 Tryz.underlying25 info_int rfl (by decide) (by decide) encI encI_len encI_one _ (natL S) rfl (((Grow.refl _).alloc _).owns HO1.out) _ (r : Int) 1 rfl (newsG _ _ (by simp) (encI (r : Int)) _) HLB.out (by simp; omega) ?_; intro out2 w7 hown7 hgr7)
        have HG7 := Lib.hid (HG.out.trans (show Grow wr w7 from grown_below HO1.out hgr7 (Nat.le_refl _) (by simp; omega) (HG1.out.alloc _)))
        have HN7 := Lib.hid (show NewS B out2 from (NewS.of_own (⟨_, hown7⟩ : OwnI wr.heap.size w7 out2 (natL S ++ [(r : Int)]))).mono (Nat.le_trans hB HG.out.sz))
        have HS7 := Lib.hid (show IntsAt w7 out2 (natL (S ++ [r])) from by rw [natL_snoc]; exact slc_of_owns encI_len hown7)
        clear hown7 hgr7
        have e1 : (r : Int) + 1 = ((r + 1 : Nat) : Int) := by omega
        rw [e1]
        refine HIH.out (r + 1) (S ++ [r]) _ _ w7 (HX.out.grow HG7.out) HS7.out (fun x hx => ?_) (by rw [List.length_append]; simp; omega) HN7.out (Nat.le_trans hB HG7.out.sz) _ ?_ ?_
        · rcases List.mem_append.1 hx with hx | hx
          · exact HSR.out x hx
          · simp at hx; omega
        · intro hsn w8 hg8
          have HG8 := Lib.hid (HG7.out.trans hg8)
          have HNO2 := Lib.hid (show ∀ r', frm ≤ r' → r' < r + 1 → srch (covH hit G n) n more (S ++ [r']) (r' + 1) = none from fun r' h1 h2 => by
            by_cases h3 : r' = r
            · rw [h3]; exact hsn
            · exact HNO.out r' h1 (by omega))
          clear hsn hg8 e1
          go_wp2_with fail
          go_roundw
          case rel => exact ⟨r + 1, by omega, by go_num, HG8.out, HNO2.out⟩
          case measure => simp [intOf]; omega
        · intro D hD w8 v8 hg8 hv8 hn8 hi8
          have HF := Lib.hid (HR2.out D (srch_hit hr hlt HNO.out hD) w8 v8 (HG7.out.trans hg8) hv8 hn8 hi8)
          clear hD hg8 hv8 hn8 hi8
          exact ⟨rfl, HF.out⟩
      · have HF := Lib.hid (HR1.out (srch_stop fun r' h1 h2 => HNO.out r' h1 (by omega)) wr HG.out)
        have hlt2 : ¬ (r : Int) ≤ (n : Int) - ((more : Int) + 1) := by omega
        go_wp2_with fail
        first | exact HF.out | exact bodyPost_ret (by simp [results, Tryz.results23, go_sem]) rfl HF.out | exact bodyPost_end (by simp [results, Tryz.results23, go_sem]) rfl HF.out
end Go.Proofs.YtfbfkkaepgcggaaGreat

namespace Go.Proofs.YtfbfkkaepgcggaaGreat
open Go.RowKit

theorem findIdx_natL {S : List Nat} (p : Nat → Bool) {k : Nat} (hk : k < S.length) (h1 : ∀ x, S[k]? = some x → p x = true) (h2 : ∀ y ∈ S.take k, p y = false) : S.findIdx p = k := by
  rw [List.findIdx_eq hk]
  refine ⟨h1 _ (List.getElem?_eq_getElem hk), fun j hj => ?_⟩
  have := h2 S[j] (by rw [List.mem_take_iff_getElem]; exact ⟨j, by omega, rfl⟩)
  exact this
theorem waitH_snoc (hit : Nat → Nat → Bool) (l o : List Nat) (g : Nat) : waitH hit (l ++ [g]) o = waitH hit l o + (o.findIdx (fun r => hit r g) + 1) := by
  unfold waitH; rw [List.map_append, List.sum_append]; simp
theorem waitH_le (hit : Nat → Nat → Bool) (o : List Nat) : ∀ l : List Nat, waitH hit l o ≤ l.length * (o.length + 1)
  | [] => Nat.zero_le _
  | g :: l => by
    have ih := waitH_le hit o l
    have h1 : o.findIdx (fun r => hit r g) ≤ o.length := List.findIdx_le_length
    unfold waitH at ih ⊢
    rw [List.map_cons, List.sum_cons, List.length_cons, Nat.succ_mul]
    omega
set_option maxRecDepth 100000 in
set_option maxHeartbeats 8000000 in
theorem wait_any (T : List (List Int)) (S : List Nat) (tv sv : Value) (w : World) (hx : FamAt w tv T) (hs : IntsAt w sv (natL S)) (hv : ValS T) (hS : ∀ r, r ∈ S ↔ r < T.length) (hl : S.length ≤ 8)
    (R : Ending → World → Prop) (hR : ∀ w', Grow w w' → R (.returned (.int .i64 (waitH (hitS T) (openH (hitS T) (goalsS T) T.length) S : Nat))) w') :
    Calls Tryz.prog 39 #[tv, sv] w R := by
  have HX := Lib.hid hx
  have HS := Lib.hid hs
  have HV := Lib.hid hv
  have HSR := Lib.hid hS
  have HR := Lib.hid hR
  have eg : Enters Tryz.prog 65 := enters_of Tryz.func65 (by kernel_rfl) rfl
  have EG := Lib.hid eg
  have hol : (openH (hitS T) (goalsS T) T.length).length ≤ 10 := Nat.le_trans (met_len _ _ _) hv.goals
  have HOG := Lib.hid (fun (g : Nat) (h : g ∈ openH (hitS T) (goalsS T) T.length) => (met_lt h : g < goalsS T))
  have HOM := Lib.hid (fun (g : Nat) (h : g ∈ openH (hitS T) (goalsS T) T.length) => (List.mem_filter.1 h).2)
  obtain ⟨O, hO⟩ : ∃ O, openH (hitS T) (goalsS T) T.length = O := ⟨_, rfl⟩
  rw [hO] at HR hol HOG HOM
  have HO := Lib.hid hO
  obtain ⟨a, c, rfl, k1, k2⟩ := hx.out
  obtain ⟨sa, sc, rfl, s1, s2, _⟩ := hs
  obtain ⟨n, hn⟩ : ∃ n, T.length = n := ⟨_, rfl⟩
  have HN := Lib.hid hn
  rw [hn] at HX k1 HOM ⊢
  rw [natL_len] at HS s1 ⊢
  clear hR hx hv hS eg hO hn
  go_enter Tryz.func39, Tryz.ntmps39
  go_wp2_with fail
  have hb := heap_alloc_new w (.cells #[.slice a n c] 22)
  have hg := (Grow.refl w).alloc (.cells #[.slice a n c] 22)
  generalize w.alloc (.cells #[.slice a n c] 22) = W at hb hg ⊢
  have HB := Lib.hid hb
  have HGW := Lib.hid hg
  clear hb hg
  refine open_any T _ _ (HX.out.grow HGW.out) HV.out _ ?_
  intro w2 v2 hg2 ho2
  rw [HO.out] at ho2
  have HG2 := Lib.hid hg2
  have HO2 := Lib.hid (ho2.slc encI_len)
  obtain ⟨oa, oc, rfl, o1, o2, _⟩ := ho2.slc encI_len
  rw [natL_len] at HO2 o1 ⊢
  clear hg2 ho2
  go_wp2_with fail
  go_loopw [5, 7, 11] (fun sv _ i wr => ∃ k : Nat, k ≤ O.length ∧ i = .int .i64 k ∧ Grow w2 wr ∧ sv = .int .i64 (waitH (hitS T) (O.take k) S : Nat)) (fun _ _ i _ => O.length - (intOf i).toNat)
  case atStart => exact ⟨0, Nat.zero_le _, rfl, Grow.refl _, rfl⟩
  case round =>
    obtain ⟨k, hk, rfl, hg, rfl⟩ := hrel
    have HG := Lib.hid hg
    clear hg
    have hwl : waitH (hitS T) (O.take k) S ≤ 10 * 9 := Nat.le_trans (waitH_le _ _ _) (Nat.mul_le_mul (by rw [List.length_take]; omega) (by omega))
    by_cases hlt : k < O.length
    · obtain ⟨g, hgO⟩ : ∃ g, O[k]? = some g := ⟨_, List.getElem?_eq_getElem hlt⟩
      obtain ⟨ob, oo, rfl, hob, e1⟩ := ints_at (HO2.out.grow HG.out) (natL_at hgO)
      have hlt2 : (k : Int) < (O.length : Int) := by omega
      have HGG := Lib.hid (HOG.out g (List.mem_of_getElem? hgO))
      have HGA := Lib.hid (HOM.out g (List.mem_of_getElem? hgO))
      have hsn : waitH (hitS T) (O.take (k + 1)) S = waitH (hitS T) (O.take k) S + (S.findIdx (fun r => hitS T r g) + 1) := by
        rw [List.take_add_one, hgO]
        exact waitH_snoc _ _ _ _
      have HSN := Lib.hid hsn
      generalize waitH (hitS T) (O.take k) S = q at hwl HSN ⊢
      clear hgO hsn
      go_wp2_with fail
      have hb := heap_alloc_new wr (.cells #[.int .i64 (g : Int)] 3)
      have hg := (Grow.refl wr).alloc (.cells #[.int .i64 (g : Int)] 3)
      generalize wr.alloc (.cells #[.int .i64 (g : Int)] 3) = W2 at hb hg ⊢
      have HB2 := Lib.hid hb
      have HG2' := Lib.hid (HG.out.trans hg)
      have HW2 := Lib.hid (HG2.out.trans (HG.out.trans hg))
      clear hb hg
      have hp : PredU 65 #[.pointer (some ⟨w.heap.size, 0, none⟩), .pointer (some ⟨wr.heap.size, 0, none⟩)] W2 (natL S) (fun x => hitS T x.toNat g) := by
        intro x hx X hgX R' hR'
        obtain ⟨m, hm, rfl⟩ := natL_mem.1 hx
        have hR' : ∀ W', Grow X W' → R' (.returned (.bool (hitS T m g))) W' := hR'
        have hx2 := HX.out.grow (HGW.out.trans (HW2.out.trans hgX))
        exact wait1_any T m g w.heap.size wr.heap.size _ X ((HW2.out.trans hgX).blk HB.out) (hgX.blk HB2.out) hx2 HV.out ((HSR.out m).1 hm) HGG.out R' hR'
      refine indexFuncU_any 65 _ EG.out _ (natL S) _ _ (HS.out.grow (HGW.out.trans HW2.out)) hp _ ?_ ?_
      · intro w3 i hg3 hi hi1 hi2
        rw [natL_len] at hi
        have hfi := findIdx_natL (fun r => hitS T r g) hi (fun x hx => by have := hi1 _ (natL_at hx); rwa [Int.toNat_natCast] at this) (fun y hy => by
          have := hi2 (y : Int) (by unfold natL; rw [← List.map_take]; exact List.mem_map.2 ⟨y, hy, rfl⟩)
          rwa [Int.toNat_natCast] at this)
        have hfin := HSN.out
        rw [hfi] at hfin
        have HFIN := Lib.hid hfin
        have HG3 := Lib.hid (HG2'.out.trans hg3)
        have q1 : IntKind.i64.wrap ((i : Int) + 1) = (i : Int) + 1 := IntWalk.i64_in _ (by omega)
        have q2 : IntKind.i64.wrap ((q : Int) + ((i : Int) + 1)) = (q : Int) + ((i : Int) + 1) := IntWalk.i64_in _ (by omega)
        clear hp hi1 hi2 hfi hfin hg3
        go_wp2_with fail
        go_roundw
        case rel => exact ⟨k + 1, by omega, by go_num, HG3.out, by rw [HFIN.out]; congr 1⟩
        case measure => simp [intOf]; omega
      · intro w3 hg3 hno
        exfalso
        obtain ⟨r, hr, hh⟩ := List.any_eq_true.1 HGA.out
        have := hno (r : Int) (natL_mem.2 ⟨r, (HSR.out r).2 (by rw [HN.out]; exact List.mem_range.1 hr), rfl⟩)
        rw [Int.toNat_natCast, hh] at this
        cases this
    · have hke : k = O.length := by omega
      subst hke
      rw [List.take_length] at hwl ⊢
      have HF := Lib.hid (HR.out wr (HGW.out.trans (HG2.out.trans HG.out)))
      go_wp2_with fail
      exact HF.out
end Go.Proofs.YtfbfkkaepgcggaaGreat
