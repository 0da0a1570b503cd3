/-
The walks of package suite: which suites are right, all rows, what rows meet.
The walks of package suite: what rows meet.
The walks of package suite: what rows meet, which goals are open, which rows are a cover.
The walks of package suite: open goals, sets of rows, covers.
-/
import Derived.Test.YtfbfkkaepgcggaaGreatQ13
import Derived.Test.YtfbfkkaepgcggaaGreatQ07
import Derived.StillTailTactics
import Derived.RegionTactic
import Derived.BigRegion
import Derived.Deep.QuietTactic
import Derived.BigQuiet
import Derived.Test.YtfbfkkaepgcggaaGreatQ14
import Derived.Test.YtfbfkkaepgcggaaGreatQ02
namespace Go.Proofs.YtfbfkkaepgcggaaGreat
open Go.RowKit

theorem uwithin_any (n lo hi : Int) (w : World) (R : Ending → World → Prop) (hR : R (.returned (.bool (inB n lo hi))) w) :
    Calls Tryz.prog 54 #[.int .i64 n, .int .i64 lo, .int .i64 hi] w R := by
  by_cases h : lo ≤ n
  · by_cases h2 : n ≤ hi
    · rw [inB_true.2 ⟨h, h2⟩] at hR
      go_enter Tryz.func54, Tryz.ntmps54
      go_wp2
      simpa using hR
    · rw [inB_false.2 (by omega)] at hR
      go_enter Tryz.func54, Tryz.ntmps54
      go_wp2
      simpa using hR
  · rw [inB_false.2 (by omega)] at hR
    go_enter Tryz.func54, Tryz.ntmps54
    go_wp2
    simpa using hR

theorem goals_any (T : List (List Int)) (v : Value) (w : World) (hx : FamAt w v T) (R : Ending → World → Prop) (hR : R (.returned (.int .i64 (goalsS T : Nat))) w) :
    Calls Tryz.prog 52 #[v] w R := by
  have HX := Lib.hid hx
  have HR := Lib.hid hR
  obtain ⟨a, c, rfl, h1, h2⟩ := hx.out
  clear hR hx
  cases T with
  | nil =>
    have HF := Lib.hid (show R (.returned (.int .i64 0)) w from HR.out)
    go_enter Tryz.func52, Tryz.ntmps52
    go_wp2_with fail
    exact HF.out
  | cons r T =>
    obtain ⟨b, o, ta, tc, rfl, hb, e0, hi⟩ := fam_at (k := 0) HX.out rfl
    have HF := Lib.hid (show R (.returned (.int .i64 (r.length : Nat))) w from HR.out)
    simp only [Nat.add_zero] at e0
    have t1 : ¬ ((r :: T).length : Int) = 0 := by rw [List.length_cons]; omega
    have t2 : (0 : Int) < ((r :: T).length : Int) := by rw [List.length_cons]; omega
    generalize (r :: T).length = n at *
    clear hi
    go_enter Tryz.func52, Tryz.ntmps52
    go_wp2_with fail
    exact HF.out

/-- A function value that answers pr of the numbers of a list, in every world that comes of w. -/
def PredU (g : Nat) (cb : Array Value) (w : World) (xs : List Int) (pr : Int → Bool) : Prop :=
  ∀ x ∈ xs, ∀ W, Grow w W → ∀ R : Ending → World → Prop, (∀ W', Grow W W' → R (.returned (.bool (pr x))) W') → Calls Tryz.prog g (#[.int .i64 x] ++ cb) W R
set_option maxHeartbeats 2000000 in
theorem indexFuncU_any (g : Nat) (cb : Array Value) (eg : Enters Tryz.prog g) (pr : Int → Bool) (xs : List Int) (v : Value) (w : World) (hx : IntsAt w v xs) (hp : PredU g cb w xs pr)
    (R : Ending → World → Prop) (hR1 : ∀ w' (k : Nat), Grow w w' → k < xs.length → (∀ x, xs[k]? = some x → pr x = true) → (∀ y ∈ xs.take k, pr y = false) → R (.returned (.int .i64 k)) w') (hR2 : ∀ w', Grow w w' → (∀ y ∈ xs, pr y = false) → R (.returned (.int .i64 (-1))) w') :
    Calls Tryz.prog 61 #[v, .func (.func g) #[] cb] w R := by
  have HX := Lib.hid hx
  obtain ⟨a, c, rfl, h1, h2, _⟩ := hx
  have hm : xs.length ≤ 9223372036854775807 := by omega
  have HR1 := Lib.hid hR1
  have HR2 := Lib.hid hR2
  have HP := Lib.hid hp
  unfold Enters at eg
  clear hR1 hR2 hp
  go_enter Tryz.func61, Tryz.ntmps61
  go_wp2_with fail
  go_loopw [4, 5, 8] (fun _ _ i wr => ∃ k : Nat, k ≤ xs.length ∧ i = .int .i64 k ∧ Grow w wr ∧ ∀ y ∈ xs.take k, pr y = false) (fun _ _ i _ => xs.length - (intOf i).toNat)
  case atStart => exact ⟨0, Nat.zero_le _, rfl, Grow.refl _, by simp⟩
  case round =>
    obtain ⟨k, hk, rfl, hg, hall⟩ := hrel
    have HALL := Lib.hid hall
    have HG := Lib.hid hg
    clear hall hg
    by_cases hlt : k < xs.length
    · obtain ⟨t, ht⟩ : ∃ x, xs[k]? = some x := ⟨_, List.getElem?_eq_getElem hlt⟩
      obtain ⟨b, o, rfl, hb, e0⟩ := ints_at (HX.out.grow HG.out) ht
      have HT := Lib.hid ht
      have HMEM := Lib.hid (List.mem_of_getElem? ht)
      have hk2 : (k : Int) < (xs.length : Int) := by omega
      clear ht
      cases hv : pr t with
      | true =>
        have HA := Lib.hid (show ∀ x, xs[k]? = some x → pr x = true from fun x hx => by rw [HT.out] at hx; cases hx; exact hv)
        have HV := Lib.hid hv
        clear hv
        go_wp2_with fail
        refine HP.out t HMEM.out _ HG.out _ ?_
        intro w1 hg1
        rw [HV.out]
        have HF := Lib.hid (HR1.out w1 k (HG.out.trans hg1) hlt HA.out HALL.out)
        clear hg1
        go_wp2_with fail
        exact HF.out
      | false =>
        have HV := Lib.hid hv
        clear hv
        go_wp2_with fail
        refine HP.out t HMEM.out _ HG.out _ ?_
        intro w1 hg1
        rw [HV.out]
        have HG2 := Lib.hid (HG.out.trans hg1)
        have HA2 := Lib.hid (show ∀ y ∈ xs.take (k + 1), pr y = false from fun y hy => by
          rw [List.take_add_one, HT.out] at hy
          rcases List.mem_append.1 hy with hy | hy
          · exact HALL.out y hy
          · simp at hy; subst hy; exact HV.out)
        clear hg1
        go_wp2_with fail
        go_roundw
        case rel => exact ⟨k + 1, by omega, by go_num, HG2.out, HA2.out⟩
        case measure => simp [intOf]; omega
    · have HF := Lib.hid (HR2.out _ HG.out (fun y hy => HALL.out y (by rw [List.take_of_length_le (by omega)]; exact hy)))
      go_wp2_with fail
      exact HF.out
set_option maxHeartbeats 1000000 in
theorem containsFuncU_any (g : Nat) (cb : Array Value) (eg : Enters Tryz.prog g) (pr : Int → Bool) (xs : List Int) (v : Value) (w : World) (hx : IntsAt w v xs) (hp : PredU g cb w xs pr)
    (R : Ending → World → Prop) (hR : ∀ w', Grow w w' → R (.returned (.bool (xs.any pr))) w') :
    Calls Tryz.prog 49 #[v, .func (.func g) #[] cb] w R := by
  have HR := Lib.hid hR
  clear hR
  go_enter Tryz.func49, Tryz.ntmps49
  go_wp2_with fail
  refine indexFuncU_any g cb eg pr xs v _ hx hp _ ?_ ?_
  · intro w1 k hg1 hk h _
    have HF := Lib.hid (HR.out w1 hg1)
    rw [List.any_eq_true.2 ⟨_, List.getElem_mem hk, h _ (List.getElem?_eq_getElem hk)⟩] at HF
    have hk : (k : Int) ≥ 0 := by omega
    clear h hg1
    go_wp2_with fail
    exact HF.out
  · intro w1 hg1 h
    have HF := Lib.hid (HR.out w1 hg1)
    rw [List.any_eq_false.2 (fun y hy => by rw [h y hy]; simp)] at HF
    clear h hg1
    go_wp2_with fail
    exact HF.out

theorem val1_any (x : Int) (W : World) (R : Ending → World → Prop) (hR : ∀ W', Grow W W' → R (.returned (.bool (!inB x 0 1))) W') : Calls Tryz.prog 53 #[.int .i64 x] W R := by
  have HR := Lib.hid hR
  clear hR
  obtain ⟨q, hq⟩ : ∃ q, inB x 0 1 = q := ⟨_, rfl⟩
  rw [hq] at HR
  have HQ := Lib.hid hq
  clear hq
  go_enter Tryz.func53, Tryz.ntmps53
  go_wp2_with fail
  refine uwithin_any _ _ _ _ _ ?_
  rw [HQ.out]
  have HF := Lib.hid (HR.out W (Grow.refl _))
  cases q <;> (go_wp2_with fail; exact HF.out)

/-- The first error of a suite is OK for a suite that is right, and for no other one. -/
def errS (T : List (List Int)) (e : Int) : Prop := (e = 0 ↔ ValS T)
set_option maxRecDepth 100000 in
set_option maxHeartbeats 4000000 in
theorem uValidate_any (T : List (List Int)) (v : Value) (w : World) (hx : FamAt w v T) (R : Ending → World → Prop) (hR : ∀ w' e, Grow w w' → errS T e → R (.returned (.int .i64 e)) w') :
    Calls Tryz.prog 21 #[v] w R := by
  have HX := Lib.hid hx
  have HR := Lib.hid hR
  obtain ⟨a, c, rfl, h1, h2⟩ := hx.out
  obtain ⟨n, hn⟩ : ∃ n, T.length = n := ⟨_, rfl⟩
  have HN := Lib.hid hn
  obtain ⟨G, hG⟩ : ∃ G, goalsS T = G := ⟨_, rfl⟩
  have HG := Lib.hid hG
  rw [hn] at HX h1 ⊢
  have HEG := Lib.hid (show Enters Tryz.prog 53 from enters_of Tryz.func53 (by kernel_rfl) rfl)
  clear hR hx hn hG
  by_cases h8 : 8 < n
  · have t1 : (n : Int) > 8 := by omega
    have HF := Lib.hid (HR.out w 3 (Grow.refl w) ⟨fun h => absurd h (by decide), fun h => by have := h.rows; have := HN.out; omega⟩)
    go_enter Tryz.func21, Tryz.ntmps21
    go_wp2_with fail
    exact HF.out
  have t1 : ¬ (n : Int) > 8 := by omega
  by_cases h10 : 10 < G
  · have t2 : (G : Int) > 10 := by omega
    have HF := Lib.hid (HR.out w 3 (Grow.refl w) ⟨fun h => absurd h (by decide), fun h => by have := h.goals; have := HG.out; omega⟩)
    go_enter Tryz.func21, Tryz.ntmps21
    go_wp2_with fail
    refine goals_any T _ _ HX.out _ ?_
    rw [HG.out]
    go_wp2_with fail
    exact HF.out
  have t2 : ¬ (G : Int) > 10 := by omega
  go_enter Tryz.func21, Tryz.ntmps21
  go_wp2_with fail
  refine goals_any T _ _ HX.out _ ?_
  rw [HG.out]
  go_wp2_with fail
  go_loopw [2, 4, 15] (fun _ _ i wr => ∃ k : Nat, k ≤ n ∧ i = .int .i64 k ∧ Grow w wr ∧ ∀ r ∈ T.take k, r.length = G ∧ ∀ m ∈ r, 0 ≤ m ∧ m ≤ 1) (fun _ _ i _ => n - (intOf i).toNat)
  case atStart => exact ⟨0, Nat.zero_le _, rfl, Grow.refl _, by simp⟩
  case round =>
    obtain ⟨k, hk, rfl, hg, hall⟩ := hrel
    have HALL := Lib.hid hall
    have HGW := Lib.hid hg
    clear hall hg
    by_cases hlt : k < n
    · obtain ⟨t, ht⟩ : ∃ x, T[k]? = some x := ⟨_, List.getElem?_eq_getElem (by have := HN.out; omega)⟩
      obtain ⟨b, o, ta, tc, rfl, hb, e0, hi⟩ := fam_at (HX.out.grow HGW.out) ht
      have HT := Lib.hid ht
      have HI := Lib.hid hi
      have hlt2 : (k : Int) < (n : Int) := by omega
      have hl1 : t.length ≤ 9223372036854775807 := by obtain ⟨x1, x2, x3, x4, x5, _⟩ := hi; cases x3; omega
      clear ht hi
      by_cases hle : t.length = G
      · have t3 : ((t.length : Int) != (G : Int)) = false := by simp; omega
        have t4 : ¬ (t.length : Int) ≠ (G : Int) := by simp; omega
        obtain ⟨q, hq⟩ : ∃ q, (t.any fun n => !inB n 0 1) = q := ⟨_, rfl⟩
        have HQ := Lib.hid hq
        have HLE := Lib.hid hle
        have HI2 := Lib.hid (show IntsAt wr (.slice ta G tc) t from by rw [← hle]; exact HI.out)
        clear hq
        go_wp2_with fail
        refine goals_any T _ _ (HX.out.grow HGW.out) _ ?_
        rw [HG.out]
        go_wp2_with fail
        refine containsFuncU_any 53 #[] HEG.out (fun n => !inB n 0 1) t _ _ HI2.out (fun x _ W _ R hR => val1_any x W R hR) _ ?_
        intro w1 hg1
        rw [HQ.out]
        have HG1 := Lib.hid (HGW.out.trans hg1)
        clear hg1
        cases q with
        | true =>
          have HF := Lib.hid (HR.out w1 1 HG1.out ⟨fun h => absurd h (by decide), fun h => by
            have h1 := HQ.out
            rw [List.any_eq_true] at h1
            obtain ⟨m, hm, h2⟩ := h1
            have h3 := h.one t (List.mem_of_getElem? HT.out) m hm
            rw [inB_true.2 h3] at h2
            cases h2⟩)
          go_wp2_with fail
          exact HF.out
        | false =>
          have HA2 := Lib.hid (show ∀ r ∈ T.take (k + 1), r.length = G ∧ ∀ m ∈ r, 0 ≤ m ∧ m ≤ 1 from fun r hr => by
            rw [List.take_add_one, HT.out] at hr
            rcases List.mem_append.1 hr with hr | hr
            · exact HALL.out r hr
            · simp at hr
              subst hr
              refine ⟨HLE.out, fun m hm => ?_⟩
              have h1 := HQ.out
              rw [List.any_eq_false] at h1
              have h2 := h1 m hm
              exact inB_true.1 (by simpa using h2))
          go_wp2_with fail
          go_roundw
          case rel => exact ⟨k + 1, by omega, by go_num, HG1.out, HA2.out⟩
          case measure => simp [intOf]; omega
      · have t3 : ((t.length : Int) != (G : Int)) = true := by simp; omega
        have t4 : (t.length : Int) ≠ (G : Int) := by omega
        have HF := Lib.hid (HR.out wr 1 HGW.out ⟨fun h => absurd h (by decide), fun h => by
          have := h.len t (List.mem_of_getElem? HT.out)
          have := HG.out
          omega⟩)
        go_wp2_with fail
        refine goals_any T _ _ (HX.out.grow HGW.out) _ ?_
        rw [HG.out]
        go_wp2_with fail
        exact HF.out
    · have HF := Lib.hid (HR.out wr 0 HGW.out ⟨fun _ => by
        have h5 : k = T.length := by have := HN.out; omega
        have h4 := HALL.out
        rw [h5, List.take_length] at h4
        exact ⟨by have := HN.out; omega, by have := HG.out; omega, fun r hr => by have := HG.out; have := (h4 r hr).1; omega, fun r hr => (h4 r hr).2⟩, fun _ => rfl⟩)
      have hlt2 : ¬ (k : Int) < (n : Int) := by omega
      go_wp2_with fail
      exact HF.out
theorem errS_ok {T : List (List Int)} {e : Int} (h : errS T e) (hv : ValS T) : e = 0 := h.2 hv

set_option maxHeartbeats 2000000 in
theorem uall_any (n : Nat) (hn : n ≤ 1000) (w : World) (R : Ending → World → Prop) (hR : ∀ w' v, Grow w w' → OwnI w.heap.size w' v (natL (List.range n)) → R (.returned v) w') :
    Calls Tryz.prog 33 #[.int .i64 (n : Int)] w R := by
  have HR := Lib.hid hR
  clear hR
  go_enter Tryz.func33, Tryz.ntmps33
  go_wp2_with fail
  go_loopw [3, 4, 6] (fun out _ i wr => ∃ j : Nat, j ≤ n ∧ i = .int .i64 j ∧ Grow w wr ∧ wr.ownsRow w.heap.size 3 1 out (natL (List.range j)).length ((natL (List.range j)).flatMap encI)) (fun _ _ i _ => n - (intOf i).toNat)
  case atStart => exact ⟨0, Nat.zero_le _, rfl, Grow.refl _, World.ownsRow_nil _ _ _ _⟩
  case round =>
    obtain ⟨j, hj, rfl, hg, how⟩ := hrel
    have HGJ := Lib.hid hg
    have HOJ := Lib.hid how
    have hzj := hg.sz
    clear hg how
    by_cases hjn : j < n
    · have hjn2 : (j : Int) < (n : Int) := by omega
      have HLB := Lib.hid (show (natL (List.range j)).length < 100000000000 by rw [natL_len, List.length_range]; omega)
      have HBE := Lib.hid (range_succ_natL j)
      go_wp2_with (at_builtin; refine wpList_app _ rfl (.tmp 9) (.tmp 11) 25 rfl w.heap.size 3 Tryz.underlying25 info_int rfl (by decide) (by decide) encI encI_len encI_one _ (natL (List.range j)) rfl (((Grow.refl _).alloc _).owns HOJ.out) _ (j : Int) 1 rfl (newsG _ _ (by simp) (encI (j : Int)) _) HLB.out (by simp; omega) ?_; intro out2 w7 hown7 hgr7)
      have HG10 := Lib.hid (show Grow w w7 from grown_below HOJ.out hgr7 (Nat.le_refl _) (by simp; omega) (HGJ.out.alloc _))
      have HO7 := Lib.hid hown7
      clear hown7 hgr7
      go_roundw
      case rel => exact ⟨j + 1, by omega, by go_num, HG10.out, by rw [HBE.out]; exact HO7.out⟩
      case measure => simp [intOf]; omega
    · have hje : j = n := by omega
      subst hje
      have HF := Lib.hid (HR.out wr)
      go_wp2_with fail
      exact HF.out _ HGJ.out ⟨_, HOJ.out⟩
end Go.Proofs.YtfbfkkaepgcggaaGreat

namespace Go.Proofs.YtfbfkkaepgcggaaGreat
open Go.RowKit

/-- The number at a place of a suite. -/
theorem cell_at {T : List (List Int)} (hv : ValS T) {r g : Nat} (hr : r < T.length) (hg : g < goalsS T) : ∃ xs n, T[r]? = some xs ∧ xs.length = goalsS T ∧ xs[g]? = some n ∧ hitS T r g = decide (n = 1) ∧ 0 ≤ n ∧ n ≤ 1 := by
  obtain ⟨xs, hxs⟩ : ∃ xs, T[r]? = some xs := ⟨_, List.getElem?_eq_getElem hr⟩
  have hl := hv.len xs (List.mem_of_getElem? hxs)
  obtain ⟨n, hn⟩ : ∃ n, xs[g]? = some n := ⟨_, List.getElem?_eq_getElem (by omega)⟩
  refine ⟨xs, n, hxs, hl, hn, ?_, hv.one xs (List.mem_of_getElem? hxs) n (List.mem_of_getElem? hn)⟩
  have e1 : T.getD r [] = xs := by rw [List.getD_eq_getElem?_getD, hxs]; rfl
  have e2 : xs.getD g 0 = n := by rw [List.getD_eq_getElem?_getD, hn]; rfl
  unfold hitS
  rw [e1, e2]
set_option maxRecDepth 100000 in
set_option maxHeartbeats 4000000 in
theorem met1_any (T : List (List Int)) (r g b1 b2 : Nat) (tv : Value) (w : World) (h1 : w.heap[b1]? = some (.cells #[tv] 22 (0, 0))) (h2 : w.heap[b2]? = some (.cells #[.int .i64 (g : Int)] 3 (0, 0)))
    (hx : FamAt w tv T) (hv : ValS T) (hr : r < T.length) (hg : g < goalsS T) (R : Ending → World → Prop) (hR : ∀ w', Grow w w' → R (.returned (.bool (hitS T r g))) w') :
    Calls Tryz.prog 59 #[.int .i64 (r : Int), .pointer (some ⟨b1, 0, none⟩), .pointer (some ⟨b2, 0, none⟩)] w R := by
  have e1 := box1 h1
  have e2 := box1 h2
  have z1 := lt_of_block h1
  have z2 := lt_of_block h2
  have HX := Lib.hid hx
  obtain ⟨a, c, rfl, k1, k2⟩ := hx.out
  obtain ⟨xs, n, q1, q2, q3, q4, q5, q6⟩ := cell_at hv hr hg
  obtain ⟨b, o, ta, tc, rfl, hb, f0, hi⟩ := fam_at HX.out q1
  have HI := Lib.hid hi
  obtain ⟨gb, go, hta, hgb, f1⟩ := ints_at HI.out q3
  cases hta
  have t1 : (r : Int) < (T.length : Int) := by omega
  have t2 : (g : Int) < (xs.length : Int) := by omega
  have HF := Lib.hid (hR w (Grow.refl w))
  have HFN := Lib.hid (fun k => hR _ ((Grow.refl w).drewN k))
  rw [q4] at HF HFN
  clear hR hx hi q1 q2 q3 q4 h1 h2
  by_cases hn : n = 1
  · subst hn
    go_enter Tryz.func59, Tryz.ntmps59
    go_wp2_with (go_quiet (fail))
    first | exact HF.out | exact HFN.out _
  · have t3 : (n == 1) = false := by simpa using hn
    rw [decide_eq_false hn] at HF HFN
    go_enter Tryz.func59, Tryz.ntmps59
    go_wp2_with (go_quiet (fail))
    first | exact HF.out | exact HFN.out _

set_option maxRecDepth 100000 in
set_option maxHeartbeats 4000000 in
theorem wait1_any (T : List (List Int)) (r g b1 b2 : Nat) (tv : Value) (w : World) (h1 : w.heap[b1]? = some (.cells #[tv] 22 (0, 0))) (h2 : w.heap[b2]? = some (.cells #[.int .i64 (g : Int)] 3 (0, 0)))
    (hx : FamAt w tv T) (hv : ValS T) (hr : r < T.length) (hg : g < goalsS T) (R : Ending → World → Prop) (hR : ∀ w', Grow w w' → R (.returned (.bool (hitS T r g))) w') :
    Calls Tryz.prog 65 #[.int .i64 (r : Int), .pointer (some ⟨b1, 0, none⟩), .pointer (some ⟨b2, 0, none⟩)] w R := by
  have e1 := box1 h1
  have e2 := box1 h2
  have z1 := lt_of_block h1
  have z2 := lt_of_block h2
  have HX := Lib.hid hx
  obtain ⟨a, c, rfl, k1, k2⟩ := hx.out
  obtain ⟨xs, n, q1, q2, q3, q4, q5, q6⟩ := cell_at hv hr hg
  obtain ⟨b, o, ta, tc, rfl, hb, f0, hi⟩ := fam_at HX.out q1
  have HI := Lib.hid hi
  obtain ⟨gb, go, hta, hgb, f1⟩ := ints_at HI.out q3
  cases hta
  have t1 : (r : Int) < (T.length : Int) := by omega
  have t2 : (g : Int) < (xs.length : Int) := by omega
  have HF := Lib.hid (hR w (Grow.refl w))
  have HFN := Lib.hid (fun k => hR _ ((Grow.refl w).drewN k))
  rw [q4] at HF HFN
  clear hR hx hi q1 q2 q3 q4 h1 h2
  by_cases hn : n = 1
  · subst hn
    go_enter Tryz.func65, Tryz.ntmps65
    go_wp2_with (go_quiet (fail))
    first | exact HF.out | exact HFN.out _
  · have t3 : (n == 1) = false := by simpa using hn
    rw [decide_eq_false hn] at HF HFN
    go_enter Tryz.func65, Tryz.ntmps65
    go_wp2_with (go_quiet (fail))
    first | exact HF.out | exact HFN.out _

end Go.Proofs.YtfbfkkaepgcggaaGreat

namespace Go.Proofs.YtfbfkkaepgcggaaGreat
open Go.RowKit

set_option maxRecDepth 100000 in
set_option maxHeartbeats 8000000 in
theorem met_any (T : List (List Int)) (S : List Nat) (tv sv : Value) (w : World) (hx : FamAt w tv T) (hs : IntsAt w sv (natL S)) (hv : ValS T) (hS : ∀ r ∈ S, r < T.length)
    (R : Ending → World → Prop) (hR : ∀ w' v, Grow w w' → OwnI w.heap.size w' v (natL (metH (hitS T) (goalsS T) S)) → R (.returned v) w') :
    Calls Tryz.prog 29 #[tv, sv] w R := by
  have HX := Lib.hid hx
  have HS := Lib.hid hs
  have HV := Lib.hid hv
  have HSR := Lib.hid hS
  have HR := Lib.hid hR
  obtain ⟨G, hG⟩ : ∃ G, goalsS T = G := ⟨_, rfl⟩
  have HG := Lib.hid hG
  have hGl : G ≤ 10 := by have := hv.goals; omega
  rw [hG] at HR
  have eg : Enters Tryz.prog 59 := enters_of Tryz.func59 (by kernel_rfl) rfl
  have EG := Lib.hid eg
  obtain ⟨a, c, rfl, k1, k2⟩ := hx.out
  obtain ⟨n, hn⟩ : ∃ n, T.length = n := ⟨_, rfl⟩
  have HN := Lib.hid hn
  rw [hn] at HX k1 ⊢
  clear hR hx hs hv hS hG eg hn
  go_enter Tryz.func29, Tryz.ntmps29
  go_wp2_with fail
  have hb := heap_alloc_new w (.cells #[.slice a n c] 22)
  have hg := (Grow.refl w).alloc (.cells #[.slice a n c] 22)
  have hz : (w.alloc (.cells #[.slice a n c] 22)).heap.size = w.heap.size + 1 := by simp
  generalize w.alloc (.cells #[.slice a n c] 22) = W at hb hg hz ⊢
  have HB := Lib.hid hb
  have HGW := Lib.hid hg
  have HZ := Lib.hid hz
  have hbc := box1 hb
  clear hb hg hz
  refine goals_any T _ _ (HX.out.grow HGW.out) _ ?_
  rw [HG.out]
  go_wp2_with fail
  go_loopw [5, 6, 9] (fun out _ i wr => ∃ j : Nat, j ≤ G ∧ i = .int .i64 j ∧ Grow W wr ∧ wr.ownsRow W.heap.size 3 1 out (natL (metH (hitS T) j S)).length ((natL (metH (hitS T) j S)).flatMap encI)) (fun _ _ i _ => G - (intOf i).toNat)
  case atStart => exact ⟨0, Nat.zero_le _, rfl, Grow.refl _, World.ownsRow_nil _ _ _ _⟩
  case round =>
    obtain ⟨j, hj, rfl, hg, how⟩ := hrel
    have HGJ := Lib.hid hg
    have HOJ := Lib.hid how
    have hzj := hg.sz
    clear hg how
    by_cases hjG : j < G
    · have hjG2 : (j : Int) < (G : Int) := by omega
      go_wp2_with fail
      have hb := heap_alloc_new wr (.cells #[.int .i64 (j : Int)] 3)
      have hg := (Grow.refl wr).alloc (.cells #[.int .i64 (j : Int)] 3)
      generalize wr.alloc (.cells #[.int .i64 (j : Int)] 3) = W2 at hb hg ⊢
      have HB2 := Lib.hid hb
      have HG2 := Lib.hid hg
      have HGW2 := Lib.hid (HGJ.out.trans hg)
      have HWW2 := Lib.hid (HGW.out.trans (HGJ.out.trans hg))
      have hbc2 := box1 hb
      clear hb hg
      have hp : PredU 59 #[.pointer (some ⟨w.heap.size, 0, none⟩), .pointer (some ⟨wr.heap.size, 0, none⟩)] W2 (natL S) (fun x => hitS T x.toNat j) := by
        intro x hx X hgX R' hR'
        obtain ⟨m, hm, rfl⟩ := natL_mem.1 hx
        have hR' : ∀ W', Grow X W' → R' (.returned (.bool (hitS T m j))) W' := hR'
        have hx2 := HX.out.grow (HWW2.out.trans hgX)
        rw [← HN.out] at hx2
        exact met1_any T m j w.heap.size wr.heap.size _ X ((HGW2.out.trans hgX).blk HB.out) (hgX.blk HB2.out) (by rw [HN.out] at hx2; exact hx2) HV.out (HSR.out m hm) (by rw [HG.out]; exact hjG) R' hR'
      refine containsFuncU_any 59 _ EG.out _ (natL S) _ _ (HS.out.grow HWW2.out) hp _ ?_
      intro w3 hg3
      rw [natL_any S (fun x => hitS T x.toNat j) (fun r => hitS T r j) (fun m _ => by rw [Int.toNat_natCast])]
      have HG3 := Lib.hid (hg3)
      have HGW3 := Lib.hid (HGW2.out.trans hg3)
      have HO3 := Lib.hid ((HG2.out.trans hg3).owns HOJ.out)
      have hbc3 := box1 (hg3.blk HB2.out)
      obtain ⟨q, hq⟩ : ∃ q, S.any (fun r => hitS T r j) = q := ⟨_, rfl⟩
      have HMS := Lib.hid (met_succ (hitS T) j S)
      rw [hq] at HMS ⊢
      have HML := Lib.hid (met_len (hitS T) j S)
      clear hp hg3 hbc2 hq
      generalize hM : metH (hitS T) j S = M at HMS HO3 HML
      have HM := Lib.hid hM
      clear hM
      cases q with
      | true =>
        rw [if_pos rfl] at HMS
        have HLB := Lib.hid (show (natL M).length < 100000000000 by rw [natL_len]; have := HML.out; omega)
        have HBE := Lib.hid (show natL (M ++ [j]) = natL M ++ [(j : Int)] from natL_snoc _ _)
        go_wp2_with (at_builtin; refine wpList_app _ rfl (.tmp 15) (.tmp 17) 25 rfl W.heap.size 3 Tryz.underlying25 info_int rfl (by decide) (by decide) encI encI_len encI_one _ (natL M) rfl (((Grow.refl _).alloc _).owns HO3.out) _ (j : Int) 1 rfl (newsG _ _ (by simp) (encI (j : Int)) _) HLB.out (by simp; have := HGW3.out.sz; omega) ?_; intro out2 w7 hown7 hgr7)
        have HG10 := Lib.hid (show Grow W w7 from grown_below HO3.out hgr7 (Nat.le_refl _) (by simp; have := HGW3.out.sz; omega) (HGW3.out.alloc _))
        have HO7 := Lib.hid hown7
        clear hown7 hgr7
        go_roundw
        case rel => exact ⟨j + 1, by omega, by go_num, HG10.out, by rw [HMS.out, HBE.out]; exact HO7.out⟩
        case measure => simp [intOf]; omega
      | false =>
        rw [if_neg (by decide), List.append_nil] at HMS
        go_wp2_with fail
        go_roundw
        case rel => exact ⟨j + 1, by omega, by go_num, HGW3.out, by rw [HMS.out]; exact HO3.out⟩
        case measure => simp [intOf]; omega
    · have hje : j = G := by omega
      subst hje
      have HF := Lib.hid (HR.out wr _ (HGW.out.trans HGJ.out) ⟨_, ownsRow_mono HOJ.out HGW.out.sz⟩)
      go_wp2_with fail
      exact HF.out
set_option maxHeartbeats 4000000 in
theorem open_any (T : List (List Int)) (tv : Value) (w : World) (hx : FamAt w tv T) (hv : ValS T)
    (R : Ending → World → Prop) (hR : ∀ w' v, Grow w w' → OwnI w.heap.size w' v (natL (openH (hitS T) (goalsS T) T.length)) → R (.returned v) w') :
    Calls Tryz.prog 24 #[tv] w R := by
  have HX := Lib.hid hx
  have HV := Lib.hid hv
  have hn8 := hv.rows
  have HR := Lib.hid hR
  obtain ⟨a, c, rfl, k1, k2⟩ := hx.out
  clear hR hx hv
  go_enter Tryz.func24, Tryz.ntmps24
  go_wp2_with fail
  refine uall_any _ (by omega) _ _ ?_
  intro w1 v1 hg1 ho1
  have HG1 := Lib.hid hg1
  have HO1 := Lib.hid (ho1.slc encI_len)
  clear hg1 ho1
  go_wp2_with fail
  refine met_any T _ _ _ _ (HX.out.grow HG1.out) HO1.out HV.out (fun r hr => List.mem_range.1 hr) _ ?_
  intro w2 v2 hg2 ho2
  have HF := Lib.hid (HR.out _ v2 (HG1.out.trans hg2) (ho2.mono HG1.out.sz))
  clear hg2 ho2
  go_wp2_with fail
  exact HF.out
end Go.Proofs.YtfbfkkaepgcggaaGreat

namespace Go.Proofs.YtfbfkkaepgcggaaGreat
open Go.RowKit

theorem asc_at {n : Nat} : ∀ {l : List Nat} {f k x y : Nat}, ascF n f l → l[k]? = some x → l[k + 1]? = some y → x < y
  | [], _, _, _, _, _, h, _ => by simp at h
  | a :: l, f, 0, x, y, ⟨h1, h2, h3⟩, hx, hy => by
    simp at hx hy
    subst hx
    cases l with
    | nil => simp at hy
    | cons b l =>
      simp at hy
      subst hy
      exact h3.1
  | a :: l, f, k + 1, x, y, ⟨h1, h2, h3⟩, hx, hy => by
    simp at hx hy
    exact asc_at h3 hx hy

set_option maxHeartbeats 4000000 in
theorem isCover_any (T : List (List Int)) (S : List Nat) (tv sv : Value) (w : World) (hx : FamAt w tv T) (hs : IntsAt w sv (natL S)) (hv : ValS T) (hS : ∀ r ∈ S, r < T.length)
    (R : Ending → World → Prop) (hR : ∀ w', Grow w w' → R (.returned (.bool (covH (hitS T) (goalsS T) T.length S))) w') :
    Calls Tryz.prog 51 #[tv, sv] w R := by
  have HX := Lib.hid hx
  have HS := Lib.hid hs
  have HV := Lib.hid hv
  have HSR := Lib.hid hS
  have HR := Lib.hid hR
  clear hR hx hs hv hS
  go_enter Tryz.func51, Tryz.ntmps51
  go_wp2_with fail
  refine met_any T S _ _ _ HX.out HS.out HV.out HSR.out _ ?_
  intro w1 v1 hg1 ho1
  have HG1 := Lib.hid hg1
  obtain ⟨a1, c1, rfl, h11, h12, _⟩ := ho1.slc encI_len
  rw [natL_len]
  clear hg1 ho1 h11 h12
  go_wp2_with fail
  refine open_any T _ _ (HX.out.grow HG1.out) HV.out _ ?_
  intro w2 v2 hg2 ho2
  have HG2 := Lib.hid (HG1.out.trans hg2)
  obtain ⟨a2, c2, rfl, h21, h22, _⟩ := ho2.slc encI_len
  rw [natL_len]
  clear hg2 ho2 h21 h22
  have HF := Lib.hid (HR.out _ HG2.out)
  unfold covH at HF
  generalize (metH (hitS T) (goalsS T) S).length = x at HF ⊢
  generalize (openH (hitS T) (goalsS T) T.length).length = y at HF ⊢
  have hd : decide (x = y) = ((x : Int) == (y : Int)) := by
    rw [Bool.eq_iff_iff]; simp; omega
  rw [hd] at HF
  clear hd
  go_wp2_with fail
  exact HF.out

set_option maxHeartbeats 8000000 in
theorem rows_any (T : List (List Int)) (S : List Nat) (tv sv : Value) (w : World) (hx : FamAt w tv T) (hs : IntsAt w sv (natL S)) (hv : ValS T) (ha : ascF T.length 0 S)
    (R : Ending → World → Prop) (hR : ∀ w', Grow w w' → R (.returned (.int .i64 0)) w') :
    Calls Tryz.prog 28 #[tv, sv] w R := by
  have HX := Lib.hid hx
  have HS := Lib.hid hs
  have HV := Lib.hid hv
  have HA := Lib.hid ha
  have HR := Lib.hid hR
  have hn8 := hv.rows
  obtain ⟨a, c, rfl, h1, h2⟩ := hx.out
  obtain ⟨b, d, rfl, h3, h4, _⟩ := hs
  rw [natL_len] at HS h3 ⊢
  clear hR hx hv ha h1 h2
  go_enter Tryz.func28, Tryz.ntmps28
  go_wp2_with fail
  refine uValidate_any T _ _ HX.out _ ?_
  intro w1 e hg1 he
  obtain rfl := errS_ok he HV.out
  have HG1 := Lib.hid hg1
  clear hg1 he
  go_wp2_with fail
  go_loopw [6, 7, 15] (fun _ _ i wr => ∃ k : Nat, k ≤ S.length ∧ i = .int .i64 k ∧ Grow w wr) (fun _ _ i _ => S.length - (intOf i).toNat)
  case atStart => exact ⟨0, Nat.zero_le _, rfl, HG1.out⟩
  case round =>
    obtain ⟨k, hk, rfl, hg⟩ := hrel
    have HG := Lib.hid hg
    clear hg
    by_cases hlt : k < S.length
    · obtain ⟨y, hy⟩ : ∃ y, S[k]? = some y := ⟨_, List.getElem?_eq_getElem hlt⟩
      have hyn : y < T.length := (ascF_mem HA.out (List.mem_of_getElem? hy)).2
      obtain ⟨gb, go, rfl, hb, e1⟩ := ints_at (HS.out.grow HG.out) (natL_at hy)
      have hlt2 : (k : Int) < (S.length : Int) := by omega
      have q1 : IntKind.i64.wrap ((T.length : Int) - 1) = (T.length : Int) - 1 := IntWalk.i64_in _ (by omega)
      have hq : inB (y : Int) 0 ((T.length : Int) - 1) = true := inB_true.2 ⟨by omega, by omega⟩
      have HQ := Lib.hid hq
      have HY := Lib.hid hy
      clear hq hy
      by_cases hk0 : k = 0
      · subst hk0
        simp only [Nat.add_zero] at e1
        have t0 : ¬ ((0 : Nat) : Int) > 0 := by omega
        go_wp2_with fail
        refine uwithin_any _ _ _ _ _ ?_
        try rw [q1]
        rw [HQ.out]
        go_wp2_with (go_quiet (fail))
        go_roundw
        case rel => exact ⟨1, by omega, by go_num, by first | exact HG.out | exact HG.out.drewN _⟩
        case measure => simp [intOf]; omega
      · obtain ⟨m, hm⟩ : ∃ m : Nat, (k : Int) - 1 = (m : Int) := ⟨k - 1, by omega⟩
        obtain ⟨x, hx⟩ : ∃ x, S[m]? = some x := ⟨_, List.getElem?_eq_getElem (by omega)⟩
        obtain ⟨b', o', he, _, e0⟩ := ints_at (HS.out.grow HG.out) (natL_at hx)
        cases he
        have t0 : (k : Int) > 0 := by omega
        have q2 : IntKind.i64.wrap ((k : Int) - 1) = (m : Int) := by rw [hm]; exact IntWalk.i64_in _ (by omega)
        have hm2 : (m : Int) < (S.length : Int) := by omega
        have hm3 : (0 : Int) ≤ (m : Int) := by omega
        have hkm : k = m + 1 := by omega
        have hxy : x < y := asc_at HA.out hx (by rw [← hkm]; exact HY.out)
        have t1 : ¬ (x : Int) ≥ (y : Int) := by omega
        have t2 : decide ((y : Int) ≤ (x : Int)) = false := decide_eq_false (by omega)
        clear hx hk0 hkm hm
        go_wp2_with fail
        refine uwithin_any _ _ _ _ _ ?_
        try rw [q1]
        rw [HQ.out]
        go_wp2_with (go_quiet (fail))
        go_roundw
        case rel => exact ⟨k + 1, by omega, by go_num, by first | exact HG.out | exact HG.out.drewN _⟩
        case measure => simp [intOf]; omega
    · have HF := Lib.hid (HR.out wr HG.out)
      have hlt2 : ¬ (k : Int) < (S.length : Int) := by omega
      go_wp2_with fail
      exact HF.out

set_option maxHeartbeats 4000000 in
theorem Open_any (T : List (List Int)) (tv : Value) (w : World) (hx : FamAt w tv T)
    (R : Ending → World → Prop) (hR : ∀ w' v e, Grow w w' → errS T e → (e = 0 → OwnI w.heap.size w' v (natL (openH (hitS T) (goalsS T) T.length))) → R (.returned (.tuple #[v, .int .i64 e])) w') :
    Calls Tryz.prog 9 #[tv] w R := by
  have HX := Lib.hid hx
  have HR := Lib.hid hR
  clear hR hx
  go_enter Tryz.func9, Tryz.ntmps9
  go_wp2_with fail
  refine uValidate_any T _ _ HX.out _ ?_
  intro w1 e hg1 he
  have HG1 := Lib.hid hg1
  have HE := Lib.hid he
  clear hg1 he
  by_cases h0 : e = 0
  · subst h0
    go_wp2_with fail
    refine open_any T _ _ (HX.out.grow HG1.out) (HE.out.1 rfl) _ ?_
    intro w2 v2 hg2 ho2
    have HF := Lib.hid (HR.out _ v2 0 (HG1.out.trans hg2) HE.out fun _ => ho2.mono HG1.out.sz)
    clear hg2 ho2
    go_wp2_with fail
    exact HF.out
  · have HF := Lib.hid (HR.out _ (.slice none 0 0) e HG1.out HE.out fun h => absurd h h0)
    have t1 : (e != 0) = true := by simpa using h0
    go_wp2_with fail
    exact HF.out

set_option maxHeartbeats 4000000 in
theorem Met_any (T : List (List Int)) (S : List Nat) (tv sv : Value) (w : World) (hx : FamAt w tv T) (hs : IntsAt w sv (natL S)) (hv : ValS T) (ha : ascF T.length 0 S)
    (R : Ending → World → Prop) (hR : ∀ w' v, Grow w w' → OwnI w.heap.size w' v (natL (metH (hitS T) (goalsS T) S)) → R (.returned (.tuple #[v, .int .i64 0])) w') :
    Calls Tryz.prog 11 #[tv, sv] w R := by
  have HX := Lib.hid hx
  have HS := Lib.hid hs
  have HV := Lib.hid hv
  have HA := Lib.hid ha
  have HR := Lib.hid hR
  clear hR hx hs hv ha
  go_enter Tryz.func11, Tryz.ntmps11
  go_wp2_with fail
  refine rows_any T S _ _ _ HX.out HS.out HV.out HA.out _ ?_
  intro w1 hg1
  have HG1 := Lib.hid hg1
  clear hg1
  go_wp2_with fail
  refine met_any T S _ _ _ (HX.out.grow HG1.out) (HS.out.grow HG1.out) HV.out (fun r hr => (ascF_mem HA.out hr).2) _ ?_
  intro w2 v2 hg2 ho2
  have HF := Lib.hid (HR.out _ v2 (HG1.out.trans hg2) (ho2.mono HG1.out.sz))
  clear hg2 ho2
  go_wp2_with fail
  exact HF.out

set_option maxHeartbeats 4000000 in
theorem CheckCover_any (T : List (List Int)) (S : List Nat) (tv sv : Value) (w : World) (hx : FamAt w tv T) (hs : IntsAt w sv (natL S)) (hv : ValS T) (ha : ascF T.length 0 S) (hc : covH (hitS T) (goalsS T) T.length S = true)
    (R : Ending → World → Prop) (hR : ∀ w', Grow w w' → R (.returned (.int .i64 0)) w') :
    Calls Tryz.prog 20 #[tv, sv] w R := by
  have HX := Lib.hid hx
  have HS := Lib.hid hs
  have HV := Lib.hid hv
  have HA := Lib.hid ha
  have HC := Lib.hid hc
  have HR := Lib.hid hR
  clear hR hx hs hv ha hc
  go_enter Tryz.func20, Tryz.ntmps20
  go_wp2_with fail
  refine rows_any T S _ _ _ HX.out HS.out HV.out HA.out _ ?_
  intro w1 hg1
  have HG1 := Lib.hid hg1
  clear hg1
  go_wp2_with fail
  refine isCover_any T S _ _ _ (HX.out.grow HG1.out) (HS.out.grow HG1.out) HV.out (fun r hr => (ascF_mem HA.out hr).2) _ ?_
  intro w2 hg2
  rw [HC.out]
  have HF := Lib.hid (HR.out _ (HG1.out.trans hg2))
  clear hg2
  go_wp2_with fail
  exact HF.out
end Go.Proofs.YtfbfkkaepgcggaaGreat
