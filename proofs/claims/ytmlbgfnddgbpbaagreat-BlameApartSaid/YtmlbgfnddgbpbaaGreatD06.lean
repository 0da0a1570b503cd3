/- The walks of package blame: which families are valid, sets as numbers, and families as numbers. -/
import Derived.Test.YtmlbgfnddgbpbaaGreatD03
import Derived.Test.YtmlbgfnddgbpbaaGreatD04
import Derived.Test.YtmlbgfnddgbpbaaGreatD05
import Derived.Deep.QuietTactic
import Derived.BigQuiet
namespace Go.Proofs.YtmlbgfnddgbpbaaGreat
open Go.RowKit
open Mk Bm

theorem info_sli : (Tryz.prog.info? 29).map (fun i => (i.zero, i.size, i.bytes)) = some (some (.slice none 0 0), 1, 24) := by kernel_rfl
theorem bwithin_any (n lo hi : Int) (w : World) (R : Ending → World → Prop) (hR : R (.returned (.bool (inB n lo hi))) w) :
    Calls Tryz.prog 81 #[.int .i64 n, .int .i64 lo, .int .i64 hi] w R := by
  by_cases h : lo ≤ n
  · by_cases h2 : n ≤ hi
    · rw [inB_true.2 ⟨h, h2⟩] at hR
      go_enter Tryz.func81, Tryz.ntmps81
      go_wp2
      simpa using hR
    · rw [inB_false.2 (by omega)] at hR
      go_enter Tryz.func81, Tryz.ntmps81
      go_wp2
      simpa using hR
  · rw [inB_false.2 (by omega)] at hR
    go_enter Tryz.func81, Tryz.ntmps81
    go_wp2
    simpa using hR
theorem bwithin_still (n : Int) (q : Bool) (h : inB n 0 7 = q) (w : World) : Calls Tryz.prog 81 #[.int .i64 n, .int .i64 0, .int .i64 7] w fun e w' => e = .returned (.bool q) ∧ w' = w := bwithin_any n 0 7 w _ ⟨by rw [h], rfl⟩

theorem setB_false {l : List Int} {x : Int} (hx : x ∈ l) (h : inB x 0 7 = false) : setB l = false := by
  cases hs : setB l with
  | false => rfl
  | true => have := (setB_iff.1 hs).1 x hx; rw [inB_true.2 this] at h; cases h
theorem setB_false2 {l : List Int} (h : ascB l = false) : setB l = false := by
  cases hs : setB l with
  | false => rfl
  | true => rw [(setB_iff.1 hs).2] at h; cases h

set_option maxRecDepth 100000 in
set_option maxHeartbeats 4000000 in
theorem bisSet_any (l : List Int) (v : Value) (w : World) (hs : IntsAt w v l) (R : Ending → World → Prop) (hR : ∀ w', Grow w w' → R (.returned (.bool (setB l))) w') :
    Calls Tryz.prog 68 #[v] w R := by
  have HR := Lib.hid hR
  have HS := Lib.hid hs
  obtain ⟨a, c, rfl, h1, h2, _⟩ := hs
  clear hR
  go_enter Tryz.func68, Tryz.ntmps68
  go_wp2_with fail
  go_loopw [7] (fun i wr => ∃ k : Nat, k ≤ l.length ∧ i = .int .i64 k ∧ Grow w wr ∧ (∀ x ∈ l.take k, inB x 0 7 = true) ∧ ∀ j, j + 1 < k → l.getD j 0 < l.getD (j + 1) 0) (fun i _ => l.length - (intOf i).toNat)
  case atStart => exact ⟨0, Nat.zero_le _, rfl, Grow.refl _, by simp, fun j hj => by omega⟩
  case round =>
    obtain ⟨k, hk, rfl, hg, hin, hall⟩ := hrel
    have HG := Lib.hid hg
    have HIN := Lib.hid hin
    have HALL := Lib.hid hall
    clear hg hin hall
    by_cases hlt : k < l.length
    · obtain ⟨y, hy⟩ : ∃ y, l[k]? = some y := ⟨_, List.getElem?_eq_getElem hlt⟩
      obtain ⟨b, o, rfl, hb, e1⟩ := ints_at (HS.out.grow HG.out) hy
      have hlt2 : (k : Int) < (l.length : Int) := by omega
      have dy : l.getD k 0 = y := by rw [List.getD_eq_getElem?_getD, hy]; rfl
      have HY := Lib.hid hy
      have HDY := Lib.hid dy
      clear hy dy
      cases hq : inB y 0 7 with
      | false =>
        have HF := Lib.hid (show R (.returned (.bool false)) _ from by have := HR.out wr HG.out; rw [setB_false (List.mem_of_getElem? HY.out) hq] at this; exact this)
        have HF2 := Lib.hid (show ∀ n, R (.returned (.bool false)) (wr.drewN n) from fun n => by have := HR.out _ (HG.out.drewN n); rw [setB_false (List.mem_of_getElem? HY.out) hq] at this; exact this)
        have HQ := Lib.hid hq
        clear hq
        go_wp2_with fail
        refine bwithin_any y 0 7 _ _ ?_
        rw [HQ.out]
        go_wp2_with (go_quiet (fail))
        first | exact HF.out | exact HF2.out _
      | true =>
        have HQ := Lib.hid hq
        clear hq
        have HIN2 := Lib.hid (show ∀ x ∈ l.take (k + 1), inB x 0 7 = true from fun x hx => by
          rw [List.take_add_one, HY.out] at hx
          rcases List.mem_append.1 hx with hx | hx
          · exact HIN.out x hx
          · simp at hx; subst hx; exact HQ.out)
        by_cases hk0 : k = 0
        · subst hk0
          simp only [Nat.add_zero] at e1
          have t0 : ¬ ((0 : Nat) : Int) > 0 := by omega
          go_wp2_with fail
          refine bwithin_any y 0 7 _ _ ?_
          rw [HQ.out]
          go_wp2_with (go_quiet (fail))
          go_roundw
          case rel => exact ⟨1, by omega, by go_num, by first | exact HG.out | exact HG.out.drewN _, HIN2.out, fun j hj => by omega⟩
          case measure => simp [intOf]; omega
        · obtain ⟨m, hm⟩ : ∃ m : Nat, (k : Int) - 1 = (m : Int) := ⟨k - 1, by omega⟩
          obtain ⟨x, hx⟩ : ∃ x, l[m]? = some x := ⟨_, List.getElem?_eq_getElem (by omega)⟩
          obtain ⟨b', o', he, _, e0⟩ := ints_at (HS.out.grow HG.out) hx
          cases he
          have dx : l.getD m 0 = x := by rw [List.getD_eq_getElem?_getD, hx]; rfl
          have HDX := Lib.hid dx
          have t0 : (k : Int) > 0 := by omega
          have q1 : IntKind.i64.wrap ((k : Int) - 1) = (m : Int) := by rw [hm]; exact IntWalk.i64_in _ (by omega)
          have hm2 : (m : Int) < (l.length : Int) := by omega
          have hm3 : (0 : Int) ≤ (m : Int) := by omega
          have hkm : k = m + 1 := by omega
          have HKM := Lib.hid hkm
          clear hx dx hk0 hkm
          by_cases hxy : y ≤ x
          · have HF := Lib.hid (show R (.returned (.bool false)) wr from by
              have := HR.out _ HG.out
              rw [setB_false2 (ascB_false_at (k := m) (by have := HKM.out; omega) (by rw [← HKM.out, HDX.out, HDY.out]; exact hxy))] at this; exact this)
            have HF2 := Lib.hid (show ∀ n, R (.returned (.bool false)) (wr.drewN n) from fun n => by
              have := HR.out _ (HG.out.drewN n)
              rw [setB_false2 (ascB_false_at (k := m) (by have := HKM.out; omega) (by rw [← HKM.out, HDX.out, HDY.out]; exact hxy))] at this; exact this)
            have t1 : decide (y ≤ x) = true := decide_eq_true hxy
            clear hm
            go_wp2_with fail
            refine bwithin_any y 0 7 _ _ ?_
            rw [HQ.out]
            go_wp2_with (go_quiet (fail))
            first | exact HF.out | exact HF2.out _
          · have t1 : decide (y ≤ x) = false := decide_eq_false hxy
            have HXY := Lib.hid hxy
            clear hm hxy
            go_wp2_with fail
            refine bwithin_any y 0 7 _ _ ?_
            rw [HQ.out]
            go_wp2_with (go_quiet (fail))
            go_roundw
            case rel =>
              refine ⟨k + 1, by omega, by go_num, by first | exact HG.out | exact HG.out.drewN _, HIN2.out, fun j hj => ?_⟩
              by_cases hjm : j = m
              · subst hjm; rw [← HKM.out, HDX.out, HDY.out]; have := HXY.out; omega
              · exact HALL.out j (by have := HKM.out; omega)
            case measure => simp [intOf]; omega
    · have ht : setB l = true := by
        refine setB_iff.2 ⟨fun n hn => inB_true.1 (HIN.out n (by rw [List.take_of_length_le (by omega)]; exact hn)), ascB_true.2 fun j hj => HALL.out j (by omega)⟩
      have HF := Lib.hid (HR.out wr HG.out)
      rw [ht] at HF
      clear ht
      go_wp2_with fail
      exact HF.out

/-! ### Functions that answer of a list -/
/-- A function value that answers pr of the lists of a family, in every world that comes of w. -/
def PredF (g : Nat) (cb : Array Value) (w : World) (f : List (List Int)) (pr : List Int → Bool) : Prop :=
  ∀ xs ∈ f, ∀ (v : Value) (W : World), Grow w W → IntsAt W v xs → ∀ R : Ending → World → Prop, (∀ W', Grow W W' → R (.returned (.bool (pr xs))) W') → Calls Tryz.prog g (#[v] ++ cb) W R

set_option maxHeartbeats 2000000 in
theorem indexFuncF_any (g : Nat) (cb : Array Value) (eg : Enters Tryz.prog g) (pr : List Int → Bool) (f : List (List Int)) (v : Value) (w : World) (hx : FamAt w v f) (hp : PredF g cb w f pr)
    (R : Ending → World → Prop) (hR1 : ∀ w' (k : Nat), Grow w w' → f.any pr = true → R (.returned (.int .i64 k)) w') (hR2 : ∀ w', Grow w w' → f.any pr = false → R (.returned (.int .i64 (-1))) w') :
    Calls Tryz.prog 122 #[v, .func (.func g) #[] cb] w R := by
  have HX := Lib.hid hx
  obtain ⟨a, c, rfl, h1, h2⟩ := hx.out
  have hm : f.length ≤ 9223372036854775807 := by omega
  have HR1 := Lib.hid hR1
  have HR2 := Lib.hid hR2
  have HP := Lib.hid hp
  unfold Enters at eg
  clear hR1 hR2 hp hx
  go_enter Tryz.func122, Tryz.ntmps122
  go_wp2_with fail
  go_loopw [4, 5, 8] (fun _ _ i wr => ∃ k : Nat, k ≤ f.length ∧ i = .int .i64 k ∧ Grow w wr ∧ ∀ y ∈ f.take k, pr y = false) (fun _ _ i _ => f.length - (intOf i).toNat)
  case atStart => exact ⟨0, Nat.zero_le _, rfl, Grow.refl _, by simp⟩
  case round =>
    obtain ⟨k, hk, rfl, hg, hall⟩ := hrel
    have HALL := Lib.hid hall
    have HG := Lib.hid hg
    clear hall hg
    by_cases hlt : k < f.length
    · obtain ⟨t, ht⟩ : ∃ x, f[k]? = some x := ⟨_, List.getElem?_eq_getElem hlt⟩
      obtain ⟨b, o, ta, tc, rfl, hb, e0, hi⟩ := fam_at (HX.out.grow HG.out) ht
      have HT := Lib.hid ht
      have HI := Lib.hid hi
      have HMEM := Lib.hid (List.mem_of_getElem? ht)
      clear ht hi
      by_cases hv : pr t = true
      · have HA := Lib.hid (any_at HT.out hv)
        have HV := Lib.hid hv
        clear hv
        go_wp2_with fail
        refine HP.out t HMEM.out _ _ HG.out HI.out _ ?_
        intro w1 hg1
        rw [HV.out]
        have HF := Lib.hid (HR1.out w1 k (HG.out.trans hg1) HA.out)
        clear hg1
        go_wp2_with fail
        exact HF.out
      · replace hv : pr t = false := by simpa using hv
        have HV := Lib.hid hv
        clear hv
        go_wp2_with fail
        refine HP.out t HMEM.out _ _ HG.out HI.out _ ?_
        intro w1 hg1
        rw [HV.out]
        have HG2 := Lib.hid (HG.out.trans hg1)
        clear hg1
        go_wp2_with fail
        go_roundw
        case rel => exact ⟨k + 1, by omega, by go_num, HG2.out, take_succ_false' HALL.out HT.out HV.out⟩
        case measure => simp [intOf]; omega
    · have HF := Lib.hid (HR2.out _ HG.out (any_none HALL.out (by omega)))
      go_wp2_with fail
      exact HF.out

set_option maxHeartbeats 1000000 in
theorem containsFuncF_any (g : Nat) (cb : Array Value) (eg : Enters Tryz.prog g) (pr : List Int → Bool) (f : List (List Int)) (v : Value) (w : World) (hx : FamAt w v f) (hp : PredF g cb w f pr)
    (R : Ending → World → Prop) (hR : ∀ w', Grow w w' → R (.returned (.bool (f.any pr))) w') :
    Calls Tryz.prog 74 #[v, .func (.func g) #[] cb] w R := by
  have HR := Lib.hid hR
  clear hR
  go_enter Tryz.func74, Tryz.ntmps74
  go_wp2_with fail
  refine indexFuncF_any g cb eg pr f v _ hx hp _ ?_ ?_
  · intro w1 k hg1 h
    have HF := Lib.hid (HR.out w1 hg1)
    rw [h] at HF
    have hk : (k : Int) ≥ 0 := by omega
    clear h hg1
    go_wp2_with fail
    exact HF.out
  · intro w1 hg1 h
    have HF := Lib.hid (HR.out w1 hg1)
    rw [h] at HF
    clear h hg1
    go_wp2_with fail
    exact HF.out

set_option maxHeartbeats 1000000 in
theorem validF_any (l : List Int) (v : Value) (w : World) (hs : IntsAt w v l) (R : Ending → World → Prop) (hR : ∀ w', Grow w w' → R (.returned (.bool (!setB l))) w') :
    Calls Tryz.prog 75 #[v] w R := by
  have HS := Lib.hid hs
  have HR := Lib.hid hR
  obtain ⟨q, hq⟩ : ∃ q, setB l = q := ⟨_, rfl⟩
  rw [hq] at HR
  have HQ := Lib.hid hq
  obtain ⟨a, c, rfl, h1, h2, _⟩ := hs
  clear hR hq
  go_enter Tryz.func75, Tryz.ntmps75
  go_wp2_with fail
  refine bisSet_any l _ _ HS.out _ ?_
  intro w1 hg1
  rw [HQ.out]
  have HF := Lib.hid (HR.out w1 hg1)
  clear hg1
  cases q <;> (go_wp2_with fail; exact HF.out)

theorem any_not_set (f : List (List Int)) : (f.any fun l => !setB l) = !(f.all setB) := by
  rw [List.not_all_eq_any_not]
set_option maxHeartbeats 1000000 in
theorem bValidate_any (f : List (List Int)) (v : Value) (w : World) (hx : FamAt w v f) (R : Ending → World → Prop) (hR : ∀ w', Grow w w' → R (.returned (.int .i64 (valF f))) w') :
    Calls Tryz.prog 27 #[v] w R := by
  have HX := Lib.hid hx
  obtain ⟨a, c, rfl, h1, h2⟩ := hx.out
  have hv : valF f = if 70 < f.length then 3 else errB (f.all setB) := rfl
  rw [hv] at hR
  have HR := Lib.hid hR
  clear hR hv hx
  by_cases h8 : 70 < f.length
  · rw [if_pos h8] at HR
    have t1 : (f.length : Int) > 70 := by omega
    have HF := Lib.hid (HR.out w (Grow.refl w))
    go_enter Tryz.func27, Tryz.ntmps27
    go_wp2_with fail
    exact HF.out
  · rw [if_neg h8] at HR
    have t1 : ¬ (f.length : Int) > 70 := by omega
    have hpred : PredF 75 #[] w f (fun l => !setB l) := fun xs _ v W _ hi R hR => validF_any xs v W hi R hR
    have HP := Lib.hid hpred
    have heg : Enters Tryz.prog 75 := enters_of Tryz.func75 (by kernel_rfl) rfl
    have HEG := Lib.hid heg
    clear hpred heg
    go_enter Tryz.func27, Tryz.ntmps27
    go_wp2_with fail
    refine containsFuncF_any 75 #[] HEG.out _ f _ _ HX.out HP.out _ ?_
    intro w1 hg1
    rw [any_not_set]
    have HF := Lib.hid (HR.out w1 hg1)
    clear hg1
    generalize f.all setB = q at HF ⊢
    cases q <;> (go_wp2_with fail; exact HF.out)

/-! ### Sets as numbers -/
theorem bwrap_pow {i : Nat} (h : i ≤ 8) : IntKind.i64.wrap (1 * 2 ^ i) = ((2 ^ i : Nat) : Int) := by
  have h1 : (2 : Nat) ^ i ≤ 2 ^ 8 := Nat.pow_le_pow_right (by decide) h
  rw [Int.one_mul, show (2 : Int) ^ i = ((2 ^ i : Nat) : Int) by rw [Int.natCast_pow]; rfl]
  generalize 2 ^ i = q at h1 ⊢
  exact IntWalk.i64_in (q : Int) (by omega)
set_option maxHeartbeats 2000000 in
theorem bits_any (l : List Int) (v : Value) (w : World) (hs : IntsAt w v l) (hok : ∀ i ∈ l, 0 ≤ i ∧ i ≤ 7) (R : Ending → World → Prop) (hR : R (.returned (.int .i64 (mask l : Int))) w) :
    Calls Tryz.prog 70 #[v] w R := by
  have HS := Lib.hid hs
  have HR := Lib.hid hR
  have HOK := Lib.hid hok
  obtain ⟨a, c, rfl, h1, h2, _⟩ := hs
  clear hR hok
  go_enter Tryz.func70, Tryz.ntmps70
  go_wp2_with fail
  go_loopw [3, 5, 8] (fun s _ i wr => ∃ j : Nat, j ≤ l.length ∧ i = .int .i64 j ∧ s = .int .i64 (mask (l.take j) : Int) ∧ wr = w) (fun _ _ i _ => l.length - (intOf i).toNat)
  case atStart => exact ⟨0, Nat.zero_le _, rfl, rfl, rfl⟩
  case round =>
    obtain ⟨j, hj, rfl, rfl, rfl⟩ := hrel
    by_cases hjl : j < l.length
    · obtain ⟨i, hi⟩ : ∃ x, l[j]? = some x := ⟨_, List.getElem?_eq_getElem hjl⟩
      obtain ⟨gb3, o3, rfl, hb3, f0⟩ := ints_at HS.out hi
      have hjl2 : (j : Int) < (l.length : Int) := by omega
      obtain ⟨hi0, hin⟩ := HOK.out i (List.mem_of_getElem? hi)
      obtain ⟨q, rfl⟩ : ∃ q : Nat, i = q := ⟨i.toNat, by omega⟩
      have hq8 : q < 8 := by omega
      have HMT := Lib.hid (mask_take hi)
      have hm1 : mask (l.take j) < 256 := mask_lt fun i hi => by have := (HOK.out i (List.mem_of_mem_take hi)).2; omega
      have hor := Mk.bits_or (mask (l.take j)) (2 ^ q) hm1 (pow_lt8 hq8)
      have HWP := Lib.hid (bwrap_pow (i := q) (by omega))
      have HOR := Lib.hid hor
      have y1 : (0 : Int) ≤ (q : Int) := by omega
      have y2 : (q : Int) ≤ 64 := by omega
      clear hi hor
      go_wp2_with fail
      go_roundw
      case rel =>
        refine ⟨j + 1, by omega, by go_num, ?_, by first | rfl | trivial⟩
        rw [HMT.out]
        have h1 := HWP.out
        rw [IntWalk.i64_left] at h1
        simp only [Int.toNat_natCast] at h1 ⊢
        rw [Int.one_mul] at h1
        rw [← HOR.out, ← h1]
      case measure => simp [intOf]; omega
    · have hjn : j = l.length := by omega
      have HF := HR.out
      rw [show mask l = mask (l.take j) by rw [hjn, List.take_length]] at HF
      have HF2 := Lib.hid HF
      clear hjn HF
      go_wp2_with fail
      exact HF2.out
set_option maxHeartbeats 2000000 in
theorem members_any (s : Nat) (hs : s < 256) (w : World) (R : Ending → World → Prop) (hR : ∀ w' v, Grow w w' → OwnI w.heap.size w' v (lst s) → R (.returned v) w') :
    Calls Tryz.prog 99 #[.int .i64 (s : Int)] w R := by
  have HR := Lib.hid hR
  have hs2 : (s : Int) < 256 := by omega
  have hs3 : (0 : Int) ≤ (s : Int) := by omega
  clear hR
  go_enter Tryz.func99, Tryz.ntmps99
  go_wp2_with fail
  go_loopw [3, 4, 5] (fun out _ i wr => ∃ j : Nat, j ≤ 8 ∧ i = .int .i64 j ∧ Grow w wr ∧ wr.ownsRow w.heap.size 3 1 out (mem j s).length ((mem j s).flatMap encI)) (fun _ _ i _ => 8 - (intOf i).toNat)
  case atStart => exact ⟨0, Nat.zero_le _, rfl, Grow.refl _, World.ownsRow_nil _ _ _ _⟩
  case round =>
    obtain ⟨j, hj, rfl, hg, how⟩ := hrel
    have HGJ := Lib.hid hg
    have HOJ := Lib.hid how
    have hzj := hg.sz
    clear hg how
    by_cases hjn : j < 8
    · have hjn2 : (j : Int) < 8 := by omega
      have hbd := bits_digit s j hs
      have HBS := Lib.hid (mem_succ j s)
      have z1 : (0 : Int) ≤ (j : Int) := by omega
      have z2 : (j : Int) ≤ 64 := by omega
      have hbl := mem_len j s
      have HLB := Lib.hid (show (mem j s).length < 100000000000 by omega)
      clear hbl
      cases htb : s.testBit j with
      | false =>
        rw [htb, if_neg (by decide)] at hbd
        have HBE := Lib.hid (show mem (j + 1) s = mem j s by rw [HBS.out, htb, if_neg (by decide), List.append_nil])
        clear htb
        go_wp2_with fail
        go_roundw
        case rel => exact ⟨j + 1, by omega, by go_num, HGJ.out, by rw [HBE.out]; exact HOJ.out⟩
        case measure => simp [intOf]; omega
      | true =>
        rw [htb, if_pos rfl] at hbd
        have HBE := Lib.hid (show mem (j + 1) s = mem j s ++ [(j : Int)] by rw [HBS.out, htb, if_pos rfl])
        clear htb
        go_wp2_with (at_builtin; refine wpList_app _ rfl (.tmp 13) (.tmp 15) 29 rfl w.heap.size 3 Tryz.underlying29 info_int rfl (by decide) (by decide) encI encI_len encI_one _ (mem j s) rfl (((Grow.refl _).alloc _).owns HOJ.out) _ (j : Int) 1 rfl (newsG _ _ (by simp) (encI (j : Int)) _) HLB.out (by simp; omega) ?_; intro out2 w7 hown7 hgr7)
        have HG10 := Lib.hid (show Grow w w7 from grown_below HOJ.out hgr7 (Nat.le_refl _) (by simp; omega) (HGJ.out.alloc _))
        have HO7 := Lib.hid hown7
        clear hown7 hgr7
        go_roundw
        case rel => exact ⟨j + 1, by omega, by go_num, HG10.out, by rw [HBE.out]; exact HO7.out⟩
        case measure => simp [intOf]; omega
    · have hje : j = 8 := by omega
      subst hje
      have HF := Lib.hid (HR.out wr)
      go_wp2_with fail
      exact HF.out _ HGJ.out ⟨_, HOJ.out⟩
/-- The masks of a family, as Go's numbers. -/
def mskI (f : List (List Int)) : List Int := f.map fun l => (mask l : Int)
theorem mskI_len (f : List (List Int)) : (mskI f).length = f.length := List.length_map ..
theorem mskI_take {f : List (List Int)} {k : Nat} {xs : List Int} (h : f[k]? = some xs) : mskI (f.take (k + 1)) = mskI (f.take k) ++ [(mask xs : Int)] := by
  unfold mskI; rw [List.take_add_one, h, List.map_append]; rfl
set_option maxHeartbeats 2000000 in
theorem all_any (f : List (List Int)) (v : Value) (w : World) (hx : FamAt w v f) (hok : ∀ l ∈ f, setB l = true) (hlen : f.length ≤ 70) (R : Ending → World → Prop) (hR : ∀ w' v, Grow w w' → OwnI w.heap.size w' v (mskI f) → R (.returned v) w') :
    Calls Tryz.prog 63 #[v] w R := by
  have HX := Lib.hid hx
  obtain ⟨a, c, rfl, h1, h2⟩ := hx.out
  have HR := Lib.hid hR
  have HOK := Lib.hid hok
  clear hR hok hx
  go_enter Tryz.func63, Tryz.ntmps63
  go_wp2_with fail
  go_loopw [3, 5, 8] (fun out _ i wr => ∃ j : Nat, j ≤ f.length ∧ i = .int .i64 j ∧ Grow w wr ∧ wr.ownsRow w.heap.size 3 1 out (mskI (f.take j)).length ((mskI (f.take j)).flatMap encI)) (fun _ _ i _ => f.length - (intOf i).toNat)
  case atStart => exact ⟨0, Nat.zero_le _, rfl, Grow.refl _, World.ownsRow_nil _ _ _ _⟩
  case round =>
    obtain ⟨j, hj, rfl, hg, how⟩ := hrel
    have HGJ := Lib.hid hg
    have HOJ := Lib.hid how
    have hzj := hg.sz
    clear hg how
    by_cases hjn : j < f.length
    · obtain ⟨xs, ht⟩ : ∃ x, f[j]? = some x := ⟨_, List.getElem?_eq_getElem hjn⟩
      obtain ⟨b, o, ta, tc, rfl, hb, e0, hi⟩ := fam_at (HX.out.grow HGJ.out) ht
      have hjn2 : (j : Int) < (f.length : Int) := by omega
      have HI := Lib.hid hi
      have HT := Lib.hid (mskI_take ht)
      have HOX := Lib.hid ((setB_iff.1 (HOK.out xs (List.mem_of_getElem? ht))).1)
      have HLB := Lib.hid (show (mskI (f.take j)).length < 100000000000 by rw [mskI_len, List.length_take]; omega)
      clear ht hi
      go_wp2_with fail
      refine bits_any xs _ _ HI.out HOX.out _ ?_
      go_wp2_with (at_builtin; refine wpList_app _ rfl (.tmp 12) (.tmp 15) 29 rfl w.heap.size 3 Tryz.underlying29 info_int rfl (by decide) (by decide) encI encI_len encI_one _ (mskI (f.take j)) rfl (((Grow.refl _).alloc _).owns HOJ.out) _ (mask xs : Int) 1 rfl (newsG _ _ (by simp) (encI (mask xs : Int)) _) HLB.out (by simp; omega) ?_; intro out2 w7 hown7 hgr7)
      have HG10 := Lib.hid (show Grow w w7 from grown_below HOJ.out hgr7 (Nat.le_refl _) (by simp; omega) (HGJ.out.alloc _))
      have HO7 := Lib.hid hown7
      clear hown7 hgr7
      go_roundw
      case rel => exact ⟨j + 1, by omega, by go_num, HG10.out, by rw [HT.out]; exact HO7.out⟩
      case measure => simp [intOf]; omega
    · have hje : j = f.length := by omega
      have HO8 := HOJ.out
      rw [hje, List.take_length] at HO8
      have HO9 := Lib.hid HO8
      have HF := Lib.hid (fun v (h : wr.ownsRow w.heap.size 3 1 v (mskI f).length ((mskI f).flatMap encI)) => HR.out wr v HGJ.out ⟨_, h⟩)
      clear hje HO8
      go_wp2_with fail
      exact HF.out _ HO9.out
end Go.Proofs.YtmlbgfnddgbpbaaGreat
