/- The walks of package blame: the errors of programs, tests and forced lines. -/
import Derived.Test.YtmlbgfnddgbpbaaGreatD06
import Derived.Test.YtmlbgfnddgbpbaaGreatD10
import Derived.Test.YtmlbgfnddgbpbaaGreatD02
namespace Go.Proofs.YtmlbgfnddgbpbaaGreat
open Go.RowKit
open Mk Bm

set_option maxHeartbeats 2000000 in
theorem bprograms_any (p : List Ln) (ts : List Tst) (pv tv : Value) (w : World) (hp : LinesAt w pv p) (ht : TestsAt w tv ts) (R : Ending → World → Prop)
    (hR : ∀ w', Grow w w' → R (.returned (.int .i64 (chkT p ts))) w') :
    Calls Tryz.prog 76 #[pv, tv] w R := by
  have HP := Lib.hid hp
  have HT := Lib.hid ht
  have hc : chkT p ts = if valP p = 0 then valT ts else valP p := rfl
  rw [hc] at hR
  have HR := Lib.hid hR
  obtain ⟨e, he⟩ : ∃ e, valP p = e := ⟨_, rfl⟩
  rw [he] at HR
  have HE := Lib.hid he
  obtain ⟨pa, pc, rfl, _⟩ := hp
  obtain ⟨⟨ta, tc, rfl, _⟩, _⟩ := ht
  clear hR hc he
  by_cases h0 : e = 0
  · subst h0
    rw [if_pos rfl] at HR
    go_enter Tryz.func76, Tryz.ntmps76
    go_wp2_with fail
    refine validate_any p _ _ HP.out _ ?_
    intro w1 hg1
    rw [HE.out]
    have HG1 := Lib.hid hg1
    clear hg1
    go_wp2_with fail
    refine validateTests_any ts _ _ (HT.out.grow HG1.out) _ ?_
    intro w2 hg2
    have HF := Lib.hid (HR.out w2 (HG1.out.trans hg2))
    clear hg2
    go_wp2_with fail
    exact HF.out
  · rw [if_neg h0] at HR
    have t1 : (e != 0) = true := by simpa using h0
    clear h0
    go_enter Tryz.func76, Tryz.ntmps76
    go_wp2_with fail
    refine validate_any p _ _ HP.out _ ?_
    intro w1 hg1
    rw [HE.out]
    have HF := Lib.hid (HR.out w1 hg1)
    clear hg1
    go_wp2_with fail
    exact HF.out


/-- A function value that answers pr of the numbers of a list, in every world that comes of w. -/
def PredM (g : Nat) (cb : Array Value) (w : World) (xs : List Int) (pr : Int → Bool) : Prop :=
  ∀ x ∈ xs, ∀ W, Grow w W → ∀ R : Ending → World → Prop, (∀ W', Grow W W' → R (.returned (.bool (pr x))) W') → Calls Tryz.prog g (#[.int .i64 x] ++ cb) W R
set_option maxHeartbeats 2000000 in
theorem indexFuncM_any (g : Nat) (cb : Array Value) (eg : Enters Tryz.prog g) (pr : Int → Bool) (xs : List Int) (v : Value) (w : World) (hx : IntsAt w v xs) (hp : PredM g cb w xs pr)
    (R : Ending → World → Prop) (hR1 : ∀ w' (k : Nat), Grow w w' → xs.any pr = true → R (.returned (.int .i64 k)) w') (hR2 : ∀ w', Grow w w' → xs.any pr = false → R (.returned (.int .i64 (-1))) w') :
    Calls Tryz.prog 114 #[v, .func (.func g) #[] cb] w R := by
  have HX := Lib.hid hx
  obtain ⟨a, c, rfl, h1, h2, _⟩ := hx
  have hm : xs.length ≤ 9223372036854775807 := by omega
  have HR1 := Lib.hid hR1
  have HR2 := Lib.hid hR2
  have HP := Lib.hid hp
  unfold Enters at eg
  clear hR1 hR2 hp
  go_enter Tryz.func114, Tryz.ntmps114
  go_wp2_with fail
  go_loopw [4, 5, 8] (fun _ _ i wr => ∃ k : Nat, k ≤ xs.length ∧ i = .int .i64 k ∧ Grow w wr ∧ ∀ y ∈ xs.take k, pr y = false) (fun _ _ i _ => xs.length - (intOf i).toNat)
  case atStart => exact ⟨0, Nat.zero_le _, rfl, Grow.refl _, by simp⟩
  case round =>
    obtain ⟨k, hk, rfl, hg, hall⟩ := hrel
    have HALL := Lib.hid hall
    have HG := Lib.hid hg
    clear hall hg
    by_cases hlt : k < xs.length
    · obtain ⟨t, ht⟩ : ∃ x, xs[k]? = some x := ⟨_, List.getElem?_eq_getElem hlt⟩
      obtain ⟨b, o, rfl, hb, e0⟩ := ints_at (HX.out.grow HG.out) ht
      have HT := Lib.hid ht
      have HMEM := Lib.hid (List.mem_of_getElem? ht)
      have hk2 : (k : Int) < (xs.length : Int) := by omega
      clear ht
      cases hv : pr t with
      | true =>
        have HA := Lib.hid (any_at HT.out hv)
        have HV := Lib.hid hv
        clear hv
        go_wp2_with fail
        refine HP.out t HMEM.out _ HG.out _ ?_
        intro w1 hg1
        rw [HV.out]
        have HF := Lib.hid (HR1.out w1 k (HG.out.trans hg1) HA.out)
        clear hg1
        go_wp2_with fail
        exact HF.out
      | false =>
        have HV := Lib.hid hv
        clear hv
        go_wp2_with fail
        refine HP.out t HMEM.out _ HG.out _ ?_
        intro w1 hg1
        rw [HV.out]
        have HG2 := Lib.hid (HG.out.trans hg1)
        clear hg1
        go_wp2_with fail
        go_roundw
        case rel => exact ⟨k + 1, by omega, by go_num, HG2.out, take_succ_false' HALL.out HT.out HV.out⟩
        case measure => simp [intOf]; omega
    · have HF := Lib.hid (HR2.out _ HG.out (any_none HALL.out (by omega)))
      go_wp2_with fail
      exact HF.out
set_option maxHeartbeats 1000000 in
theorem containsFuncM_any (g : Nat) (cb : Array Value) (eg : Enters Tryz.prog g) (pr : Int → Bool) (xs : List Int) (v : Value) (w : World) (hx : IntsAt w v xs) (hp : PredM g cb w xs pr)
    (R : Ending → World → Prop) (hR : ∀ w', Grow w w' → R (.returned (.bool (xs.any pr))) w') :
    Calls Tryz.prog 118 #[v, .func (.func g) #[] cb] w R := by
  have HR := Lib.hid hR
  clear hR
  go_enter Tryz.func118, Tryz.ntmps118
  go_wp2_with fail
  refine indexFuncM_any g cb eg pr xs v _ hx hp _ ?_ ?_
  · intro w1 k hg1 h
    have HF := Lib.hid (HR.out w1 hg1)
    rw [h] at HF
    have hk : (k : Int) ≥ 0 := by omega
    clear h hg1
    go_wp2_with fail
    exact HF.out
  · intro w1 hg1 h
    have HF := Lib.hid (HR.out w1 hg1)
    rw [h] at HF
    clear h hg1
    go_wp2_with fail
    exact HF.out
theorem bwrites_any (op d a b : Int) (w : World) (R : Ending → World → Prop) (hR : ∀ w', Grow w w' → R (.returned (.bool (wrI op d a b))) w') :
    Calls Tryz.prog 84 #[.agg #[.int .i64 op, .int .i64 d, .int .i64 a, .int .i64 b]] w R := by
  have HR := Lib.hid hR
  clear hR
  go_enter Tryz.func84, Tryz.ntmps84
  go_wp2_with fail
  have hg := (Grow.refl w).alloc (.cells #[.int .i64 op, .int .i64 d, .int .i64 a, .int .i64 b] 67)
  generalize w.alloc (.cells #[.int .i64 op, .int .i64 d, .int .i64 a, .int .i64 b] 67) = W at hg ⊢
  refine Writes_any op d a b _ _ ?_
  intro w2 hg2
  have HF := Lib.hid (HR.out w2 (hg.trans hg2))
  clear hg hg2
  generalize wrI op d a b = t2 at HF ⊢
  generalize wrO op d a b = t1
  generalize errB (vL op d a b) = t3
  go_wp2_with fail
  exact HF.out
/-- A line that the program has. -/
theorem wrI_at {p : List Ln} (hp : valP p = 0) {k : Nat} {op d a b : Int} (h : p[k]? = some ⟨op, d, a, b⟩) : wrI op d a b = wrB (p.getD k default).op := by
  have h1 : p.getD k default = ⟨op, d, a, b⟩ := by rw [List.getD_eq_getElem?_getD, h]; rfl
  rw [h1]
  have h2 : Ln.ok ⟨op, d, a, b⟩ = true := (valP_ok.1 hp).2 _ (List.mem_of_getElem? h)
  unfold wrI
  rw [show vL op d a b = true from h2, Bool.true_and]
theorem forced1_any (p : List Ln) (x : Int) (b : Nat) (pv : Value) (w : World) (hb : w.heap[b]? = some (.cells #[pv] 35 (0, 0))) (hp : LinesAt w pv p) (hl : p.length ≤ 8) (R : Ending → World → Prop) (hR : R (.returned (.bool (!inB x 0 (p.length - 1)))) w) :
    Calls Tryz.prog 142 #[.int .i64 x, .pointer (some ⟨b, 0, none⟩)] w R := by
  have e0 := box1 hb
  have hz := lt_of_block hb
  have HR := Lib.hid hR
  obtain ⟨pa, pc, rfl, _⟩ := hp
  clear hR hb
  go_enter Tryz.func142, Tryz.ntmps142
  go_wp2_with fail
  refine bwithin_any _ _ _ _ _ ?_
  obtain ⟨q, hq⟩ : ∃ q, inB x 0 (p.length - 1) = q := ⟨_, rfl⟩
  rw [hq] at HR ⊢
  clear hq
  cases q <;> (go_wp2_with fail; exact HR.out)
theorem forced2_any (p : List Ln) (k : Nat) (b : Nat) (pv : Value) (w : World) (hb : w.heap[b]? = some (.cells #[pv] 35 (0, 0))) (hp : LinesAt w pv p) (hv : valP p = 0) (hk : k < p.length) (R : Ending → World → Prop) (hR : ∀ w', Grow w w' → R (.returned (.bool (!wrB (p.getD k default).op))) w') :
    Calls Tryz.prog 143 #[.int .i64 (k : Int), .pointer (some ⟨b, 0, none⟩)] w R := by
  have e0 := box1 hb
  have hz := lt_of_block hb
  have HR := Lib.hid hR
  obtain ⟨⟨op, d, a, b'⟩, hx⟩ : ∃ l, p[k]? = some l := ⟨_, List.getElem?_eq_getElem hk⟩
  have HWR := Lib.hid (wrI_at hv hx)
  have hp2 := hp
  obtain ⟨pa, pc, rfl, _⟩ := hp
  obtain ⟨gb, o, rfl, hgb, c0, c1, c2, c3⟩ := lines_at hp2 hx
  have hk2 : (k : Int) < (p.length : Int) := by omega
  clear hR hb hx hv hp2
  go_enter Tryz.func143, Tryz.ntmps143
  go_wp2_with fail
  refine bwrites_any op d a b' _ _ ?_
  intro w1 hg1
  rw [HWR.out]
  have HF := Lib.hid (HR.out w1 hg1)
  clear hg1
  generalize wrB (p.getD k default).op = q at HF ⊢
  cases q <;> (go_wp2_with fail; exact HF.out)
set_option maxRecDepth 100000 in
set_option maxHeartbeats 8000000 in
theorem forced_any (p : List Ln) (l : List Int) (pv lv : Value) (w : World) (hp : LinesAt w pv p) (hl : IntsAt w lv l) (hval : valP p = 0) (hln : l.length ≤ 1000000) (R : Ending → World → Prop) (hR : ∀ w', Grow w w' → R (.returned (.int .i64 (lnE p l))) w') :
    Calls Tryz.prog 91 #[pv, lv] w R := by
  have HP := Lib.hid hp
  have HL := Lib.hid hl
  have HVAL := Lib.hid hval
  have HR := Lib.hid hR
  have hp8 := (valP_ok.1 hval).1
  obtain ⟨pa, pc, rfl, _⟩ := hp
  obtain ⟨la, lc, rfl, l1, l2, _⟩ := hl
  have heg1 : Enters Tryz.prog 142 := enters_of Tryz.func142 (by kernel_rfl) rfl
  have heg2 : Enters Tryz.prog 143 := enters_of Tryz.func143 (by kernel_rfl) rfl
  have HEG1 := Lib.hid heg1
  have HEG2 := Lib.hid heg2
  clear hR hval heg1 heg2
  go_enter Tryz.func91, Tryz.ntmps91
  go_wp2_with fail
  have hgW := (Grow.refl w).alloc (.cells #[.slice pa p.length pc] 35)
  have hbW := heap_alloc_new w (.cells #[.slice pa p.length pc] 35)
  generalize w.alloc (.cells #[.slice pa p.length pc] 35) = W at hgW hbW ⊢
  have HGW := Lib.hid hgW
  have HBW := Lib.hid hbW
  clear hgW hbW
  go_loopw [5] (fun i wr => ∃ k : Nat, 1 ≤ k ∧ (k ≤ l.length ∨ k = 1) ∧ i = .int .i64 k ∧ Grow W wr ∧ ∀ j, j + 1 < k → l.getD j 0 < l.getD (j + 1) 0) (fun i _ => l.length - (intOf i).toNat)
  case atStart => exact ⟨1, Nat.le_refl _, .inr rfl, rfl, Grow.refl _, fun j hj => by omega⟩
  case round =>
    obtain ⟨k, hk1, hk, rfl, hg, hall⟩ := hrel
    have HG := Lib.hid hg
    have HALL := Lib.hid hall
    clear hg hall
    by_cases hlt : k < l.length
    · obtain ⟨m, hm⟩ : ∃ m : Nat, (k : Int) - 1 = (m : Int) := ⟨k - 1, by omega⟩
      have hll := HL.out.grow (HGW.out.trans HG.out)
      obtain ⟨y, hy⟩ : ∃ y, l[k]? = some y := ⟨_, List.getElem?_eq_getElem hlt⟩
      obtain ⟨x, hx⟩ : ∃ y, l[m]? = some y := ⟨_, List.getElem?_eq_getElem (by omega)⟩
      obtain ⟨b, o, rfl, hb, e1⟩ := ints_at hll hy
      obtain ⟨b', o', he, _, e0⟩ := ints_at hll hx
      cases he
      have dx : l.getD m 0 = x := by rw [List.getD_eq_getElem?_getD, hx]; rfl
      have dy : l.getD k 0 = y := by rw [List.getD_eq_getElem?_getD, hy]; rfl
      have hkm : k = m + 1 := by omega
      have HDX := Lib.hid dx
      have HDY := Lib.hid dy
      have HKM := Lib.hid hkm
      have hk2 : (k : Int) < (l.length : Int) := by omega
      have hk3 : (0 : Int) ≤ (k : Int) := by omega
      have hm2 : (m : Int) < (l.length : Int) := by omega
      have hm3 : (0 : Int) ≤ (m : Int) := by omega
      have q1 : IntKind.i64.wrap ((k : Int) - 1) = (m : Int) := by rw [hm]; exact IntWalk.i64_in _ (by omega)
      clear hll hy hx dx dy hkm hk
      by_cases hxy : y ≤ x
      · have ha : ascB l = false := ascB_false_at (k := m) (by have := HKM.out; omega) (by rw [← HKM.out, HDX.out, HDY.out]; exact hxy)
        have HF := Lib.hid (fun n => show R (.returned (.int .i64 1)) (wr.drewN n) from by
          have := HR.out _ (HGW.out.trans (HG.out.drewN n))
          unfold lnE at this
          rw [ha] at this; exact this)
        have t1 : decide (y ≤ x) = true := decide_eq_true hxy
        clear hm ha
        go_wp2_with (go_quiet (fail))
        exact HF.out _
      · have t1 : decide (y ≤ x) = false := decide_eq_false hxy
        have HXY := Lib.hid hxy
        clear hm hxy
        go_wp2_with (go_quiet (fail))
        go_roundw
        case rel =>
          refine ⟨k + 1, by omega, .inl (by omega), by go_num, HG.out.drewN _, fun j hj => ?_⟩
          by_cases hjm : j = m
          · subst hjm; rw [← HKM.out, HDX.out, HDY.out]; have := HXY.out; omega
          · exact HALL.out j (by have := HKM.out; omega)
        case measure => simp [intOf]; omega
    · have ha : ascB l = true := ascB_true.2 fun j hj => HALL.out j (by omega)
      have hE : lnE p l = if (l.any fun i => !inB i 0 (p.length - 1)) then 4 else if 2 < l.length then 3 else if (l.any fun i => !wrB (p.getD i.toNat default).op) then 6 else 0 := by unfold lnE; rw [ha, if_pos rfl]
      have hR2 := HR.out
      rw [hE] at hR2
      have HR2 := Lib.hid hR2
      obtain ⟨q, hq⟩ : ∃ q, (l.any fun i => !inB i 0 (p.length - 1)) = q := ⟨_, rfl⟩
      rw [hq] at HR2
      have HQ := Lib.hid hq
      have HGG := Lib.hid (HGW.out.trans HG.out)
      have hbr := HG.out.blk HBW.out
      have hpr := HP.out.grow HGG.out
      have hp1 : PredM 142 (#[] ++ #[.pointer (some ⟨w.heap.size, 0, none⟩)]) wr l (fun i => !inB i 0 (p.length - 1)) := fun x _ W' hg' R hR => forced1_any p x _ _ W' (hg'.blk hbr) (hpr.grow hg') hp8 R (hR W' (Grow.refl _))
      have HP1 := Lib.hid hp1
      have HBR := Lib.hid hbr
      clear ha hE hR2 hbr hpr hp1
      go_wp2_with fail
      refine containsFuncM_any 142 _ HEG1.out _ l _ _ (HL.out.grow HGG.out) HP1.out _ ?_
      intro w2 hg2
      rw [HQ.out]
      have HG2 := Lib.hid (HGG.out.trans hg2)
      have HBR2 := Lib.hid (hg2.blk HBR.out)
      clear hg2
      cases q with
      | true =>
        have HF := Lib.hid (show R (.returned (.int .i64 4)) w2 from HR2.out w2 HG2.out)
        go_wp2_with fail
        exact HF.out
      | false =>
        rw [if_neg (by decide)] at HR2
        by_cases hl2 : 2 < l.length
        · rw [if_pos hl2] at HR2
          have t1 : (l.length : Int) > 2 := by omega
          have HF := Lib.hid (HR2.out w2 HG2.out)
          go_wp2_with fail
          exact HF.out
        · rw [if_neg hl2] at HR2
          have t1 : ¬ (l.length : Int) > 2 := by omega
          have hin : ∀ x ∈ l, 0 ≤ x ∧ x < p.length := fun x hx => by
            have := List.any_eq_false.1 hq x hx
            simp only [Bool.not_eq_true', Bool.not_eq_false] at this
            have := inB_true.1 this; omega
          obtain ⟨q', hq'⟩ : ∃ q, (l.any fun i => !wrB (p.getD i.toNat default).op) = q := ⟨_, rfl⟩
          rw [hq'] at HR2
          have HQ' := Lib.hid hq'
          have hpr := HP.out.grow HG2.out
          have hbr := HBR2.out
          have hp2 : PredM 143 (#[] ++ #[.pointer (some ⟨w.heap.size, 0, none⟩)]) w2 l (fun i => !wrB (p.getD i.toNat default).op) := fun x hx W' hg' R hR => by
            obtain ⟨h0, h1⟩ := hin x hx
            obtain ⟨k, rfl⟩ : ∃ k : Nat, x = k := ⟨x.toNat, by omega⟩
            exact forced2_any p k _ _ W' (hg'.blk hbr) (hpr.grow hg') HVAL.out (by omega) R (by simpa using hR)
          have HP2 := Lib.hid hp2
          clear hin hq hq' hpr hbr hp2
          go_wp2_with fail
          refine containsFuncM_any 143 _ HEG2.out _ l _ _ (HL.out.grow HG2.out) HP2.out _ ?_
          intro w3 hg3
          rw [HQ'.out]
          have HF := Lib.hid (HR2.out w3 (HG2.out.trans hg3))
          clear hg3
          cases q' <;> (go_wp2_with fail; exact HF.out)
end Go.Proofs.YtmlbgfnddgbpbaaGreat
