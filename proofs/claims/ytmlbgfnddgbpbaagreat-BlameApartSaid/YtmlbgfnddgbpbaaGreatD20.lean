/- Walks that the statements of chapter 03 share: which lists are too long for a statement, when families are the same, and literals. -/
import Derived.Test.YtmlbgfnddgbpbaaGreatD06
import Derived.Test.YtmlbgfnddgbpbaaGreatD02
import Derived.Test.YtmlbgfnddgbpbaaGreatD01
import Derived.StillTailTactics
namespace Go.Proofs.YtmlbgfnddgbpbaaGreat
open Go.RowKit

/-! ### Literals -/
theorem cells_at {w : World} {b : Nat} {cs : List Value} {e : TypeId} (h : w.heap[b]? = some (.cells cs.toArray e (0, 0))) (j : Nat) (u : Value) (hj : cs[j]? = some u) : w.cell? ⟨b, j, none⟩ = some u := by
  simp [World.cell?, h, hj]
theorem ints_blk {w : World} {b : Nat} {xs : List Int} {e : TypeId} (h : w.heap[b]? = some (.cells (xs.map (Value.int .i64)).toArray e (0, 0))) (hl : xs.length < 1000000) : IntsAt w (.slice (some ⟨b, 0, none⟩) xs.length xs.length) xs := by
  refine ⟨_, _, rfl, Nat.le_refl _, by omega, .inr ⟨b, 0, rfl, lt_of_block h, fun j x hj i u hu => ?_⟩⟩
  have hi : i = 0 := by have := (List.getElem?_eq_some_iff.1 hu).1; simpa [encI] using this
  subst hi
  have hu2 : u = .int .i64 x := by simpa [encI] using hu.symm
  subst hu2
  rw [show 0 + j * 1 + 0 = j by omega]
  exact cells_at h j _ (by rw [List.getElem?_map, hj]; rfl)
theorem fam_blk {w : World} {b : Nat} {L : List (Lo Int)} {e : TypeId} (h : w.heap[b]? = some (.cells (L.map Lo.v).toArray e (0, 0))) (hl : L.length < 1000000) (hi : ∀ t ∈ L, IntsAt w t.v t.x) : FamAt w (.slice (some ⟨b, 0, none⟩) L.length L.length) (L.map Lo.x) := by
  refine ⟨L, ⟨_, _, rfl, Nat.le_refl _, by omega, .inr ⟨b, 0, rfl, lt_of_block h, fun j x hj i u hu => ?_⟩⟩, hi, rfl⟩
  have hi : i = 0 := by have := (List.getElem?_eq_some_iff.1 hu).1; simpa [encLo] using this
  subst hi
  have hu2 : u = x.v := by simpa [encLo] using hu.symm
  subst hu2
  rw [show 0 + j * 1 + 0 = j by omega]
  exact cells_at h j _ (by rw [List.getElem?_map, hj]; rfl)

/-! ### Too long for a statement -/
theorem long1_any (p : List Ln) (v : Value) (w : World) (hp : LinesAt w v p) (R : Ending → World → Prop) (hR : R (.returned (.bool (decide (100 < p.length)))) w) :
    Calls Tryz.prog 29 #[v] w R := by
  obtain ⟨a, c, rfl, h1, h2, _⟩ := hp
  by_cases h : 100 < p.length
  · rw [decide_eq_true h] at hR
    have t1 : (p.length : Int) > 100 := by omega
    go_enter Tryz.func29, Tryz.ntmps29
    go_wp2
    simpa using hR
  · rw [decide_eq_false h] at hR
    have t1 : ¬ (p.length : Int) > 100 := by omega
    go_enter Tryz.func29, Tryz.ntmps29
    go_wp2
    simpa using hR
theorem large3_any (p : List Int) (v : Value) (w : World) (hp : IntsAt w v p) (R : Ending → World → Prop) (hR : R (.returned (.bool (decide (100 < p.length)))) w) :
    Calls Tryz.prog 24 #[v] w R := by
  obtain ⟨a, c, rfl, h1, h2, _⟩ := hp
  by_cases h : 100 < p.length
  · rw [decide_eq_true h] at hR
    have t1 : (p.length : Int) > 100 := by omega
    go_enter Tryz.func24, Tryz.ntmps24
    go_wp2
    simpa using hR
  · rw [decide_eq_false h] at hR
    have t1 : ¬ (p.length : Int) > 100 := by omega
    go_enter Tryz.func24, Tryz.ntmps24
    go_wp2
    simpa using hR
theorem large2_any (p : List Int) (v : Value) (w : World) (hp : IntsAt w v p) (R : Ending → World → Prop) (hR : R (.returned (.bool (decide (100 < p.length)))) w) :
    Calls Tryz.prog 80 #[v] w R := by
  obtain ⟨a, c, rfl, h1, h2, _⟩ := hp
  by_cases h : 100 < p.length
  · rw [decide_eq_true h] at hR
    have t1 : (p.length : Int) > 100 := by omega
    go_enter Tryz.func80, Tryz.ntmps80
    go_wp2
    simpa using hR
  · rw [decide_eq_false h] at hR
    have t1 : ¬ (p.length : Int) > 100 := by omega
    go_enter Tryz.func80, Tryz.ntmps80
    go_wp2
    simpa using hR
/-- The sets are too many for a statement, or too long. -/
def shortS (l : List Int) : Bool := !decide (100 < l.length)
def longF (f : List (List Int)) : Bool := decide (100 < f.length) || !f.all shortS
set_option maxHeartbeats 4000000 in
theorem longF_any (f : List (List Int)) (v : Value) (w : World) (hx : FamAt w v f) (R : Ending → World → Prop) (hR : ∀ w', Grow w w' → R (.returned (.bool (longF f))) w') :
    Calls Tryz.prog 17 #[v] w R := by
  have HX := Lib.hid hx
  have hm : longF f = (decide (100 < f.length) || !f.all shortS) := rfl
  rw [hm] at hR
  obtain ⟨a, c, rfl, h1, h2⟩ := hx.out
  clear hm hx
  by_cases hl : 100 < f.length
  · rw [decide_eq_true hl] at hR
    have t1 : (f.length : Int) > 100 := by omega
    have HR := Lib.hid (hR w (Grow.refl w))
    clear hR hl
    go_enter Tryz.func17, Tryz.ntmps17
    go_wp2_with fail
    exact HR.out
  · rw [decide_eq_false hl, Bool.false_or] at hR
    have HR := Lib.hid hR
    have t1 : ¬ (f.length : Int) > 100 := by omega
    clear hR hl
    go_enter Tryz.func17, Tryz.ntmps17
    go_wp2_with fail
    go_loopw [3] (fun i wr => ∃ k : Nat, k ≤ f.length ∧ i = .int .i64 k ∧ Grow w wr ∧ ∀ y ∈ f.take k, shortS y = true) (fun i _ => f.length - (intOf i).toNat)
    case atStart => exact ⟨0, Nat.zero_le _, rfl, Grow.refl _, by simp⟩
    case round =>
      obtain ⟨k, hk, rfl, hg, hall⟩ := hrel
      have HALL := Lib.hid hall
      have HG := Lib.hid hg
      clear hall hg
      by_cases hlt : k < f.length
      · obtain ⟨x, hx⟩ : ∃ l, f[k]? = some l := ⟨_, List.getElem?_eq_getElem hlt⟩
        obtain ⟨b, o, ta, tc, rfl, hb, e0, hi⟩ := fam_at (HX.out.grow HG.out) hx
        have HT := Lib.hid hx
        have HI := Lib.hid hi
        have hlt2 : (k : Int) < (f.length : Int) := by omega
        clear hx hi
        by_cases hs : 100 < x.length
        · have HF0 := HR.out _ HG.out
          rw [rall_false_at (f := shortS) HT.out (by unfold shortS; rw [decide_eq_true hs]; rfl)] at HF0
          have HF := Lib.hid HF0
          have HS := Lib.hid (decide_eq_true hs)
          clear HF0 hs
          go_wp2_with fail
          refine large3_any x _ _ HI.out _ ?_
          rw [HS.out]
          go_wp2_with fail
          exact HF.out
        · have HV := Lib.hid (show shortS x = true by unfold shortS; rw [decide_eq_false hs]; rfl)
          have HS := Lib.hid (decide_eq_false hs)
          clear hs
          go_wp2_with fail
          refine large3_any x _ _ HI.out _ ?_
          rw [HS.out]
          go_wp2_with fail
          go_roundw
          case rel => exact ⟨k + 1, by omega, by go_num, HG.out, rall_take_succ HALL.out HT.out HV.out⟩
          case measure => simp [intOf]; omega
      · have HF0 := HR.out _ HG.out
        rw [rall_of_take HALL.out (by omega), Bool.not_true] at HF0
        have HF := Lib.hid HF0
        clear HF0
        have hn : k = f.length := by omega
        go_wp2_with fail
        exact HF.out
/-- The tests are too long for a statement. -/
def shortT (t : Tst) : Bool := !decide (100 < t.xs.length)
def manyT (ts : List Tst) : Bool := decide (50 < ts.length) || !ts.all shortT
set_option maxHeartbeats 4000000 in
theorem manyT_any (ts : List Tst) (v : Value) (w : World) (hx : TestsAt w v ts) (R : Ending → World → Prop) (hR : ∀ w', Grow w w' → R (.returned (.bool (manyT ts))) w') :
    Calls Tryz.prog 32 #[v] w R := by
  have HX := Lib.hid hx
  have hm : manyT ts = (decide (50 < ts.length) || !ts.all shortT) := rfl
  rw [hm] at hR
  obtain ⟨⟨a, c, rfl, h1, h2, _⟩, _⟩ := hx
  clear hm
  by_cases hl : 50 < ts.length
  · rw [decide_eq_true hl] at hR
    have t1 : (ts.length : Int) > 50 := by omega
    have HR := Lib.hid (hR w (Grow.refl w))
    clear hR hl
    go_enter Tryz.func32, Tryz.ntmps32
    go_wp2_with fail
    exact HR.out
  · rw [decide_eq_false hl, Bool.false_or] at hR
    have HR := Lib.hid hR
    have t1 : ¬ (ts.length : Int) > 50 := by omega
    clear hR hl
    go_enter Tryz.func32, Tryz.ntmps32
    go_wp2_with fail
    go_loopw [3] (fun i wr => ∃ k : Nat, k ≤ ts.length ∧ i = .int .i64 k ∧ Grow w wr ∧ ∀ y ∈ ts.take k, shortT y = true) (fun i _ => ts.length - (intOf i).toNat)
    case atStart => exact ⟨0, Nat.zero_le _, rfl, Grow.refl _, by simp⟩
    case round =>
      obtain ⟨k, hk, rfl, hg, hall⟩ := hrel
      have HALL := Lib.hid hall
      have HG := Lib.hid hg
      clear hall hg
      by_cases hlt : k < ts.length
      · obtain ⟨⟨v, xs, o', wt⟩, ht⟩ : ∃ x, ts[k]? = some x := ⟨_, List.getElem?_eq_getElem hlt⟩
        obtain ⟨b, o, rfl, hb, e0, _, _⟩ := tests_at (HX.out.at_.grow HG.out) ht
        have hsi := (HX.out.grow HG.out).ins _ (List.mem_of_getElem? ht)
        obtain ⟨sa, sc, hv, _⟩ := HX.out.ins _ (List.mem_of_getElem? ht)
        dsimp only at hv e0 hsi
        subst hv
        have HT := Lib.hid ht
        have HI := Lib.hid hsi
        have hlt2 : (k : Int) < (ts.length : Int) := by omega
        clear ht hsi
        by_cases hs : 100 < xs.length
        · have HF0 := HR.out _ HG.out
          rw [rall_false_at (f := shortT) HT.out (by unfold shortT; dsimp only; rw [decide_eq_true hs]; rfl)] at HF0
          have HF := Lib.hid HF0
          have HS := Lib.hid (decide_eq_true hs)
          clear HF0 hs
          go_wp2_with fail
          refine large2_any xs _ _ HI.out _ ?_
          rw [HS.out]
          go_wp2_with fail
          exact HF.out
        · have HV := Lib.hid (show shortT ⟨.slice sa xs.length sc, xs, o', wt⟩ = true by unfold shortT; dsimp only; rw [decide_eq_false hs]; rfl)
          have HS := Lib.hid (decide_eq_false hs)
          clear hs
          go_wp2_with fail
          refine large2_any xs _ _ HI.out _ ?_
          rw [HS.out]
          go_wp2_with fail
          go_roundw
          case rel => exact ⟨k + 1, by omega, by go_num, HG.out, rall_take_succ HALL.out HT.out HV.out⟩
          case measure => simp [intOf]; omega
      · have HF0 := HR.out _ HG.out
        rw [rall_of_take HALL.out (by omega), Bool.not_true] at HF0
        have HF := Lib.hid HF0
        clear HF0
        have hn : k = ts.length := by omega
        go_wp2_with fail
        exact HF.out

/-! ### When families are the same -/
theorem famr_loop {xs ys : List (List Int)} (k : Nat) (h : xs.take k = ys.take k) (hl : xs.length = ys.length) (hk : xs.length ≤ k) : decide (xs = ys) = true := by
  rw [List.take_of_length_le hk, List.take_of_length_le (by omega)] at h
  simp [h]
set_option maxRecDepth 100000 in
set_option maxHeartbeats 4000000 in
theorem sameF_any (xs ys : List (List Int)) (v u : Value) (w : World) (hx : FamAt w v xs) (hy : FamAt w u ys) (R : Ending → World → Prop) (hR : ∀ w', Grow w w' → R (.returned (.bool (decide (xs = ys)))) w') :
    Calls Tryz.prog 21 #[v, u] w R := by
  have HX := Lib.hid hx
  have HY := Lib.hid hy
  have HR := Lib.hid hR
  obtain ⟨a, c, rfl, h1, h2⟩ := hx.out
  obtain ⟨a', c', rfl, h1', h2'⟩ := hy.out
  clear hR hx hy
  by_cases hl : xs.length = ys.length
  · have t2 : ((xs.length : Int) != ys.length) = false := by rw [hl]; simp
    have HL := Lib.hid hl
    rw [← hl] at h1' t2 ⊢
    clear hl
    go_enter Tryz.func21, Tryz.ntmps21
    go_wp2_with fail
    go_loopw [5] (fun i wr => ∃ k : Nat, k ≤ xs.length ∧ i = .int .i64 k ∧ xs.take k = ys.take k ∧ Grow w wr) (fun i _ => xs.length - (intOf i).toNat)
    case atStart => exact ⟨0, Nat.zero_le _, rfl, rfl, Grow.refl _⟩
    case round =>
      obtain ⟨k, hk, rfl, hs, hg⟩ := hrel
      have HG := Lib.hid hg
      have HS := Lib.hid hs
      clear hg hs
      by_cases hlt : k < xs.length
      · obtain ⟨x, hx⟩ : ∃ l, xs[k]? = some l := ⟨_, List.getElem?_eq_getElem hlt⟩
        obtain ⟨y, hy⟩ : ∃ l, ys[k]? = some l := ⟨_, List.getElem?_eq_getElem (by have := HL.out; omega)⟩
        obtain ⟨b, o, ta, tc, rfl, hb, e0, hi⟩ := fam_at (HX.out.grow HG.out) hx
        have hyy := HY.out.grow HG.out
        obtain ⟨b', o', ta', tc', rfl, hb', e1, hi'⟩ := fam_at hyy hy
        have hk2 : (k : Int) < (xs.length : Int) := by omega
        have HXX := Lib.hid hx
        have HYY := Lib.hid hy
        have HI := Lib.hid hi
        have HI' := Lib.hid hi'
        clear hx hy hyy hi hi'
        go_wp2_with fail
        go_still_tail 8, (by kernel_rfl)
        change wpList _ _ _ _ _ wr.drew
        clear e0 e1
        go_wp2_with fail
        refine sameInts_any x y _ _ _ (HI.out.grow (Grow.refl wr).drew) (HI'.out.grow (Grow.refl wr).drew) _ ?_
        intro w1 hg1
        have HG1 := Lib.hid ((HG.out.trans (Grow.refl wr).drew).trans hg1)
        clear hg1
        by_cases hxy : x = y
        · subst hxy
          rw [show decide (x = x) = true from decide_eq_true rfl]
          go_wp2_with fail
          go_roundw
          case rel => exact ⟨k + 1, by omega, by go_num, take_succ_eq HS.out HXX.out HYY.out, HG1.out⟩
          case measure => simp [intOf]; omega
        · rw [show decide (x = y) = false from decide_eq_false hxy]
          have hne : decide (xs = ys) = false := by
            simp only [decide_eq_false_iff_not]; intro e; have h := HXX.out; rw [e, HYY.out] at h; exact hxy (Option.some.inj h).symm
          have HF := Lib.hid (show R (.returned (.bool false)) w1 from by have := HR.out _ HG1.out; rw [hne] at this; exact this)
          clear hne
          go_wp2_with fail
          exact HF.out
      · have ht := famr_loop k HS.out HL.out (by omega)
        have HF := Lib.hid (show R (.returned (.bool true)) wr from by have := HR.out _ HG.out; rw [ht] at this; exact this)
        clear ht
        go_wp2_with fail
        exact HF.out
  · have hne : decide (xs = ys) = false := by
      simp only [decide_eq_false_iff_not]; intro e; exact hl (by rw [e])
    have hl2 : (xs.length : Int) ≠ ys.length := by omega
    have t2 : ((xs.length : Int) != ys.length) = true := bne_iff_ne.2 hl2
    have HF := Lib.hid (show R (.returned (.bool false)) w from by have := HR.out _ (Grow.refl w); rw [hne] at this; exact this)
    clear hne hl hl2
    go_enter Tryz.func21, Tryz.ntmps21
    go_wp2_with fail
    exact HF.out
end Go.Proofs.YtmlbgfnddgbpbaaGreat
