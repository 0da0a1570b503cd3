/- The walks of package patch: the errors of a program, a patch and tests. -/
import Derived.Test.YtfbfkkaepgcggaaGreatQ08
namespace Go.Proofs.YtfbfkkaepgcggaaGreat
open Go.RowKit

/-- A predicate on edits that a function with captured values answers. -/
def PredE (g : Nat) (cb : Array Value) (w : World) (pr : Ed → Bool) : Prop :=
  ∀ t op d a b W, Grow w W → ∀ R : Ending → World → Prop, (∀ W', Grow W W' → R (.returned (.bool (pr ⟨t, ⟨op, d, a, b⟩⟩))) W') → Calls Tryz.prog g (#[.agg #[.int .i64 t, .int .i64 op, .int .i64 d, .int .i64 a, .int .i64 b]] ++ cb) W R

set_option maxHeartbeats 2000000 in
theorem indexFuncE_any (g : Nat) (cb : Array Value) (eg : Enters Tryz.prog g) (pr : Ed → Bool) (ts : List Ed) (v : Value) (w : World) (hx : EditsAt w v ts) (hp : PredE g cb w pr)
    (R : Ending → World → Prop) (hR1 : ∀ w' (k : Nat), Grow w w' → ts.any pr = true → R (.returned (.int .i64 k)) w') (hR2 : ∀ w', Grow w w' → ts.any pr = false → R (.returned (.int .i64 (-1))) w') :
    Calls Tryz.prog 135 #[v, .func (.func g) #[] cb] w R := by
  have HX := Lib.hid hx
  obtain ⟨a, c, rfl, h1, h2, _⟩ := hx
  have hm : ts.length ≤ 9223372036854775807 := by omega
  have HR1 := Lib.hid hR1
  have HR2 := Lib.hid hR2
  have HP := Lib.hid hp
  unfold Enters at eg
  clear hR1 hR2 hp
  go_enter Tryz.func135, Tryz.ntmps135
  go_wp2_with fail
  go_loopw [4, 5, 8] (fun _ _ i wr => ∃ k : Nat, k ≤ ts.length ∧ i = .int .i64 k ∧ Grow w wr ∧ ∀ y ∈ ts.take k, pr y = false) (fun _ _ i _ => ts.length - (intOf i).toNat)
  case atStart => exact ⟨0, Nat.zero_le _, rfl, Grow.refl _, by simp⟩
  case round =>
    obtain ⟨k, hk, rfl, hg, hall⟩ := hrel
    have HALL := Lib.hid hall
    have HG := Lib.hid hg
    clear hall hg
    by_cases hlt : k < ts.length
    · obtain ⟨⟨t, op, d, a', b'⟩, ht⟩ : ∃ x, ts[k]? = some x := ⟨_, List.getElem?_eq_getElem hlt⟩
      obtain ⟨b, o, rfl, hb, e0, e1, e2, e3, e4⟩ := edits_at (HX.out.grow HG.out) ht
      have HT := Lib.hid ht
      clear ht
      by_cases hv : pr ⟨t, ⟨op, d, a', b'⟩⟩ = true
      · have HA := Lib.hid (any_at HT.out hv)
        have HV := Lib.hid hv
        clear hv
        go_wp2_with fail
        refine HP.out t op d a' b' _ HG.out _ ?_
        intro w1 hg1
        rw [HV.out]
        have HF := Lib.hid (HR1.out w1 k (HG.out.trans hg1) HA.out)
        clear hg1
        go_wp2_with fail
        exact HF.out
      · replace hv : pr ⟨t, ⟨op, d, a', b'⟩⟩ = false := by simpa using hv
        have HV := Lib.hid hv
        clear hv
        go_wp2_with fail
        refine HP.out t op d a' b' _ HG.out _ ?_
        intro w1 hg1
        rw [HV.out]
        have HG2 := Lib.hid (HG.out.trans hg1)
        clear hg1
        go_wp2_with fail
        go_roundw
        case rel => exact ⟨k + 1, by omega, by go_num, HG2.out, take_succ_false' HALL.out HT.out HV.out⟩
        case measure => simp [intOf]; omega
    · have HF := Lib.hid (HR2.out _ HG.out (any_none HALL.out (by omega)))
      go_wp2_with fail
      exact HF.out

set_option maxHeartbeats 1000000 in
theorem containsFuncE_any (g : Nat) (cb : Array Value) (eg : Enters Tryz.prog g) (pr : Ed → Bool) (ts : List Ed) (v : Value) (w : World) (hx : EditsAt w v ts) (hp : PredE g cb w pr)
    (R : Ending → World → Prop) (hR : ∀ w', Grow w w' → R (.returned (.bool (ts.any pr))) w') :
    Calls Tryz.prog 107 #[v, .func (.func g) #[] cb] w R := by
  have HR := Lib.hid hR
  clear hR
  go_enter Tryz.func107, Tryz.ntmps107
  go_wp2_with fail
  refine indexFuncE_any g cb eg pr ts v _ hx hp _ ?_ ?_
  · intro w1 k hg1 h
    have HF := Lib.hid (HR.out w1 hg1)
    rw [h] at HF
    have hk : (k : Int) ≥ 0 := by omega
    clear h hg1
    go_wp2_with fail
    exact HF.out
  · intro w1 hg1 h
    have HF := Lib.hid (HR.out w1 hg1)
    rw [h] at HF
    clear h hg1
    go_wp2_with fail
    exact HF.out

set_option maxHeartbeats 2000000 in
theorem offF_any (t op d a b : Int) (n c : Nat) (ad : Option Addr) (bp : Nat) (w : World) (hb : w.heap[bp]? = some (.cells #[.slice ad n c] 23 (0, 0))) (R : Ending → World → Prop)
    (hR : ∀ w', Grow w w' → R (.returned (.bool (decide ((n : Int) ≤ t)))) w') :
    Calls Tryz.prog 108 #[.agg #[.int .i64 t, .int .i64 op, .int .i64 d, .int .i64 a, .int .i64 b], .pointer (some ⟨bp, 0, none⟩)] w R := by
  have HR := Lib.hid hR
  have c0 := box1 hb
  have hz := lt_of_block hb
  clear hR hb
  by_cases h : (n : Int) ≤ t
  · rw [decide_eq_true h] at HR
    have t1 : t ≥ (n : Int) := h
    go_enter Tryz.func108, Tryz.ntmps108
    go_wp2_with fail
    exact HR.out _ ((Grow.refl _).alloc _)
  · rw [decide_eq_false h] at HR
    have t1 : ¬ t ≥ (n : Int) := h
    go_enter Tryz.func108, Tryz.ntmps108
    go_wp2_with fail
    exact HR.out _ ((Grow.refl _).alloc _)

set_option maxRecDepth 100000 in
set_option maxHeartbeats 4000000 in
theorem checked_any (p : List Ln) (x : List Ed) (ts : List Tst) (pv xv tv : Value) (w : World) (hp : LinesAt w pv p) (hx : EditsAt w xv x) (ht : TestsAt w tv ts) (R : Ending → World → Prop)
    (hR : ∀ w', Grow w w' → R (.returned (.int .i64 (chkX p x ts))) w') :
    Calls Tryz.prog 92 #[pv, xv, tv] w R := by
  have HP := Lib.hid hp
  have HX := Lib.hid hx
  have HT := Lib.hid ht
  have hv : chkX p x ts = if valP p = 0 then (if valX x = 0 then (if valT ts = 0 then (if offB p.length x then 4 else 0) else valT ts) else valX x) else valP p := rfl
  rw [hv] at hR
  have HR := Lib.hid hR
  obtain ⟨e1, h1⟩ : ∃ e, valP p = e := ⟨_, rfl⟩
  obtain ⟨e2, h2⟩ : ∃ e, valX x = e := ⟨_, rfl⟩
  obtain ⟨e3, h3⟩ : ∃ e, valT ts = e := ⟨_, rfl⟩
  obtain ⟨q, h4⟩ : ∃ e, offB p.length x = e := ⟨_, rfl⟩
  rw [h1, h2, h3, h4] at HR
  have H1 := Lib.hid h1
  have H2 := Lib.hid h2
  have H3 := Lib.hid h3
  have H4 := Lib.hid h4
  obtain ⟨pa, pc, rfl, _⟩ := hp
  obtain ⟨xa, xc, rfl, _⟩ := hx
  obtain ⟨⟨ta, tc, rfl, _⟩, _⟩ := ht
  clear hR hv h1 h2 h3 h4
  have eg : Enters Tryz.prog 108 := enters_of Tryz.func108 (by kernel_rfl) rfl
  have EG := Lib.hid eg
  clear eg
  by_cases z1 : e1 = 0
  rotate_left
  · rw [if_neg z1] at HR
    have t1 : (e1 != 0) = true := by simpa using z1
    clear z1
    go_enter Tryz.func92, Tryz.ntmps92
    go_wp2_with fail
    have hb := heap_alloc_new w (.cells #[.slice pa p.length pc] 23)
    have hg := (Grow.refl w).alloc (.cells #[.slice pa p.length pc] 23)
    generalize w.alloc (.cells #[.slice pa p.length pc] 23) = W at hb hg ⊢
    refine validate_any p _ _ (HP.out.grow hg) _ ?_
    intro w1 hg1
    rw [H1.out]
    have HB := Lib.hid (hg1.blk hb)
    have HG := Lib.hid (hg.trans hg1)
    clear hb hg hg1
    have HF := Lib.hid (HR.out w1 HG.out)
    go_wp2_with fail
    exact HF.out
  subst z1
  rw [if_pos rfl] at HR
  by_cases z2 : e2 = 0
  rotate_left
  · rw [if_neg z2] at HR
    have t1 : (e2 != 0) = true := by simpa using z2
    clear z2
    go_enter Tryz.func92, Tryz.ntmps92
    go_wp2_with fail
    have hb := heap_alloc_new w (.cells #[.slice pa p.length pc] 23)
    have hg := (Grow.refl w).alloc (.cells #[.slice pa p.length pc] 23)
    generalize w.alloc (.cells #[.slice pa p.length pc] 23) = W at hb hg ⊢
    refine validate_any p _ _ (HP.out.grow hg) _ ?_
    intro w1 hg1
    rw [H1.out]
    have HB := Lib.hid (hg1.blk hb)
    have HG := Lib.hid (hg.trans hg1)
    clear hb hg hg1
    go_wp2_with fail
    refine validateX_any x _ _ (HX.out.grow HG.out) _ ?_
    intro w2 hg2
    rw [H2.out]
    have HB2 := Lib.hid (hg2.blk HB.out)
    have HG2 := Lib.hid (HG.out.trans hg2)
    clear hg2
    have HF := Lib.hid (HR.out w2 HG2.out)
    go_wp2_with fail
    exact HF.out
  subst z2
  rw [if_pos rfl] at HR
  by_cases z3 : e3 = 0
  rotate_left
  · rw [if_neg z3] at HR
    have t1 : (e3 != 0) = true := by simpa using z3
    clear z3
    go_enter Tryz.func92, Tryz.ntmps92
    go_wp2_with fail
    have hb := heap_alloc_new w (.cells #[.slice pa p.length pc] 23)
    have hg := (Grow.refl w).alloc (.cells #[.slice pa p.length pc] 23)
    generalize w.alloc (.cells #[.slice pa p.length pc] 23) = W at hb hg ⊢
    refine validate_any p _ _ (HP.out.grow hg) _ ?_
    intro w1 hg1
    rw [H1.out]
    have HB := Lib.hid (hg1.blk hb)
    have HG := Lib.hid (hg.trans hg1)
    clear hb hg hg1
    go_wp2_with fail
    refine validateX_any x _ _ (HX.out.grow HG.out) _ ?_
    intro w2 hg2
    rw [H2.out]
    have HB2 := Lib.hid (hg2.blk HB.out)
    have HG2 := Lib.hid (HG.out.trans hg2)
    clear hg2
    go_wp2_with fail
    refine validateTests_any ts _ _ (HT.out.grow HG2.out) _ ?_
    intro w3 hg3
    rw [H3.out]
    have HB3 := Lib.hid (hg3.blk HB2.out)
    have HG3 := Lib.hid (HG2.out.trans hg3)
    clear hg3
    have HF := Lib.hid (HR.out w3 HG3.out)
    go_wp2_with fail
    exact HF.out
  subst z3
  rw [if_pos rfl] at HR
  cases q with
  | true =>
    rw [if_pos rfl] at HR
    go_enter Tryz.func92, Tryz.ntmps92
    go_wp2_with fail
    have hb := heap_alloc_new w (.cells #[.slice pa p.length pc] 23)
    have hg := (Grow.refl w).alloc (.cells #[.slice pa p.length pc] 23)
    generalize w.alloc (.cells #[.slice pa p.length pc] 23) = W at hb hg ⊢
    refine validate_any p _ _ (HP.out.grow hg) _ ?_
    intro w1 hg1
    rw [H1.out]
    have HB := Lib.hid (hg1.blk hb)
    have HG := Lib.hid (hg.trans hg1)
    clear hb hg hg1
    go_wp2_with fail
    refine validateX_any x _ _ (HX.out.grow HG.out) _ ?_
    intro w2 hg2
    rw [H2.out]
    have HB2 := Lib.hid (hg2.blk HB.out)
    have HG2 := Lib.hid (HG.out.trans hg2)
    clear hg2
    go_wp2_with fail
    refine validateTests_any ts _ _ (HT.out.grow HG2.out) _ ?_
    intro w3 hg3
    rw [H3.out]
    have HB3 := Lib.hid (hg3.blk HB2.out)
    have HG3 := Lib.hid (HG2.out.trans hg3)
    clear hg3
    go_wp2_with fail
    have hpred : PredE 108 #[.pointer (some ⟨w.heap.size, 0, none⟩)] w3 (fun e => decide ((p.length : Int) ≤ e.at_)) := fun t op d a b W hgW R hR => offF_any t op d a b _ _ _ _ W (hgW.blk HB3.out) R hR
    refine containsFuncE_any 108 _ EG.out (fun e => decide ((p.length : Int) ≤ e.at_)) x _ _ (HX.out.grow HG3.out) hpred _ ?_
    intro w4 hg4
    rw [show x.any (fun e => decide ((p.length : Int) ≤ e.at_)) = true from H4.out]
    have HG4 := Lib.hid (HG3.out.trans hg4)
    clear hg4 hpred
    have HF := Lib.hid (HR.out w4 HG4.out)
    go_wp2_with fail
    exact HF.out
  | false =>
    rw [if_neg (by decide)] at HR
    go_enter Tryz.func92, Tryz.ntmps92
    go_wp2_with fail
    have hb := heap_alloc_new w (.cells #[.slice pa p.length pc] 23)
    have hg := (Grow.refl w).alloc (.cells #[.slice pa p.length pc] 23)
    generalize w.alloc (.cells #[.slice pa p.length pc] 23) = W at hb hg ⊢
    refine validate_any p _ _ (HP.out.grow hg) _ ?_
    intro w1 hg1
    rw [H1.out]
    have HB := Lib.hid (hg1.blk hb)
    have HG := Lib.hid (hg.trans hg1)
    clear hb hg hg1
    go_wp2_with fail
    refine validateX_any x _ _ (HX.out.grow HG.out) _ ?_
    intro w2 hg2
    rw [H2.out]
    have HB2 := Lib.hid (hg2.blk HB.out)
    have HG2 := Lib.hid (HG.out.trans hg2)
    clear hg2
    go_wp2_with fail
    refine validateTests_any ts _ _ (HT.out.grow HG2.out) _ ?_
    intro w3 hg3
    rw [H3.out]
    have HB3 := Lib.hid (hg3.blk HB2.out)
    have HG3 := Lib.hid (HG2.out.trans hg3)
    clear hg3
    go_wp2_with fail
    have hpred : PredE 108 #[.pointer (some ⟨w.heap.size, 0, none⟩)] w3 (fun e => decide ((p.length : Int) ≤ e.at_)) := fun t op d a b W hgW R hR => offF_any t op d a b _ _ _ _ W (hgW.blk HB3.out) R hR
    refine containsFuncE_any 108 _ EG.out (fun e => decide ((p.length : Int) ≤ e.at_)) x _ _ (HX.out.grow HG3.out) hpred _ ?_
    intro w4 hg4
    rw [show x.any (fun e => decide ((p.length : Int) ≤ e.at_)) = false from H4.out]
    have HG4 := Lib.hid (HG3.out.trans hg4)
    clear hg4 hpred
    have HF := Lib.hid (HR.out w4 HG4.out)
    go_wp2_with fail
    exact HF.out
end Go.Proofs.YtfbfkkaepgcggaaGreat
