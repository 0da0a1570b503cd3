/-
The walk of the program after a patch.
The walk of the program after a patch.
The walks of package seek: the errors of a program and tests, whether a test fails, whether a patch is good.
The walk of fixes: the single repairs at a place.
-/
import Derived.Test.YtfbfkkaepgcggaaGreatQ11
import Derived.Test.YtfbfkkaepgcggaaGreatQ12
namespace Go.Proofs.YtfbfkkaepgcggaaGreat
open Go.RowKit

theorem run_copy_lines (w : World) (ty g : Nat) (v : Value) (p : List Ln) (hv : LinesAt w v p) (hc : ∀ j, j < p.length * 4 → (w.cell? ⟨g, j, none⟩).isSome = true) (hf : ∀ j, j < p.length * 4 → w.frozen? ⟨g, j, none⟩ = false) :
    (Builtin.copy_ #[23, 23] ty #[.slice (some ⟨g, 0, none⟩) p.length p.length, v]).run Tryz.prog w = .ok (goInt p.length) (w.setCells g 0 (p.flatMap encL)) := by
  have hl4 : (p.flatMap encL).length = p.length * 4 := flatMap_length encL_len p
  have hst := run_storeCells_cells (P := Tryz.prog) g 0 (p.flatMap encL) 0 w (by rw [hl4]; simpa using hc) (by rw [hl4]; simpa using hf) (by
    intro u hu
    obtain ⟨l, _, hl⟩ := List.mem_flatMap.1 hu
    exact encL_one l u hl)
  have hinfo := info_line
  obtain ⟨a, c, rfl, h1, h2, h3⟩ := hv
  cases hq : Tryz.prog.info? 44 with
  | none => rw [hq] at hinfo; cases hinfo
  | some i =>
    have hi : i.size = 4 := by rw [hq] at hinfo; simp at hinfo; exact hinfo.2.1
    cases a with
    | none =>
      have hp : p = [] := by
        rcases h3 with h | ⟨b, o, e, _⟩
        · exact h.1
        · cases e
      subst hp
      simp [Builtin.copy_, run_underlying Tryz.underlying23, Builtin.lenOf, Builtin.firstCells, sizeOf, typeInfo, hq, storeCells, World.setCells]
    | some ad =>
      have hsrc : ∀ j u, (p.flatMap encL)[j]? = some u → w.cell? (ad.add j) = some u := by
        rcases h3 with ⟨h3, _⟩ | ⟨b, o, e, hb, hcc⟩
        · subst h3; intro j u hj; simp at hj
        · cases e
          intro j u hj
          have hjl : j < p.length * 4 := by rw [← hl4]; exact (List.getElem?_eq_some_iff.1 hj).1
          have hj4 : j / 4 < p.length := by omega
          have hx : p[j / 4]? = some p[j / 4] := List.getElem?_eq_getElem hj4
          have := flatMap_getElem? encL_len p (j / 4) _ hx (j % 4) (Nat.mod_lt _ (by omega))
          rw [show j / 4 * 4 + j % 4 = j by omega, hj] at this
          have h5 := hcc (j / 4) _ hx (j % 4) u this.symm
          rw [Addr.add_lit]
          rw [show o + j / 4 * 4 + j % 4 = o + j by omega] at h5
          exact h5
      have hl := run_loadCells_list (P := Tryz.prog) w ad (p.flatMap encL) hsrc
      rw [hl4] at hl
      simp [Builtin.copy_, run_underlying Tryz.underlying23, Builtin.lenOf, Builtin.firstCells, sizeOf, typeInfo, hq, hi, hl, hst]

theorem made_row {W : World} {g : Nat} {p : List Ln} (hc : ∀ j, j < p.length * 4 → (W.cell? ⟨g, j, none⟩).isSome = true) (hf : ∀ j, j < p.length * 4 → W.frozen? ⟨g, j, none⟩ = false) : RowL (W.setCells g 0 (p.flatMap encL)) g 0 p := by
  have hl4 : (p.flatMap encL).length = p.length * 4 := flatMap_length encL_len p
  intro j l hj i u hu
  have hi : i < 4 := by have := (List.getElem?_eq_some_iff.1 hu).1; rw [encL_len] at this; exact this
  have hjl : j < p.length := (List.getElem?_eq_some_iff.1 hj).1
  have hlt : j * 4 + i < (p.flatMap encL).length := by rw [hl4]; omega
  have h1 := World.cell?_setCells_in g (p.flatMap encL) 0 W (fun q hq => by rw [Nat.zero_add]; exact hc q (by rw [← hl4]; exact hq)) (j * 4 + i) hlt
  have h2 := flatMap_getElem? encL_len p j l hj i hi
  rw [List.getElem?_eq_getElem hlt, hu] at h2
  refine ⟨?_, ?_⟩
  · rw [show 0 + j * 4 + i = 0 + (j * 4 + i) by omega, h1]; exact h2
  · rw [World.frozen?_setCells, show 0 + j * 4 + i = j * 4 + i by omega]; exact hf _ (by omega)
theorem below_setCellsD {B : Nat} {a : World} (g : Nat) (hB : B ≤ g) : ∀ (vs : List Value) (o : Nat) (w : World), Below B a w → Below B a (w.setCells g o vs)
  | [], _, _, h => h
  | _ :: r, o, _, h => below_setCellsD g hB r (o + 1) _ (Below.setCell h hB _)
theorem size_setCellsD (g : Nat) : ∀ (vs : List Value) (o : Nat) (w : World), (w.setCells g o vs).heap.size = w.heap.size
  | [], _, _ => rfl
  | _ :: r, _, _ => by rw [World.setCells, size_setCellsD g r, World.size_setCell]
theorem grown_setCell (W : World) (a : Addr) (v : Value) : W.grownBy (W.setCell a v) (some a.block) :=
  ⟨rfl, rfl, rfl, by rw [World.size_setCell]; exact Nat.le_refl _, fun k _ hne => Below.heap_setCell _ _ _ _ (by intro e; exact hne (by rw [e]))⟩
theorem ranges_storeL {W : World} {P : Program} {k : TypeId} {R : Value → Option (DataW Ln × List MemPlace)} {b r n : Nat} {D : DataW Ln} {left : Lit → Bool} {cnt : Nat} (h : W.ranges P k R b r n D left cnt) {g i : Nat} (l : Ln) (hb : b ≠ g) (hr : r ≠ g) : (storeL W g i l).ranges P k R b r n D left cnt := by
  have st : ∀ {W : World} (a : Addr) (v : Value), a.block = g → W.ranges P k R b r n D left cnt → (W.setCell a v).ranges P k R b r n D left cnt := fun a v ha h =>
    h.kept (grown_setCell _ a v) (by rw [ha]; intro e; exact hb (Option.some.inj e)) (by rw [ha]; intro e; exact hr (Option.some.inj e))
  exact st _ _ rfl (st _ _ rfl (st _ _ rfl (st _ _ rfl h)))
theorem made_facts {w : World} {n : Nat} : ∃ W, (Instr.makeSlice 23 (.int .i64 (n : Int)) (.int .i64 (n : Int))).run Tryz.prog w = .ok (.slice (some ⟨w.heap.size, 0, none⟩) n n) W ∧ Grow w W ∧ W.heap.size = w.heap.size + 1 ∧
    (∀ j, j < n * 4 → (W.cell? ⟨w.heap.size, j, none⟩).isSome = true) ∧ (∀ j, j < n * 4 → W.frozen? ⟨w.heap.size, j, none⟩ = false) ∨ 1000000 < n := by
  by_cases hn : 1000000 < n
  · exact ⟨w, .inr hn⟩
  · obtain ⟨i, hi, hz0, hz1, hz2⟩ := info_parts info_line
    have h := run_makeSlice (P := Tryz.prog) w 23 44 i (.agg #[.int .i64 0, .int .i64 0, .int .i64 0, .int .i64 0]) Tryz.underlying23 hi hz0 .i64 .i64 (n : Int) (n : Int) (by omega) (by omega) (by rw [hz1]; omega) (by rw [hz2]; omega) (by omega)
    refine ⟨_, .inl ⟨by simpa using h, (Grow.refl w).alloc _, World.size_alloc _ _, fun j hj => ?_, fun j _ => World.frozen?_alloc_new _ _ _ _⟩⟩
    rw [World.cell?_alloc_new]
    simp [madeCells, hz1]; omega
end Go.Proofs.YtfbfkkaepgcggaaGreat

namespace Go.Proofs.YtfbfkkaepgcggaaGreat
open Go.RowKit

theorem RowL.kept {w w' : World} {g o : Nat} {xs : List Ln} {row : Option Nat} (h : RowL w g o xs) (hg : w.grownBy w' row) (hb : g < w.heap.size) (hne : some g ≠ row) : RowL w' g o xs := by
  have e := hg.block g hb hne
  intro j l hj i u hu
  obtain ⟨h1, h2⟩ := h j l hj i u hu
  refine ⟨?_, ?_⟩
  · unfold World.cell? at h1 ⊢; dsimp only at h1 ⊢; rw [e]; exact h1
  · unfold World.frozen? at h2 ⊢; dsimp only at h2 ⊢; rw [e]; exact h2

set_option maxRecDepth 100000 in
set_option maxHeartbeats 8000000 in
theorem do_any (p : List Ln) (x : List Ed) (pv xv : Value) (w : World) (hp : LinesAt w pv p) (hx : EditsAt w xv x) (hlen : p.length ≤ 8) (hok : edsOK x = true) (hx4 : x.length ≤ 4) (hoff : offB p.length x = false) (R : Ending → World → Prop)
    (hR : ∀ w' v, Grow w w' → NewS w.heap.size v → LinesAt w' v (doM p x) → R (.returned v) w') :
    Calls Tryz.prog 94 #[pv, xv] w R := by
  have HP := Lib.hid hp
  have HX := Lib.hid hx
  have HR := Lib.hid hR
  have HOK := Lib.hid hok
  have HOFF := Lib.hid hoff
  have HX4 := Lib.hid hx4
  obtain ⟨pa, pc, rfl, h1, h2, _⟩ := hp
  obtain ⟨xa, xc, rfl, g1, g2, _⟩ := hx
  obtain ⟨W, hmk⟩ := made_facts (w := w) (n := p.length)
  rcases hmk with ⟨hmk, hgW, hszW, hcW, hfW⟩ | hbig
  rotate_left
  · omega
  have HCW := Lib.hid hcW
  have HFW := Lib.hid hfW
  have HGW := Lib.hid hgW
  obtain ⟨W2, hW2⟩ : ∃ W2, W.setCells w.heap.size 0 (p.flatMap encL) = W2 := ⟨_, rfl⟩
  have hcp : ∀ ty, (Builtin.copy_ #[23, 23] ty #[.slice (some ⟨w.heap.size, 0, none⟩) p.length p.length, .slice pa p.length pc]).run Tryz.prog W = .ok (.int .i64 (p.length : Int)) W2 := fun ty => by
    rw [← hW2]; exact run_copy_lines W ty w.heap.size _ p (HP.out.grow HGW.out) HCW.out HFW.out
  have HG2 := Lib.hid (show Grow w W2 from hW2 ▸ below_setCellsD w.heap.size (Nat.le_refl _) _ _ _ HGW.out)
  have HR2 := Lib.hid (show RowL W2 w.heap.size 0 p from hW2 ▸ made_row HCW.out HFW.out)
  have hsz2 : W2.heap.size = w.heap.size + 1 := by rw [← hW2, size_setCellsD]; exact hszW
  obtain ⟨B, hB⟩ : ∃ B, W2.heap.size = B := ⟨_, rfl⟩
  have hBw : w.heap.size < B := by omega
  have HB := Lib.hid hB
  clear hB hsz2 hszW
  clear hR hok hoff hx4 hcW hfW hgW hW2
  go_enter Tryz.func94, Tryz.ntmps94
  go_wp2_with fail
  refine read_any x _ _ (HX.out.grow HG2.out) HOK.out HX4.out _ ?_
  intro w3 n3 D hg3 hn3 ho3 hm3
  have hsz3 := hg3.sz
  rw [HB.out] at ho3 hsz3
  rw [HB.out]
  have HM := Lib.hid hm3
  have HG3 := Lib.hid (HG2.out.trans hg3)
  have HR3 := Lib.hid (HR2.out.grow hg3 (by have := HB.out; omega))
  have hown := ho3
  clear hm3 hmk hcp
  go_wp2_with (at_range; refine wpList_range_own _ rfl _ 130 rfl 3 44 lawI Tryz.underlying130 lineR B n3 D rfl ho3 ?_; intro w0 hrg0 hg0 hs0)
  go_frame
  have hgr0 : Grow w3 w0 := Grow.of_grownBy hg0
  have hnb : B < w3.heap.size := ho3.lt
  have HOWN := Lib.hid hown
  clear ho3 hown hg3
  go_loopw [6, 7] (fun _ _ wr => ∃ (left : Lit → Bool) (cnt : Nat) (q : List Ln), wr.ranges Tryz.prog 3 lineR B w3.heap.size n3 D left cnt ∧ Doing p q x left ∧ RowL wr w.heap.size 0 q ∧ Grow w wr) (fun _ _ wr => wr.rangeLeft B w3.heap.size)
  case atStart => exact ⟨_, _, p, hrg0, Doing.start HM.out hlen, HR3.out.grow hgr0 (by omega), HG3.out.trans hgr0⟩
  case round =>
    obtain ⟨left, cnt, q, hrg, hdo, hrow, hgr⟩ := hrel
    have HRG := Lib.hid hrg
    have HDO := Lib.hid hdo
    have HROW := Lib.hid hrow
    have HGR := Lib.hid hgr
    have hzw := hrg.lt
    clear hrg hdo hrow hgr hrg0 hg0 hgr0
    go_wp2_with (at_next; refine wpList_next_ranges _ rfl _ rfl 3 lawI lineR (Value.int .i64) (fun l : Ln => .agg #[.int .i64 l.op, .int .i64 l.d, .int .i64 l.a, .int .i64 l.b]) (fun key kl h => by obtain ⟨z, hz, _⟩ := Go.Maps.keyOf_int_inv Tryz.underlying3 h; exact ⟨z, hz⟩) (fun v y h => by obtain ⟨l, hl, _⟩ := lineR_inv h; exact ⟨l, hl⟩) B w3.heap.size n3 D left cnt rfl HRG.out ?_ ?_)
    · intro _ hl0
      have hq := HDO.out.done hl0
      have hql := HDO.out.1
      have h := HROW.out.slc (c := p.length) (by omega) (by omega) (by omega)
      rw [hql, hq] at h
      have HF := Lib.hid (HR.out wr _ HGR.out (fun a n c e => by cases e; exact Nat.le_refl _) h)
      clear h hq hql
      go_wp2_with fail
      exact HF.out
    · intro xk c kl y1 y2 w1 cnt1 hkey hlk hv hat hrg1 hlt hg1 hs1 hen
      obtain ⟨x', ex, rfl, hwx⟩ := Go.Maps.keyOf_int_inv Tryz.underlying3 hkey
      cases ex
      have hy : (DataW.held c, ([] : List MemPlace)) = (y1, y2) := Option.some.inj ((lineR_mk c).symm.trans hv)
      cases hy
      obtain ⟨e, hfe, hel⟩ := HM.out.entry hwx hat
      have hat_ : e.at_ = xk := by have := List.find?_some hfe; simpa [atB] using this
      obtain ⟨k, hk⟩ := List.getElem?_of_mem (List.mem_of_find?_eq_some hfe)
      obtain ⟨⟨e0, _⟩, _⟩ := edsOK_at HOK.out hk
      have e1 : e.at_ < (p.length : Int) := by
        have h := HOFF.out
        unfold offB at h
        have := List.any_eq_false.1 h e (List.mem_of_find?_eq_some hfe)
        simp at this; omega
      obtain ⟨m, rfl⟩ : ∃ m : Nat, xk = m := ⟨xk.toNat, by omega⟩
      have hmp : (m : Int) < (p.length : Int) := by omega
      have hmn : m < p.length := by omega
      have HST := Lib.hid (HDO.out.step hfe hmn)
      have HROW1 := Lib.hid ((HROW.out.kept hg1 (by omega) (by intro e; have := Option.some.inj e; omega)))
      have HGR1 := Lib.hid (show Grow w w1 from Below.grown HGR.out hg1 (by omega) (fun j hj => by cases hj; omega))
      have HRG1 := Lib.hid hrg1
      have HLEQ := Lib.hid HRG.out.left_eq
      subst hel
      obtain ⟨et, o1, d1, a1, b1⟩ := e
      dsimp only at hen HST ⊢
      have hz1 : w.heap.size < w1.heap.size := by omega
      have hql := HDO.out.1
      have HQL := Lib.hid hql
      have HLT := Lib.hid hlt
      obtain ⟨l0, hl0⟩ : ∃ l, q[m]? = some l := ⟨_, List.getElem?_eq_getElem (by omega)⟩
      obtain ⟨lo, ld, la, lb⟩ := l0
      obtain ⟨⟨c0, c1, c2, c3⟩, z0, z1, z2, z3⟩ := HROW1.out.at hl0
      simp only [Nat.zero_add] at c0 c1 c2 c3 z0 z1 z2 z3
      have HEN := Lib.hid hen
      clear hkey hlk hv hat hrg1 hg1 hfe hk e0 e1 hat_ hwx hl0 hql hlt hs1
      go_wp2_with fail
      have hr3 := (ranges_storeL HRG1.out (g := w.heap.size) (i := m * 4) ⟨o1, d1, a1, b1⟩ (by omega) (by omega)).alloc (.cells #[.int .i64 o1, .int .i64 d1, .int .i64 a1, .int .i64 b1] 44)
      have hrow2 := HROW1.out.set (k := m) (by rw [HQL.out]; omega) ⟨o1, d1, a1, b1⟩
      rw [Nat.zero_add] at hrow2
      have hg2 := below_storeL (i := m * 4) ⟨o1, d1, a1, b1⟩ HGR1.out (Nat.le_refl w.heap.size)
      refine ⟨⟨_, _, _, hr3, HST.out, hrow2.grow ((Grow.refl _).alloc _) (by rw [size_storeL]; omega), Grow.alloc hg2 _⟩, ?_⟩
      have e1 := hr3.left_eq
      unfold storeL at e1
      rw [e1, HLEQ.out]
      exact HLT.out
end Go.Proofs.YtfbfkkaepgcggaaGreat

namespace Go.Proofs.YtfbfkkaepgcggaaGreat
open Go.RowKit

set_option maxHeartbeats 2000000 in
theorem programs_any (p : List Ln) (ts : List Tst) (pv tv : Value) (w : World) (hp : LinesAt w pv p) (ht : TestsAt w tv ts) (R : Ending → World → Prop)
    (hR : ∀ w', Grow w w' → R (.returned (.int .i64 (chkT p ts))) w') :
    Calls Tryz.prog 44 #[pv, tv] w R := by
  have HP := Lib.hid hp
  have HT := Lib.hid ht
  have hc : chkT p ts = if valP p = 0 then valT ts else valP p := rfl
  rw [hc] at hR
  have HR := Lib.hid hR
  obtain ⟨e, he⟩ : ∃ e, valP p = e := ⟨_, rfl⟩
  rw [he] at HR
  have HE := Lib.hid he
  obtain ⟨pa, pc, rfl, _⟩ := hp
  obtain ⟨⟨ta, tc, rfl, _⟩, _⟩ := ht
  clear hR hc he
  by_cases h0 : e = 0
  · subst h0
    rw [if_pos rfl] at HR
    go_enter Tryz.func44, Tryz.ntmps44
    go_wp2_with fail
    refine validate_any p _ _ HP.out _ ?_
    intro w1 hg1
    rw [HE.out]
    have HG1 := Lib.hid hg1
    clear hg1
    go_wp2_with fail
    refine validateTests_any ts _ _ (HT.out.grow HG1.out) _ ?_
    intro w2 hg2
    have HF := Lib.hid (HR.out w2 (HG1.out.trans hg2))
    clear hg2
    go_wp2_with fail
    exact HF.out
  · rw [if_neg h0] at HR
    have t1 : (e != 0) = true := by simpa using h0
    clear h0
    go_enter Tryz.func44, Tryz.ntmps44
    go_wp2_with fail
    refine validate_any p _ _ HP.out _ ?_
    intro w1 hg1
    rw [HE.out]
    have HF := Lib.hid (HR.out w1 hg1)
    clear hg1
    go_wp2_with fail
    exact HF.out

end Go.Proofs.YtfbfkkaepgcggaaGreat

namespace Go.Proofs.YtfbfkkaepgcggaaGreat
open Go.RowKit

theorem info_ed : (Tryz.prog.info? 46).map (fun i => (i.zero, i.size, i.bytes)) = some (some (.agg #[.int .i64 0, .int .i64 0, .int .i64 0, .int .i64 0, .int .i64 0]), 5, 40) := by kernel_rfl
theorem encE_one (e : Ed) : ∀ u ∈ encE e, u.oneCell' = true := by
  intro u hu
  unfold encE encL at hu
  simp only [List.mem_cons, List.not_mem_nil, or_false] at hu
  rcases hu with rfl | rfl | rfl | rfl | rfl <;> rfl
theorem edits_lit (w : World) (t op d a b : Int) (T : TypeId) : EditsAt (w.alloc (.cells #[.int .i64 t, .int .i64 op, .int .i64 d, .int .i64 a, .int .i64 b] T)) (.slice (some ⟨w.heap.size, 0, none⟩) 1 1) [⟨t, ⟨op, d, a, b⟩⟩] := by
  refine ⟨_, 1, rfl, Nat.le_refl _, by omega, .inr ⟨w.heap.size, 0, rfl, by simp, ?_⟩⟩
  intro j x hj i u hu
  cases j with
  | succ j => simp at hj
  | zero =>
    simp at hj
    subst hj
    rw [show 0 + 0 * 5 + i = i by omega, World.cell?_alloc_new]
    have hi : i < 5 := by have := (List.getElem?_eq_some_iff.1 hu).1; rw [encE_len] at this; exact this
    have : i = 0 ∨ i = 1 ∨ i = 2 ∨ i = 3 ∨ i = 4 := by omega
    rcases this with rfl | rfl | rfl | rfl | rfl <;> exact hu
end Go.Proofs.YtfbfkkaepgcggaaGreat
