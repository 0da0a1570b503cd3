/-
The walks of package code: the slice of a register. First the library's iterator over a slice from its end.
The walk of code.Slice: lines are met from the last one back.
The walks of package code: what a line reads and writes, for any line.
The walk of code.Force: the state at the end if lines write given numbers.
-/
import Derived.Test.YtmlbgfnddgbpbaaGreatD09
import Derived.Test.YtmlbgfnddgbpbaaGreatD00
import Derived.RangeFuncNested
import Derived.RangeFuncBound
import Derived.RangeFuncCalls
import Derived.RangeFuncLeaves
import Derived.RangeFuncFrom
import Derived.Shelf.RegionOpen
import Derived.WalkKit
import Derived.OwnWalkIn
import Derived.TacticsInMore
import Derived.LoopNIn
import Derived.LoopIn
import Derived.Test.YtmlbgfnddgbpbaaGreatD07
import Derived.Test.YtmlbgfnddgbpbaaGreatD02
namespace Go.Proofs.YtmlbgfnddgbpbaaGreat
open Go.RowKit

attribute [local go_sem] Oper.semAt_some

set_option maxRecDepth 100000 in
set_option maxHeartbeats 2000000 in
theorem back_in (n : Nat) (hn : 1 ≤ n) (l Bs b off : Nat) (vs : List (Nat × St)) (a : Option Addr) (c : Nat) (hlen : vs.length < 1000000) (ha : vs ≠ [] → a = some ⟨b, off, none⟩) (J Jx : List (Fin vs.length) → World → Prop)
    (hY : ∀ pre x W, J pre W → pre.length < vs.length → YieldAt Fence.wide (n - 1) Tryz.prog l (encB vs x) W fun e W' =>
      (e = .returned (.bool true) ∧ J (pre ++ [x]) W' ∧ KeepAt Bs b W W') ∨ (e = .returned (.bool false) ∧ Jx (pre ++ [x]) W'))
    (W : World) (hBs : W.cell? ⟨Bs, 0, none⟩ = some (.slice a vs.length c)) (hb : vs ≠ [] → b < W.heap.size) (hc : ∀ j x, vs[j]? = some x → ∀ i u, (encV x)[i]? = some u → W.cell? ⟨b, off + j * 5 + i, none⟩ = some u) (h0 : J [] W) :
    CallsIn Fence.wide n Tryz.prog 200 #[.func (.yield l) #[] #[], .pointer (some ⟨Bs, 0, none⟩)] W fun e W' => (∃ v, e = .returned v) ∧
      ((∃ ys, ys = List.finRange vs.length ∧ J ys W') ∨ (∃ pre : List (Fin vs.length), True ∧ Jx pre W')) := by
  refine callsIn_of_wp Tryz.func200 rfl trivial ?_ rfl
  simp only [Tryz.ntmps200, List.size_toArray, List.length_cons, List.length_nil, Nat.reduceAdd, Nat.reduceSub, Array.replicate_succ, Array.replicate_zero, List.push_toArray, List.append_toArray, List.nil_append, List.cons_append]
  gi_wp2
  gi_loopw [3] (fun i wr => ∃ k : Nat, k ≤ vs.length ∧ i = .int .i64 ((vs.length : Int) - 1 - k) ∧ J ((List.finRange vs.length).take k) wr ∧ KeepAt Bs b W wr)
    (fun i _ => (intOf i + 1).toNat)
  case atStart => exact ⟨0, Nat.zero_le _, by go_num, by simpa using h0, KeepAt.refl _ _ _⟩
  case round =>
    obtain ⟨k, hk, rfl, hJs, hkp⟩ := hrel
    have hs := cell_of_heap hkp.1 hBs
    by_cases hlt : k < vs.length
    · obtain ⟨m, hm⟩ : ∃ m, vs.length = m + 1 + k := ⟨vs.length - 1 - k, by omega⟩
      obtain ⟨⟨ln, st⟩, hx⟩ : ∃ x, vs[m]? = some x := ⟨_, List.getElem?_eq_getElem (by omega)⟩
      obtain rfl := ha (by intro e; rw [e] at hlt; simp at hlt)
      have hbW := hb (by intro e; rw [e] at hlt; simp at hlt)
      obtain ⟨c0, c1, c2, c3, c4⟩ := visits_cell hc m _ hx
      have e0 := cell_of_heap hkp.2 c0
      have e1 := cell_of_heap hkp.2 c1
      have e2 := cell_of_heap hkp.2 c2
      have e3 := cell_of_heap hkp.2 c3
      have e4 := cell_of_heap hkp.2 c4
      have hi : (vs.length : Int) - 1 - k = (m : Int) := by omega
      obtain ⟨fn, tmps, assign, body, hy, hR⟩ := hY _ ⟨k, hlt⟩ wr hJs (by simp; omega)
      rw [encB_at vs m k hm hlt _ hx] at hy
      rw [hi]
      have HKP := Lib.hid hkp
      have HY := Lib.hid hY
      have hml : m < vs.length := by omega
      have HM := Lib.hid hm
      clear c0 c1 c2 c3 c4 hY hkp hJs hc hb ha hBs hm hi
      gi_wp2
      refine hR.mono ?_
      rintro e W3 (⟨rfl, hJ3, hk3⟩ | ⟨rfl, hJx3⟩)
      · rw [← fin_take _ _ hlt] at hJ3
        have HJ3 := Lib.hid hJ3
        have HK3 := Lib.hid hk3
        clear hJ3 hk3
        gi_wp2
        go_roundw
        case rel =>
          have hm := HM.out
          exact ⟨k + 1, by omega, by simp; omega, HJ3.out, HKP.out.trans HK3.out⟩
        case measure => have hm := HM.out; simp [intOf]
      · gi_wp2
        refine bodyPost_ret (results_none rfl _ _ _) rfl ?_
        exact ⟨⟨_, rfl⟩, .inr ⟨_, trivial, hJx3⟩⟩
    · obtain rfl : k = vs.length := by omega
      have hi : (vs.length : Int) - 1 - (vs.length : Nat) = -1 := by omega
      rw [hi]
      gi_wp2
      go_end0
      rw [List.take_of_length_le (by simp)] at hJs
      exact ⟨⟨_, rfl⟩, .inl ⟨_, rfl, hJs⟩⟩

theorem back_stops (n : Nat) (hn : 1 ≤ n) (Bs b off : Nat) (vs : List (Nat × St)) (a : Option Addr) (c : Nat) (hlen : vs.length < 1000000) (ha : vs ≠ [] → a = some ⟨b, off, none⟩) (w : World) (hBs : w.cell? ⟨Bs, 0, none⟩ = some (.slice a vs.length c)) (hb : vs ≠ [] → b < w.heap.size)
    (hc : ∀ j x, vs[j]? = some x → ∀ i u, (encV x)[i]? = some u → w.cell? ⟨b, off + j * 5 + i, none⟩ = some u) :
    SeqStopsK Fence.wide n Tryz.prog 200 #[.pointer (some ⟨Bs, 0, none⟩)] (encB vs) (KeepAt Bs b) (fun ys => ys = List.finRange vs.length) (fun _ => True) vs.length w := fun l J Jx W hW _ _ hY h0 =>
  back_in n hn l Bs b off vs a c hlen ha J Jx hY W (hW.cell (p := ⟨Bs, 0, none⟩) (World.block_lt_of_cell? _ _ hBs) |>.trans hBs) (fun h => Nat.lt_of_lt_of_le (hb h) hW.size) (fun j x hx i u hu => Grow.cell hW (hc j x hx i u hu)) h0

set_option maxHeartbeats 1000000 in
theorem backward_any (a : Option Addr) (len c : Nat) (w : World) (R : Ending → World → Prop)
    (hR : R (.returned (.func (.func 200) #[] #[.pointer (some ⟨w.heap.size, 0, none⟩)])) (w.alloc (.cells #[.slice a len c] 114))) :
    Calls Tryz.prog 171 #[.slice a len c] w R := by
  go_enter Tryz.func171, Tryz.ntmps171
  go_wp2_with fail
  exact hR
end Go.Proofs.YtmlbgfnddgbpbaaGreat

namespace Go.Proofs.YtmlbgfnddgbpbaaGreat
open Go.RowKit
open Go.Sort (Holds putRow grow heap_grow_old holds_putRow holds_grow holds_ahead)

attribute [local go_sem] Oper.semAt_some

/-- Where a walk back stands: the program in the box bp, the registers that matter in bm, the slice so far in the box bo. -/
structure SlI (w : World) (B bp bm bo : Nat) (pv : Value) (acc : Ms × List Int) (W : World) : Prop where
  bel : Below w.heap.size w W
  hp : W.heap[bp]? = some (.cells #[pv] 35 (0, 0))
  hm : W.heap[bm]? = some (.cells (arrM acc.1) 149 (0, 0))
  ho : ∃ v, W.heap[bo]? = some (.cells #[v] 29 (0, 0)) ∧ W.ownsRow B 3 1 v acc.2.length (acc.2.flatMap encI)
  sz : B ≤ W.heap.size

theorem SlI.own (w : World) (B bp bm bo : Nat) (pv : Value) {β : Type} (f : β → Ms × List Int) (hw : w.heap.size ≤ B) : OwnFrom B (fun s W => SlI w B bp bm bo pv (f s) W) := by
  intro s W W' row h hg hr
  have key : ∀ (k : Nat) (cs : Array Value) (t : TypeId) (x : Nat × Nat), W.heap[k]? = some (.cells cs t x) → W'.heap[k]? = some (.cells cs t x) := by
    intro k cs t x hk
    refine (hg.block k (Array.getElem?_eq_some_iff.1 hk).1 (fun e => ?_)).trans hk
    obtain ⟨_, o', ho', hc⟩ := hr k e.symm
    rw [hk] at ho'; cases ho'; cases hc
  obtain ⟨v, hv, hown⟩ := h.ho
  refine ⟨ownFrom_below (β := Unit) (Nat.le_refl _) hw () W W' row h.bel hg hr, key _ _ _ _ h.hp, key _ _ _ _ h.hm, ⟨v, key _ _ _ _ hv, hown.kept hg ?_⟩, Nat.le_trans h.sz hg.size⟩
  rcases hown.2 with ⟨rfl, _⟩ | ⟨g, cap, cur, rfl, _, hgb, _⟩
  · exact .inl rfl
  · refine .inr fun e' => ?_
    obtain ⟨_, o, ho, hc⟩ := hr g (by simpa [Value.ownBlock] using e'.symm)
    rw [hgb] at ho; cases ho; cases hc

theorem SlI.grow {w : World} {B bp bm bo : Nat} {pv : Value} {acc : Ms × List Int} {W W' : World} (h : SlI w B bp bm bo pv acc W) (g : Grow W W') (hw : w.heap.size ≤ B) : SlI w B bp bm bo pv acc W' :=
  let ⟨v, hv, hown⟩ := h.ho
  ⟨Below.of_grow h.bel g (Nat.le_trans hw h.sz), g.blk h.hp, g.blk h.hm, ⟨v, g.blk hv, g.owns hown⟩, Nat.le_trans h.sz g.sz⟩
theorem SlI.set {w : World} {B bp bm bo : Nat} {pv : Value} {acc : Ms × List Int} {W : World} (h : SlI w B bp bm bo pv acc W) (r : Int) (n : Bool) (h0 : 0 ≤ r) (h3 : r ≤ 3) (hwm : w.heap.size ≤ bm) (h1 : bm ≠ bp) (h2 : bm ≠ bo) (h4 : bm < B) :
    SlI w B bp bm bo pv (acc.1.set r n, acc.2) (W.setCell ⟨bm, r.toNat, none⟩ (.bool n)) := by
  obtain ⟨v, hv, hown⟩ := h.ho
  refine ⟨Below.setCell h.bel hwm _, ?_, arrM_set h.hm r n h0 h3, ⟨v, ?_, ownsRow_setCell_below hown (by simpa using h4) _⟩, by rw [World.size_setCell]; exact h.sz⟩
  · rw [Below.heap_setCell _ _ _ _ (by simpa using h1.symm)]; exact h.hp
  · rw [Below.heap_setCell _ _ _ _ (by simpa using h2.symm)]; exact hv
/-- What a round does to the world, as the loop's law asks it. -/
def Stp (B Bs b : Nat) (W W' : World) : Prop := KeepsFrom B W W' ∧ KeepAt Bs b W W'
theorem Stp.refl (B Bs b : Nat) (W : World) : Stp B Bs b W W := ⟨KeepsFrom.refl _ _, KeepAt.refl _ _ _⟩
theorem Stp.trans {B Bs b : Nat} {X Y Z : World} (h : Stp B Bs b X Y) (k : Stp B Bs b Y Z) : Stp B Bs b X Z := ⟨h.1.trans k.1, h.2.trans k.2⟩
theorem Stp.grow {B Bs b : Nat} {X Y : World} (g : Grow X Y) (h1 : Bs < X.heap.size) (h2 : b < X.heap.size) : Stp B Bs b X Y :=
  ⟨⟨g.sz, fun _ _ _ hk _ => g.blk hk⟩, KeepAt.of_grow g h1 h2⟩
theorem Stp.set {B Bs b : Nat} {X : World} (c : Nat) (i : Nat) (v : Value) (h1 : c ≠ Bs) (h2 : c ≠ b) : Stp B Bs b X (X.setCell ⟨c, i, none⟩ v) :=
  ⟨(KeepsOthers.setCell X _ v).from _, by rw [Below.heap_setCell _ _ _ _ (by simpa using h1.symm)], by rw [Below.heap_setCell _ _ _ _ (by simpa using h2.symm)]⟩

/-- The list of visits lies in a block of its own. -/
theorem Own.at {α : Type} {k : Nat} {enc : α → List Value} (hk : ∀ x, (enc x).length = k) {base : Nat} {w : World} {v : Value} {xs : List α} (h : Own k enc base w v xs) :
    ∃ a c b, v = .slice a xs.length c ∧ (xs ≠ [] → a = some ⟨b, 0, none⟩) ∧ (xs ≠ [] → base ≤ b ∧ b < w.heap.size) ∧ ∀ j x, xs[j]? = some x → ∀ i u, (enc x)[i]? = some u → w.cell? ⟨b, 0 + j * k + i, none⟩ = some u := by
  obtain ⟨a, c, h1, h2, h3, h4⟩ := h.slc hk
  obtain ⟨e, he⟩ := h
  rcases he.2 with ⟨rfl, h0⟩ | ⟨g, cap, cur, rfl, hb, hh, hn, hm, hcs, htake⟩
  · have : xs = [] := List.eq_nil_of_length_eq_zero h0
    subst this
    exact ⟨none, 0, 0, rfl, fun h => absurd rfl h, fun h => absurd rfl h, fun j x hj => by simp at hj⟩
  · cases h1
    rcases h4 with ⟨rfl, _⟩ | ⟨b, o, e1, hb2, hc⟩
    · exact ⟨_, _, g, rfl, fun h => absurd rfl h, fun h => absurd rfl h, fun j x hj => by simp at hj⟩
    · cases e1
      exact ⟨_, _, g, rfl, fun _ => rfl, fun _ => ⟨hb, lt_of_block hh⟩, hc⟩

theorem wpListIn_app {F : Fence} {nf : Nat} {P : Program} {α : Type} (w : World) {ops : Array Oper} {rest : List Oper} {o : Oper} {a : Act} {Q : Exit → Act → World → Prop} (hgd : o.guard = none) (s x : Operand) (t : TypeId)
    (ho : o.op = .call { callee := .builtin .append, args := #[s, x], argTypes := #[t, t] })
    (base : Nat) (e : TypeId) {k bytes : Nat} {z : Value} (ht : P.underlying t = some (.slice e)) (info : (P.info? e).map (fun i => (i.zero, i.size, i.bytes)) = some (some z, k, bytes))
    (hzs : z.cells.size = k) (hk : 0 < k) (hby : bytes ≤ 1000)
    (enc : α → List Value) (hen : ∀ x, (enc x).length = k) (h1 : ∀ x, ∀ u ∈ enc x, u.oneCell' = true)
    (v : Value) (xs : List α) (hs : a.eval s = v) (hown : w.ownsRow base e k v xs.length (xs.flatMap enc)) (ad : Addr) (y : α) (c : Nat) (hx : a.eval x = .slice (some ad) 1 c)
    (hnews : ∀ j u, (enc y)[j]? = some u → w.cell? (ad.add j) = some u) (hn : xs.length < 100000000000) (hbase : base ≤ w.heap.size)
    (h : ∀ v' w', w'.ownsRow base e k v' (xs.length + 1) ((xs ++ [y]).flatMap enc) → w.grownBy w' v.ownBlock → wpListIn F nf P ops Q rest (a.put o.dst v') w') : wpListIn F nf P ops Q (o :: rest) a w := by
  obtain ⟨i, hi, hz0, hz1, hz2⟩ := info_parts info
  refine wpListIn_append_own w hgd s x t ho base e i z k bytes ht hi hz0 hz1 hz2 hzs hk v xs.length (xs.flatMap enc) hs hown ad 1 c (enc y) hx (by rw [hen]; omega) hnews (h1 y) (by unfold maxLen; omega) ?_ hbase ?_
  · exact Nat.le_trans (Nat.mul_le_mul (show xs.length + 1 ≤ 100000000000 by omega) hby) (by decide)
  · intro v' w' a1 a2 _
    refine h v' w' ?_ a2
    rw [List.flatMap_append]
    simpa using a1

theorem holds_of_owns {w : World} {base e g cap : Nat} {xs : List Int} (h : w.ownsRow base e 1 (.slice (some ⟨g, 0, none⟩) xs.length cap) xs.length (xs.flatMap encI)) : Holds (Value.int .i64) w g 0 xs.toArray := by
  refine holds_int ?_ ?_
  · intro j x hj
    have hlt : j < xs.length := (List.getElem?_eq_some_iff.1 hj).1
    have h1 := World.ownsRow.cellAt (w := w) (base := base) (e := e) (size := 1) (g := g) (n := xs.length) (cap := cap) h j (by omega)
    rw [Nat.zero_add, h1]
    have h2 := flatMap_getElem? encI_len xs j x hj 0 (by omega)
    simpa [encI] using h2
  · intro j hj
    rcases h.2 with ⟨h0, _⟩ | ⟨g', cap', cur, h0, _, hgb, _⟩
    · cases h0
    · cases h0; simp [World.frozen?, hgb]

theorem SlI.app {w : World} {B Bs b bp bm bo : Nat} {pv : Value} {acc : Ms × List Int} {W Wa w5 : World} (h : SlI w B bp bm bo pv acc W) (ga : Grow W Wa) {v v' : Value} {y : Int}
    (hv : W.heap[bo]? = some (.cells #[v] 29 (0, 0))) (hown : W.ownsRow B 3 1 v acc.2.length (acc.2.flatMap encI))
    (hown' : w5.ownsRow B 3 1 v' (acc.2.length + 1) ((acc.2 ++ [y]).flatMap encI)) (hg : Wa.grownBy w5 v.ownBlock)
    (h1 : w.heap.size ≤ bo) (h2 : bp ≠ bo) (h3 : bm ≠ bo) (h4 : Bs ≠ bo) (h5 : b ≠ bo) (k1 : bp < B) (k2 : bm < B) (k3 : bo < B) (k4 : Bs < B) (k5 : b < B) (hw : w.heap.size ≤ B) :
    w5.heap[bo]? = some (.cells #[v] 29 (0, 0)) ∧ SlI w B bp bm bo pv (acc.1, acc.2 ++ [y]) (w5.setCell ⟨bo, 0, none⟩ v') ∧ Stp B Bs b W (w5.setCell ⟨bo, 0, none⟩ v') := by
  have hz := h.sz
  have hza := ga.sz
  have keep : ∀ {j : Nat} {o : Obj}, j < B → W.heap[j]? = some o → w5.heap[j]? = some o := fun hj ho => grown_keep hown hg hj (ga.blk ho)
  have key : ∀ {j : Nat}, j < B → w5.heap[j]? = W.heap[j]? := by
    intro j hj
    obtain ⟨o, ho⟩ : ∃ o, W.heap[j]? = some o := ⟨_, Array.getElem?_eq_getElem (by omega)⟩
    rw [ho]; exact keep hj ho
  have hb5 : Below w.heap.size w w5 := grown_below hown hg hw (by omega) (Below.of_grow h.bel ga (by omega))
  have hbx := keep k3 hv
  have hz5 : B ≤ w5.heap.size := by have := hg.size; omega
  refine ⟨hbx, ⟨Below.setCell hb5 h1 _, ?_, ?_, ⟨v', ?_, ?_⟩, by rw [World.size_setCell]; exact hz5⟩, ⟨?_, ?_, ?_⟩⟩
  · rw [Below.heap_setCell _ _ _ _ (by simpa using h2)]; exact keep k1 h.hp
  · rw [Below.heap_setCell _ _ _ _ (by simpa using h3)]; exact keep k2 h.hm
  · rw [heap_setCell_same w5 bo _ _ _ _ hbx]; rfl
  · simpa using ownsRow_setCell_below hown' (by simpa using k3) v'
  · refine (KeepsFrom.trans (⟨ga.sz, fun _ _ _ hk _ => ga.blk hk⟩ : KeepsFrom B W Wa) ?_).trans ((KeepsOthers.setCell w5 _ v').from _)
    refine (KeepsOthers.of_grownBy hg fun j o ej hj => ?_).from _
    rcases (ga.owns hown).2 with ⟨rfl, _⟩ | ⟨g, cap, cur, rfl, _, hgb, _⟩
    · simp [Value.ownBlock] at ej
    · obtain rfl : g = j := by simpa [Value.ownBlock] using ej
      rw [hgb] at hj; cases hj; rfl
  · rw [Below.heap_setCell _ _ _ _ (by simpa using h4)]; exact key k4
  · rw [Below.heap_setCell _ _ _ _ (by simpa using h5)]; exact key k5

/-- A slice value whose block, if it has one, has been made from base on. -/
def NewB (base : Nat) (w : World) (v : Value) : Prop := ∀ a n c, v = .slice (some a) n c → base ≤ a.block ∧ a.block < w.heap.size
theorem NewB.nil (base : Nat) (w : World) : NewB base w (.slice none 0 0) := by intro a n c e; cases e
set_option maxRecDepth 100000 in
set_option maxHeartbeats 4000000 in
theorem SliceN_any (p : List Ln) (s : List Int) (r : Int) (v u : Value) (w : World) (hp : LinesAt w v p) (hs : IntsAt w u s) (R : Ending → World → Prop)
    (hR : ∀ w' x, Grow w w' → IntsAt w' x (ifOK (sliceE p s r) (sliceM p s r)) → NewB w.heap.size w' x → R (.returned (.tuple #[x, .int .i64 (sliceE p s r)])) w') :
    Calls Tryz.prog 148 #[v, u, .int .i64 r] w R := by
  have HP := Lib.hid hp
  have HS := Lib.hid hs
  have HR := Lib.hid hR
  obtain ⟨pa, pc, rfl, hp1, hp2, _⟩ := hp
  clear hs hR
  by_cases h : chk p s = 0
  · have H := Lib.hid h
    by_cases hin : inB r 0 3 = true
    · have hbe : sliceE p s r = 0 := by simp [sliceE, h, hin]
      have HRR := HR.out
      rw [hbe, ifOK_ok] at HRR
      have HR2 := Lib.hid HRR
      obtain ⟨r0, r3⟩ := inB_true.1 hin
      have hr4 : r < 4 := by omega
      clear HRR HR hbe h
      refine (callsIn_wide (n := 5)).1 ?_
      refine callsIn_of_wp_marks Tryz.func148 rfl trivial ?_ rfl
      simp only [Tryz.ntmps148, List.size_toArray, List.length_cons, List.length_nil, Nat.reduceAdd, Nat.reduceSub, Array.replicate_succ, Array.replicate_zero, List.push_toArray, List.append_toArray, List.nil_append, List.cons_append]
      gi_wp2_with fail
      refine ⟨trivial, callsIn_wide.2 (check_any p s _ _ _ (HP.out.grow ((Grow.refl w).alloc _)) (HS.out.grow ((Grow.refl w).alloc _)) _ ?_)⟩
      intro w1 hg1
      rw [H.out]
      have HG1 := Lib.hid hg1
      have hbp := hg1.blk (heap_alloc_new w (.cells #[.slice pa p.length pc] 35))
      have e0 := hg1.cell (a := ⟨w.heap.size, 0, none⟩) (v := .slice pa p.length pc) (by simp)
      have hz1 : w.heap.size < w1.heap.size := by have := hg1.sz; simp at this; omega
      clear hg1
      gi_wp2_with fail
      refine ⟨trivial, callsIn_wide.2 (isRegister_any _ _ _ ?_)⟩
      unfold inB at hin ⊢
      rw [hin]
      gi_wp2_with fail
      obtain ⟨w2, hw2⟩ : ∃ w2, (w1.alloc (.cells ([Value.bool false, Value.bool false, Value.bool false, Value.bool false].set r.toNat (Value.bool true)).toArray 149)) = w2 := ⟨_, rfl⟩
      have hbm : w2.heap[w1.heap.size]? = some (.cells (arrM (Ms.set ⟨false, false, false, false⟩ r true)) 149 (0, 0)) := by
        rw [← hw2, heap_alloc_new]
        have : r = 0 ∨ r = 1 ∨ r = 2 ∨ r = 3 := by omega
        rcases this with rfl | rfl | rfl | rfl <;> rfl
      have hg2 : Grow w1 w2 := hw2 ▸ (Grow.refl w1).alloc _
      have hz2 : w1.heap.size < w2.heap.size := by rw [← hw2]; simp
      rw [hw2]
      clear hw2
      have hg02 := (((Grow.refl w).alloc _).trans HG1.out).trans hg2
      refine ⟨trivial, callsIn_wide.2 (run0_any p s _ _ _ (HP.out.grow hg02) (HS.out.grow hg02) H.out _ ?_)⟩
      intro w3 x hg3 hown
      have hvl := visits_length p s
      have hvlt := visits_lt p s
      have hvl8 := (valP_ok.1 (chk_ok.1 H.out).1).1
      have hlok := (valP_ok.1 (chk_ok.1 H.out).1).2
      generalize (trc p noF 0 (St.ofL s)).2 = q
      unfold arrS
      unfold sliceM at HR2
      generalize visits p s = vs at hown hvl HR2 hvlt
      obtain ⟨a, c, b0, rfl, ha0, hb0, hc0⟩ := hown.at encV_len
      obtain ⟨b, ha, hc, hbb⟩ : ∃ b, (vs ≠ [] → a = some ⟨b, 0, none⟩) ∧ (∀ j x, vs[j]? = some x → ∀ i u, (encV x)[i]? = some u → w3.cell? ⟨b, 0 + j * 5 + i, none⟩ = some u) ∧ (b = w3.heap.size + 1 + 1 ∨ (w2.heap.size ≤ b ∧ b < w3.heap.size)) := by
        by_cases hv : vs = []
        · subst hv
          exact ⟨w3.heap.size + 1 + 1, fun h => absurd rfl h, fun j x hj => by simp at hj, .inl rfl⟩
        · exact ⟨b0, ha0, hc0, .inr (hb0 hv)⟩
      clear ha0 hb0 hc0
      have hz3 := hg3.sz
      have hg03 := hg02.trans hg3
      have hbp3 := (hg2.trans hg3).blk hbp
      have hbm3 := hg3.blk hbm
      have HG03 := Lib.hid hg03
      have HC := Lib.hid hc
      have HBP3 := Lib.hid hbp3
      have HBM3 := Lib.hid hbm3
      have HLOK := Lib.hid hlok
      have HVLT := Lib.hid hvlt
      clear hg2 hg02 hg3 hown hg03 hc e0 hbp hbm hbp3 hbm3 hlok hvlt
      gi_wp2_with fail
      refine ⟨trivial, callsIn_wide.2 (backward_any _ _ _ _ _ ?_)⟩
      gi_wp2_with fail
      have hB0 : w.heap.size ≤ w3.heap.size + 3 := by omega
      obtain ⟨W0, hW0⟩ : ∃ W0, (((w3.alloc (.cells #[.int .i64 q.r0, .int .i64 q.r1, .int .i64 q.r2, .int .i64 q.r3] 116)).alloc (.cells #[.slice none 0 0] 29)).alloc (.cells #[.slice a vs.length c] 114)) = W0 := ⟨_, rfl⟩
      have hg3W : Grow w3 W0 := hW0 ▸ (((Grow.refl w3).alloc _).alloc _).alloc _
      have hsz0 : W0.heap.size = w3.heap.size + 3 := by rw [← hW0]; simp
      have hout0 : W0.heap[w3.heap.size + 1]? = some (.cells #[.slice none 0 0] 29 (0, 0)) := by rw [← hW0]; exact ((Grow.refl _).alloc _).blk (heap_two1 _ _ _)
      have hBs0 : W0.cell? ⟨w3.heap.size + 1 + 1, 0, none⟩ = some (.slice a vs.length c) := by
        have hn := heap_alloc_new ((w3.alloc (.cells #[.int .i64 q.r0, .int .i64 q.r1, .int .i64 q.r2, .int .i64 q.r3] 116)).alloc (.cells #[.slice none 0 0] 29)) (.cells #[.slice a vs.length c] 114)
        rw [World.size_alloc, World.size_alloc, hW0] at hn
        simp [World.cell?, hn]
      have hI0 : SlI w (w3.heap.size + 3) w.heap.size w1.heap.size (w3.heap.size + 1) (.slice pa p.length pc) (Ms.set ⟨false, false, false, false⟩ r true, []) W0 :=
        ⟨HG03.out.trans hg3W, hg3W.blk HBP3.out, hg3W.blk HBM3.out, ⟨_, hout0, World.ownsRow_nil _ _ _ _⟩, by omega⟩
      have HI0 := Lib.hid hI0
      have HG3W := Lib.hid hg3W
      rw [hW0]
      clear hW0 hI0 hg3W hout0
      have hbl : b < W0.heap.size := by omega
      have hstops := back_stops 4 (by omega) (w3.heap.size + 1 + 1) b 0 vs a c (by omega) ha W0 hBs0 (fun _ => hbl) (fun j x hx i u hu => HG3W.out.cell (HC.out j x hx i u hu))
      have HST := Lib.hid hstops
      clear hstops
      refine wpIn_rangeFunc_ownH rfl (by omega) (gf := 200) (lb := #[.pointer (some ⟨w3.heap.size + 1 + 1, 0, none⟩)]) rfl trivial (enters_of Tryz.func200 (by kernel_rfl) rfl)
        (encs := fun (j : Fin vs.length) => #[.int .i64 ((vs.length - 1 - j.1 : Nat) : Int), .agg #[.int .i64 (vAt vs j).1, .int .i64 (vAt vs j).2.r0, .int .i64 (vAt vs j).2.r1, .int .i64 (vAt vs j).2.r2, .int .i64 (vAt vs j).2.r3]])
        HST.out (fun h k => KeepAt.trans h k) ?keepb (Below.refl _ _) (fun _ => rfl)
        (fun pre W => SlI w (w3.heap.size + 3) w.heap.size w1.heap.size (w3.heap.size + 1) (.slice pa p.length pc) (backAcc p vs (Ms.set ⟨false, false, false, false⟩ r true) pre) W)
        (fun _ _ _ => False)
        (hsz0 ▸ SlI.own w (w3.heap.size + 3) _ _ _ _ _ hB0)
        (fun _ _ _ _ _ hs _ _ => hs)
        (by simpa [backAcc] using HI0.out)
        (fun j a' W => ∃ Bx, w3.heap.size + 3 ≤ Bx ∧ W.heap[Bx]? = some (.cells #[.int .i64 (vAt vs j).1, .int .i64 (vAt vs j).2.r0, .int .i64 (vAt vs j).2.r1, .int .i64 (vAt vs j).2.r2, .int .i64 (vAt vs j).2.r3] 145 (0, 0)) ∧ a' = { tmps := #[.slice pa p.length pc, u, .int .i64 r, .pointer (some ⟨w.heap.size, 0, none⟩), undef, undef, .slice none 0 0, .int .i64 0, .int .i64 0, .pointer (some ⟨w1.heap.size, 0, none⟩), .slice a vs.length c, .pointer (some ⟨w3.heap.size, 0, none⟩), .pointer (some ⟨w3.heap.size + 1, 0, none⟩), undef, .pointer (some ⟨Bx, 0, none⟩), undef, undef, undef, undef, .slice pa p.length pc, u, .int .i64 0, .int .i64 0, .bool false, undef, .int .i64 r, .bool true, .bool false, .int .i64 r, .pointer (some ⟨w1.heap.size, r.toNat, none⟩), .tuple #[.slice a vs.length c, .agg #[.int .i64 q.r0, .int .i64 q.r1, .int .i64 q.r2, .int .i64 q.r3]], .slice pa p.length pc, u, .tuple #[.slice a vs.length c, .agg #[.int .i64 q.r0, .int .i64 q.r1, .int .i64 q.r2, .int .i64 q.r3]], .slice a vs.length c, .agg #[.int .i64 q.r0, .int .i64 q.r1, .int .i64 q.r2, .int .i64 q.r3], .slice a vs.length c, .func (.func 200) #[] #[.pointer (some ⟨w3.heap.size + 1 + 1, 0, none⟩)], .int .i64 ((vs.length - 1 - j.1 : Nat) : Int), .agg #[.int .i64 (vAt vs j).1, .int .i64 (vAt vs j).2.r0, .int .i64 (vAt vs j).2.r1, .int .i64 (vAt vs j).2.r2, .int .i64 (vAt vs j).2.r3], undef, undef, undef, undef, undef, undef, undef, undef, undef, undef, undef, undef, undef, undef, undef, undef, undef, undef, undef, undef, undef, undef, undef, undef, undef, undef, undef, undef, undef, undef, undef, undef, undef, undef, undef, undef, undef, undef, undef, undef, undef, undef, undef, undef, undef, undef, undef, undef, undef, undef, undef], defers := [] })
        ?ax ?assign ?body ?done ?stop
      case keepb =>
        intro W l o o' hl ho _ _
        refine ⟨?_, ?_⟩
        · exact World.putObj_heap_other (by omega)
        · exact World.putObj_heap_other (by omega)
      case ax =>
        rintro j a' s W W' row ⟨Bx, h1, h2, h3⟩ hg hr
        refine ⟨Bx, h1, (hg.block Bx (Array.getElem?_eq_some_iff.1 h2).1 (fun e => ?_)).trans h2, h3⟩
        obtain ⟨_, o', ho', hc'⟩ := hr Bx e.symm
        rw [h2] at ho'; cases ho'; cases hc'
      case assign =>
        rintro l pre j W K hI hK
        generalize hvx : vAt vs j = x at hK ⊢
        obtain ⟨ln, st⟩ := x
        have HK := Lib.hid hK
        have HI := Lib.hid hI
        clear hK hI
        gi_wp2_with fail
        have hz := HI.out.sz
        have hst := Stp.grow (B := W0.heap.size) (Bs := w3.heap.size + 1 + 1) (b := b) ((Grow.refl W).alloc (.cells #[.int .i64 ln, .int .i64 st.r0, .int .i64 st.r1, .int .i64 st.r2, .int .i64 st.r3] 145)) (by omega) (by omega)
        exact HK.out _ _ hst.1 hst.2 (HI.out.grow ((Grow.refl W).alloc _) hB0) ⟨W.heap.size, hz, heap_alloc_new _ _, rfl⟩
      case body =>
        rintro l pre j a' W _ _ hI ⟨Bx, hBx, hX, rfl⟩ hpl
        have hvm : (vAt vs j) ∈ vs := List.getElem_mem _
        have hll := HVLT.out _ hvm
        have hal := backAcc_len p vs (Ms.set ⟨false, false, false, false⟩ r true) pre
        have hgoal : ∀ W', SlI w (w3.heap.size + 3) w.heap.size w1.heap.size (w3.heap.size + 1) (.slice pa p.length pc) (sliceStep p (backAcc p vs (Ms.set ⟨false, false, false, false⟩ r true) pre) (vAt vs j)) W' →
            SlI w (w3.heap.size + 3) w.heap.size w1.heap.size (w3.heap.size + 1) (.slice pa p.length pc) (backAcc p vs (Ms.set ⟨false, false, false, false⟩ r true) (pre ++ [j])) W' := fun W' h => by rw [backAcc_snoc]; exact h
        have HG := Lib.hid hgoal
        clear hgoal hvm
        generalize backAcc p vs (Ms.set ⟨false, false, false, false⟩ r true) pre = acc at hI hal HG
        generalize vAt vs j = x at hll HG hX ⊢
        obtain ⟨ln, st⟩ := x
        obtain ⟨ms, xs⟩ := acc
        obtain ⟨⟨op, d, ar, br⟩, hl⟩ : ∃ l, p[ln]? = some l := ⟨_, List.getElem?_eq_getElem hll⟩
        have hok := HLOK.out _ (List.mem_of_getElem? hl)
        obtain ⟨pa', pc', hpe, _, _, hpd⟩ := HP.out
        cases hpe
        obtain ⟨b', o', rfl, hb', hc'⟩ := hpd.resolve_left (by intro h; simp [h.1] at hll)
        obtain ⟨c0, c1, c2, c3⟩ := lines_cell hc' ln _ _ _ _ hl
        have hgw : Grow w W := hI.bel
        have g0 := hgw.cell c0
        have g1 := hgw.cell c1
        have g2 := hgw.cell c2
        have g3 := hgw.cell c3
        have hz := hI.sz
        have hx0 : W.cell? ⟨Bx, 0, none⟩ = some (.int .i64 (ln : Int)) := by simp [World.cell?, hX]
        have hpb : W.cell? ⟨w.heap.size, 0, none⟩ = some (.slice (some ⟨b', o', none⟩) p.length pc) := by simp [World.cell?, hI.hp]
        have hlt : ln < p.length := hll
        have hxl : xs.length ≤ pre.length := hal
        have HI := Lib.hid hI
        have HX := Lib.hid hX
        have HL := Lib.hid hl
        have HOK := Lib.hid hok
        clear hI hX hl hok c0 c1 c2 c3 hgw hc' hpd
        gi_wp2_with fail
        refine ⟨trivial, CallsIn.inRound l (callsIn_wide.2 (writes_any op d ar br _ _ ?_))⟩
        intro w4 hg4
        obtain ⟨o0, o7, od, ord⟩ := ok_rd HOK.out
        have hpb4 := hg4.cell hpb
        have hx4 := hg4.cell hx0
        have k0 := hg4.cell g0
        have k1 := hg4.cell g1
        have k2 := hg4.cell g2
        have k3 := hg4.cell g3
        have HI4 := Lib.hid (HI.out.grow hg4 hB0)
        have HX4 := Lib.hid (hg4.blk HX.out)
        have hz4 := HI4.out.sz
        have HS4 := Lib.hid (Stp.grow (B := W0.heap.size) (Bs := w3.heap.size + 1 + 1) (b := b) hg4 (by omega) (by omega))
        clear hg4 hx0 hpb g0 g1 g2 g3 HI HX
        by_cases hw : wrB op = true
        · obtain ⟨d0, d3⟩ := od hw
          have hop7 : op ≠ 7 := by rintro rfl; simp [wrB, inB_def] at hw
          rw [show wrT op d = d by simp [wrT, hw], hw]
          have t1 : (op == 7) = false := by simpa using hop7
          have t2 : (op != 7) = true := by simpa using hop7
          have d4 : d < 4 := by omega
          have hmc := arrM_cell HI4.out.hm d d0 d3
          dsimp only at hmc
          by_cases hmg : ms.get d = true
          · rw [hmg] at hmc
            have hmf := arrM_free HI4.out.hm d.toNat
            have hst : sliceStep p (ms, xs) (ln, st) = ((rdL op ar br).foldl (fun m r => m.set r true) (ms.set d false), xs ++ [(ln : Int)]) := by
              simp [sliceStep, HL.out, hop7, hmg, hw]
            gi_wp2_with fail
            have HI5 := Lib.hid (HI4.out.set d false d0 d3 (by omega) (by omega) (by omega) (by omega))
            have HS5 := Lib.hid (HS4.out.trans (Stp.set (B := W0.heap.size) (Bs := w3.heap.size + 1 + 1) (b := b) (X := w4) w1.heap.size d.toNat (.bool false) (by omega) (by omega)))
            have HX5 := Lib.hid (show (w4.setCell ⟨w1.heap.size, d.toNat, none⟩ (.bool false)).heap[Bx]? = _ from (Below.heap_setCell _ _ _ _ (by simp; omega)).trans HX4.out)
            obtain ⟨w5, hw5⟩ : ∃ w5, w4.setCell ⟨w1.heap.size, d.toNat, none⟩ (.bool false) = w5 := ⟨_, rfl⟩
            rw [hw5] at HI5 HS5 HX5 ⊢
            have hz5 := HI5.out.sz
            clear HI4 HX4 HS4 hpb4 hx4 k0 k1 k2 k3
            refine ⟨trivial, CallsIn.inRound l (callsIn_wide.2 (reads_any op d ar br _ o0 o7 _ ?_))⟩
            intro w6 x hg6 hrd hnew
            rw [hst] at HG
            have HI6 := Lib.hid (HI5.out.grow hg6 hB0)
            have HX6 := Lib.hid (hg6.blk HX5.out)
            have HS6 := Lib.hid (HS5.out.trans (Stp.grow (B := W0.heap.size) (Bs := w3.heap.size + 1 + 1) (b := b) hg6 (by omega) (by omega)))
            obtain ⟨rl, hrl⟩ : ∃ rl, rdL op ar br = rl := ⟨_, rfl⟩
            rw [hrl] at hrd HG ord
            obtain ⟨ax, cx, rfl, q1, q2, q3⟩ := hrd
            have hz6 := hg6.sz
            have HO := Lib.hid ord
            clear hg6 HI5 HX5 HS5 hrl ord
            gi_wp2_with fail
            gi_loopw [76] (fun i wr => ∃ k : Nat, k ≤ rl.length ∧ i = .int .i64 k ∧ SlI w (w3.heap.size + 3) w.heap.size w1.heap.size (w3.heap.size + 1) (.slice (some ⟨b', o', none⟩) p.length pc) ((rl.take k).foldl (fun m r => m.set r true) (ms.set d false), xs) wr ∧ Stp W0.heap.size (w3.heap.size + 1 + 1) b W wr ∧ ∀ bq, w3.heap.size + 3 ≤ bq → wr.heap[bq]? = w6.heap[bq]?) (fun i _ => rl.length - (intOf i).toNat)
            case atStart => exact ⟨0, Nat.zero_le _, rfl, HI6.out, HS6.out, fun _ _ => rfl⟩
            case round =>
              obtain ⟨k, hk, rfl, hI, hS, hq⟩ := hrel
              by_cases hlt2 : k < rl.length
              · replace q3 := q3.resolve_left (by intro h; simp [h.1] at hlt2)
                obtain ⟨bq, oq, rfl, hbq, hcq⟩ := q3
                have hnb : w3.heap.size + 3 ≤ bq := by have := hnew _ _ _ rfl; dsimp only at this; omega
                obtain ⟨rg, hrg⟩ : ∃ l, rl[k]? = some l := ⟨_, List.getElem?_eq_getElem hlt2⟩
                have f0 := cell_of_heap (hq bq hnb) (ints_cell hcq k rg hrg)
                obtain ⟨rg0, rg3⟩ := HO.out rg (List.mem_of_getElem? hrg)
                have rg4 : rg < 4 := by omega
                have hmc2 := arrM_cell hI.hm rg rg0 rg3
                have hfr2 := arrM_free hI.hm rg.toNat
                have hI2 := hI.set rg true rg0 rg3 (by omega) (by omega) (by omega) (by omega)
                have htk : rl.take (k + 1) = rl.take k ++ [rg] := by rw [List.take_add_one, hrg]; rfl
                have hfold : (rl.take (k + 1)).foldl (fun m r => m.set r true) (ms.set d false) = ((rl.take k).foldl (fun m r => m.set r true) (ms.set d false)).set rg true := by rw [htk, List.foldl_append]; rfl
                rw [← hfold] at hI2
                have hS2 := hS.trans (Stp.set (B := W0.heap.size) (Bs := w3.heap.size + 1 + 1) (b := b) (X := wr) w1.heap.size rg.toNat (.bool true) (by omega) (by omega))
                have HI2 := Lib.hid hI2
                have HS2 := Lib.hid hS2
                have HQ := Lib.hid hq
                clear hI hS hq hI2 hS2 htk hfold hcq
                gi_wp2_with fail
                go_roundw
                case rel =>
                  refine ⟨k + 1, by omega, by go_num, HI2.out, HS2.out, fun b2 hb2 => ?_⟩
                  rw [Below.heap_setCell _ _ _ _ (by simp; omega)]; exact HQ.out b2 hb2
                case measure => simp [intOf]; omega
              · have hke : k = rl.length := by omega
                subst hke
                rw [List.take_length] at hI
                have hXr := (hq Bx hBx).trans HX6.out
                have hxr : wr.cell? ⟨Bx, 0, none⟩ = some (.int .i64 (ln : Int)) := by simp [World.cell?, hXr]
                obtain ⟨vo, hvo, hown⟩ := hI.ho
                dsimp only at hown
                have hvc : wr.cell? ⟨w3.heap.size + 1, 0, none⟩ = some vo := by simp [World.cell?, hvo]
                have hzr := hI.sz
                have HIr := Lib.hid hI
                have HSr := Lib.hid hS
                have HVO := Lib.hid hvo
                have HOW := Lib.hid hown
                clear hI hS hq hXr hvo hown q3
                gi_wp2_with (gi_at_builtin; refine Classical.byContradiction (fun hcon => ?_))
                refine hcon ?_
                clear hcon
                refine wpListIn_app _ rfl (.tmp 83) (.tmp 86) 29 rfl (w3.heap.size + 3) 3 Tryz.underlying29 info_int rfl (by decide) (by decide) encI encI_len encI_one vo xs rfl (World.ownsRow.alloc HOW.out _) ⟨wr.heap.size, 0, none⟩ (ln : Int) 1 rfl (news_one _ (encI ln) _) (by omega) (by simp; omega) ?_
                intro v7 w7 hown7 hgr7
                obtain ⟨hb7, hI7, hS7⟩ := HIr.out.app (Bs := w3.heap.size + 1 + 1) (b := b) ((Grow.refl wr).alloc _) HVO.out HOW.out hown7 hgr7 (by omega) (by omega) (by omega) (by omega) (by omega) (by omega) (by omega) (by omega) (by omega) (by omega) hB0
                obtain ⟨g7, cap7, rfl⟩ := ownsRow_succ hown7
                have hc7 : w7.cell? ⟨w3.heap.size + 1, 0, none⟩ = some vo := by simp [World.cell?, hb7]
                have hf7 : w7.frozen? ⟨w3.heap.size + 1, 0, none⟩ = false := by simp [World.frozen?, hb7]
                have HI7 := Lib.hid hI7
                have HS7 := Lib.hid hS7
                clear hown7 hgr7 hb7 hI7 hS7
                gi_wp2_with fail
                have hs7 := HS7.out
                rw [← hsz0] at hs7
                have hss := HSr.out.trans hs7
                exact ⟨by first | exact hss.1 | (rw [← hsz0]; exact hss.1), hss.2, HG.out _ HI7.out⟩
          · replace hmg : ms.get d = false := by simpa using hmg
            rw [hmg] at hmc
            have hst : sliceStep p (ms, xs) (ln, st) = (ms, xs) := by
              simp [sliceStep, HL.out, hop7, hmg]
            rw [hst] at HG
            gi_wp2_with fail
            exact ⟨HS4.out.1, HS4.out.2, HG.out _ HI4.out⟩
        · replace hw : wrB op = false := by simpa using hw
          rw [show wrT op d = 0 by simp [wrT, hw], hw]
          by_cases h7 : op = 7
          · subst h7
            have hst : sliceStep p (ms, xs) (ln, st) = ((rdL 7 ar br).foldl (fun m r => m.set r true) ms, xs ++ [(ln : Int)]) := by
              simp [sliceStep, HL.out, hw]
            gi_wp2_with fail
            have HI5 := HI4
            have HS5 := HS4
            have HX5 := HX4
            have hz5 := HI5.out.sz
            clear HI4 HX4 HS4 hpb4 hx4 k0 k1 k2 k3
            refine ⟨trivial, CallsIn.inRound l (callsIn_wide.2 (reads_any 7 d ar br _ o0 o7 _ ?_))⟩
            intro w6 x hg6 hrd hnew
            rw [hst] at HG
            have HI6 := Lib.hid (HI5.out.grow hg6 hB0)
            have HX6 := Lib.hid (hg6.blk HX5.out)
            have HS6 := Lib.hid (HS5.out.trans (Stp.grow (B := W0.heap.size) (Bs := w3.heap.size + 1 + 1) (b := b) hg6 (by omega) (by omega)))
            obtain ⟨rl, hrl⟩ : ∃ rl, rdL 7 ar br = rl := ⟨_, rfl⟩
            rw [hrl] at hrd HG ord
            obtain ⟨ax, cx, rfl, q1, q2, q3⟩ := hrd
            have hz6 := hg6.sz
            have HO := Lib.hid ord
            clear hg6 HI5 HX5 HS5 hrl ord
            gi_wp2_with fail
            gi_loopw [76] (fun i wr => ∃ k : Nat, k ≤ rl.length ∧ i = .int .i64 k ∧ SlI w (w3.heap.size + 3) w.heap.size w1.heap.size (w3.heap.size + 1) (.slice (some ⟨b', o', none⟩) p.length pc) ((rl.take k).foldl (fun m r => m.set r true) (ms), xs) wr ∧ Stp W0.heap.size (w3.heap.size + 1 + 1) b W wr ∧ ∀ bq, w3.heap.size + 3 ≤ bq → wr.heap[bq]? = w6.heap[bq]?) (fun i _ => rl.length - (intOf i).toNat)
            case atStart => exact ⟨0, Nat.zero_le _, rfl, HI6.out, HS6.out, fun _ _ => rfl⟩
            case round =>
              obtain ⟨k, hk, rfl, hI, hS, hq⟩ := hrel
              by_cases hlt2 : k < rl.length
              · replace q3 := q3.resolve_left (by intro h; simp [h.1] at hlt2)
                obtain ⟨bq, oq, rfl, hbq, hcq⟩ := q3
                have hnb : w3.heap.size + 3 ≤ bq := by have := hnew _ _ _ rfl; dsimp only at this; omega
                obtain ⟨rg, hrg⟩ : ∃ l, rl[k]? = some l := ⟨_, List.getElem?_eq_getElem hlt2⟩
                have f0 := cell_of_heap (hq bq hnb) (ints_cell hcq k rg hrg)
                obtain ⟨rg0, rg3⟩ := HO.out rg (List.mem_of_getElem? hrg)
                have rg4 : rg < 4 := by omega
                have hmc2 := arrM_cell hI.hm rg rg0 rg3
                have hfr2 := arrM_free hI.hm rg.toNat
                have hI2 := hI.set rg true rg0 rg3 (by omega) (by omega) (by omega) (by omega)
                have htk : rl.take (k + 1) = rl.take k ++ [rg] := by rw [List.take_add_one, hrg]; rfl
                have hfold : (rl.take (k + 1)).foldl (fun m r => m.set r true) (ms) = ((rl.take k).foldl (fun m r => m.set r true) (ms)).set rg true := by rw [htk, List.foldl_append]; rfl
                rw [← hfold] at hI2
                have hS2 := hS.trans (Stp.set (B := W0.heap.size) (Bs := w3.heap.size + 1 + 1) (b := b) (X := wr) w1.heap.size rg.toNat (.bool true) (by omega) (by omega))
                have HI2 := Lib.hid hI2
                have HS2 := Lib.hid hS2
                have HQ := Lib.hid hq
                clear hI hS hq hI2 hS2 htk hfold hcq
                gi_wp2_with fail
                go_roundw
                case rel =>
                  refine ⟨k + 1, by omega, by go_num, HI2.out, HS2.out, fun b2 hb2 => ?_⟩
                  rw [Below.heap_setCell _ _ _ _ (by simp; omega)]; exact HQ.out b2 hb2
                case measure => simp [intOf]; omega
              · have hke : k = rl.length := by omega
                subst hke
                rw [List.take_length] at hI
                have hXr := (hq Bx hBx).trans HX6.out
                have hxr : wr.cell? ⟨Bx, 0, none⟩ = some (.int .i64 (ln : Int)) := by simp [World.cell?, hXr]
                obtain ⟨vo, hvo, hown⟩ := hI.ho
                dsimp only at hown
                have hvc : wr.cell? ⟨w3.heap.size + 1, 0, none⟩ = some vo := by simp [World.cell?, hvo]
                have hzr := hI.sz
                have HIr := Lib.hid hI
                have HSr := Lib.hid hS
                have HVO := Lib.hid hvo
                have HOW := Lib.hid hown
                clear hI hS hq hXr hvo hown q3
                gi_wp2_with (gi_at_builtin; refine Classical.byContradiction (fun hcon => ?_))
                refine hcon ?_
                clear hcon
                refine wpListIn_app _ rfl (.tmp 83) (.tmp 86) 29 rfl (w3.heap.size + 3) 3 Tryz.underlying29 info_int rfl (by decide) (by decide) encI encI_len encI_one vo xs rfl (World.ownsRow.alloc HOW.out _) ⟨wr.heap.size, 0, none⟩ (ln : Int) 1 rfl (news_one _ (encI ln) _) (by omega) (by simp; omega) ?_
                intro v7 w7 hown7 hgr7
                obtain ⟨hb7, hI7, hS7⟩ := HIr.out.app (Bs := w3.heap.size + 1 + 1) (b := b) ((Grow.refl wr).alloc _) HVO.out HOW.out hown7 hgr7 (by omega) (by omega) (by omega) (by omega) (by omega) (by omega) (by omega) (by omega) (by omega) (by omega) hB0
                obtain ⟨g7, cap7, rfl⟩ := ownsRow_succ hown7
                have hc7 : w7.cell? ⟨w3.heap.size + 1, 0, none⟩ = some vo := by simp [World.cell?, hb7]
                have hf7 : w7.frozen? ⟨w3.heap.size + 1, 0, none⟩ = false := by simp [World.frozen?, hb7]
                have HI7 := Lib.hid hI7
                have HS7 := Lib.hid hS7
                clear hown7 hgr7 hb7 hI7 hS7
                gi_wp2_with fail
                have hs7 := HS7.out
                rw [← hsz0] at hs7
                have hss := HSr.out.trans hs7
                exact ⟨by first | exact hss.1 | (rw [← hsz0]; exact hss.1), hss.2, HG.out _ HI7.out⟩
          · have t1 : (op == 7) = false := by simpa using h7
            have t2 : (op != 7) = true := by simpa using h7
            have hst : sliceStep p (ms, xs) (ln, st) = (ms, xs) := by
              simp [sliceStep, HL.out, h7, hw]
            rw [hst] at HG
            gi_wp2_with fail
            exact ⟨HS4.out.1, HS4.out.2, HG.out _ HI4.out⟩
      case done =>
        rintro D ys W hD rfl hI hK
        rw [backAcc_all] at hI
        have HRR := HR2.out
        generalize hacc : vs.reverse.foldl (sliceStep p) (Ms.set ⟨false, false, false, false⟩ r true, []) = acc at hI HRR
        obtain ⟨ms, xs⟩ := acc
        obtain ⟨vo, hvo, hown⟩ := hI.ho
        dsimp only at hown HRR
        have hxl : xs.length ≤ 8 := by
          have h1 := backAcc_len p vs (Ms.set ⟨false, false, false, false⟩ r true) (List.finRange vs.length)
          rw [backAcc_all, hacc, List.length_finRange] at h1
          dsimp only at h1
          omega
        have hvc : W.cell? ⟨w3.heap.size + 1, 0, none⟩ = some vo := by simp [World.cell?, hvo]
        have hz := hI.sz
        have hbel := hI.bel
        have HBEL := Lib.hid hbel
        have HRX := Lib.hid HRR
        clear HRR hI hacc HR2 hbel
        rcases hown.2 with ⟨rfl, h0⟩ | ⟨g, cap, cur, rfl, hgB, hgb, hn, hm, hcs, htake⟩
        · have : xs = [] := List.eq_nil_of_length_eq_zero h0
          subst this
          gi_wp2_with fail
          refine ⟨trivial, callsIn_wide.2 ((Tryz.slices_Reverse_int_empty none 0 W).mono ?_)⟩
          rintro e w' ⟨rfl, rfl⟩
          gi_wp2_with fail
          refine ⟨by simp, .inl ⟨_, _, rfl, run_takeDeferred hK, ?_⟩⟩
          refine ⟨_, results_tmp2 rfl _ _ _, ?_⟩
          have hfin := HRX.out _ _ (HBEL.out.trans (belowK_b (w := w) (Nat.le_refl _) _ D _ (.deferred none) (by omega) hK rfl rfl)) (SlcAt.nil _ _ _) (NewB.nil _ _)
          go_simp
          exact hfin
        · have hH := holds_of_owns hown
          have hgd : g ≠ D := by rintro rfl; rw [hgb] at hK; cases hK
          have HH := Lib.hid hH
          have HVO := Lib.hid hvo
          have HK := Lib.hid hK
          have hgl := lt_of_block hgb
          clear hH hvo hK hown hcs htake hgb
          gi_wp2_with fail
          refine ⟨trivial, callsIn_wide.2 ((Tryz.slices_Reverse_int g 0 cap xs W HH.out (by omega)).mono ?_)⟩
          rintro e w' ⟨rfl, n, rfl⟩
          have hz' : (putRow (Value.int .i64) (Sort.ahead W n) g 0 xs.reverse.toArray).heap.size = W.heap.size := by simp
          have hkeep : ∀ k, k ≠ g → (putRow (Value.int .i64) (Sort.ahead W n) g 0 xs.reverse.toArray).heap[k]? = W.heap[k]? := by
            intro k hk
            show (W.heap.modify g _)[k]? = _
            rw [Array.getElem?_modify, if_neg (by omega)]
          have hH2 := holds_putRow (Value.int .i64) (Sort.ahead W n) g 0 xs.toArray xs.reverse.toArray (holds_ahead _ _ n _ _ _ HH.out) (by simp)
          have hb2 := below_putRow (Value.int .i64) W n g 0 xs.reverse.toArray (show w.heap.size ≤ g by omega)
          have hvo2 := (hkeep (w3.heap.size + 1) (by omega)).trans HVO.out
          have hK2 := (hkeep D (by omega)).trans HK.out
          generalize putRow (Value.int .i64) (Sort.ahead W n) g 0 xs.reverse.toArray = W8 at hz' hkeep hH2 hb2 hvo2 hK2 ⊢
          have hvc2 : W8.cell? ⟨w3.heap.size + 1, 0, none⟩ = some (.slice (some ⟨g, 0, none⟩) xs.length cap) := by simp [World.cell?, hvo2]
          have hK3 : (W8.putObj D (.deferred none)).heap[g]? = W8.heap[g]? := World.putObj_heap_other (by omega)
          have hi : IntsAt (W8.putObj D (.deferred none)) (.slice (some ⟨g, 0, none⟩) xs.reverse.length cap) xs.reverse := by
            refine ints_of_holds ?_ ?_ (by simpa using hn) (by simpa [maxLen] using hm)
            · intro j hj
              obtain ⟨h1, h2⟩ := hH2 j hj
              refine ⟨?_, ?_⟩
              · simp only [World.cell?, hK3] at h1 ⊢; exact h1
              · simp only [World.frozen?, hK3] at h2 ⊢; exact h2
            · exact Nat.lt_of_lt_of_le (by omega) (belowK_b (w := w) (Nat.le_refl _) W8 D _ (.deferred none) (by omega) hK2 rfl rfl).size
          rw [List.length_reverse] at hi
          have HIX := Lib.hid hi
          have HKK := Lib.hid hK2
          have HB2 := Lib.hid hb2
          clear hi hK2 hb2 hH2 hkeep hvo2 HH HK HVO
          gi_wp2_with fail
          refine ⟨by simp, .inl ⟨_, _, rfl, run_takeDeferred HKK.out, ?_⟩⟩
          refine ⟨_, results_tmp2 rfl _ _ _, ?_⟩
          have hfin := HRX.out _ _ ((HBEL.out.trans HB2.out).trans (belowK_b (w := w) (Nat.le_refl _) _ D _ (.deferred none) (by omega) HKK.out rfl rfl)) HIX.out (by intro a n c e; cases e; exact ⟨by show w.heap.size ≤ g; omega, Nat.lt_of_lt_of_le (show g < W8.heap.size by omega) (belowK_b (w := w) (Nat.le_refl _) W8 D _ (.deferred none) (by omega) HKK.out rfl rfl).size⟩)
          go_simp
          exact hfin
      case stop =>
        rintro D c' pre W _ _ h _
        exact h.elim
    · replace hin : inB r 0 3 = false := by simpa using hin
      have hbe : sliceE p s r = 1 := by simp [sliceE, h, hin]
      have HRR := HR.out
      rw [hbe, ifOK_err (by decide)] at HRR
      have HR2 := Lib.hid HRR
      clear HRR HR hbe h
      go_enter Tryz.func148, Tryz.ntmps148
      go_wp2_with fail
      refine check_any p s _ _ _ (HP.out.grow ((Grow.refl w).alloc _)) (HS.out.grow ((Grow.refl w).alloc _)) _ ?_
      intro w1 hg1
      rw [H.out]
      go_wp2_with fail
      refine isRegister_any _ _ _ ?_
      rw [hin]
      go_wp2_with fail
      exact HR2.out _ _ (((Grow.refl w).alloc _).trans hg1) (SlcAt.nil _ _ _) (NewB.nil _ _)
  · have hbe : sliceE p s r = chk p s := by simp [sliceE, h]
    have HRR := HR.out
    rw [hbe, ifOK_err h] at HRR
    generalize he : chk p s = e at h HRR
    have H := Lib.hid he
    have HR2 := Lib.hid HRR
    clear HRR HR hbe he
    have hb : (e == 0) = false := by simpa using h
    have hb2 : (e != 0) = true := by simpa using h
    go_enter Tryz.func148, Tryz.ntmps148
    go_wp2_with fail
    refine check_any p s _ _ _ (HP.out.grow ((Grow.refl w).alloc _)) (HS.out.grow ((Grow.refl w).alloc _)) _ ?_
    intro w1 hg1
    rw [H.out]
    go_wp2_with fail
    exact HR2.out _ _ (((Grow.refl w).alloc _).trans hg1) (SlcAt.nil _ _ _) (NewB.nil _ _)
theorem Slice_any (p : List Ln) (s : List Int) (r : Int) (v u : Value) (w : World) (hp : LinesAt w v p) (hs : IntsAt w u s) (R : Ending → World → Prop)
    (hR : ∀ w' x, Grow w w' → IntsAt w' x (ifOK (sliceE p s r) (sliceM p s r)) → R (.returned (.tuple #[x, .int .i64 (sliceE p s r)])) w') :
    Calls Tryz.prog 148 #[v, u, .int .i64 r] w R := SliceN_any p s r v u w hp hs R fun w' x h1 h2 _ => hR w' x h1 h2
end Go.Proofs.YtmlbgfnddgbpbaaGreat

namespace Go.Proofs.YtmlbgfnddgbpbaaGreat
open Go.RowKit

theorem vL_ok {op d a b : Int} (h : vL op d a b = true) : Ln.ok ⟨op, d, a, b⟩ = true := h

def wrO (op d a b : Int) : Int := if vL op d a b then wrT op d else 0
def wrI (op d a b : Int) : Bool := vL op d a b && wrB op

set_option maxHeartbeats 1000000 in
theorem Writes_any (op d a b : Int) (w : World) (R : Ending → World → Prop)
    (hR : ∀ w', Grow w w' → R (.returned (.tuple #[.int .i64 (wrO op d a b), .bool (wrI op d a b), .int .i64 (errB (vL op d a b))])) w') :
    Calls Tryz.prog 141 #[.agg #[.int .i64 op, .int .i64 d, .int .i64 a, .int .i64 b]] w R := by
  have HR := Lib.hid hR
  clear hR
  cases hv : vL op d a b with
  | true =>
    have HRR := HR.out
    rw [wrO, wrI, hv, errB_true, if_pos rfl, Bool.true_and] at HRR
    have HR2 := Lib.hid HRR
    have HV := Lib.hid hv
    clear HRR HR hv
    go_enter Tryz.func141, Tryz.ntmps141
    go_wp2_with fail
    refine validateLine_any op d a b _ _ ?_
    intro w1 hg1
    rw [HV.out, errB_true]
    have e0 := hg1.cell (a := ⟨w.heap.size, 0, none⟩) (v := .int .i64 op) (by simp)
    have e1 := hg1.cell (a := ⟨w.heap.size, 1, none⟩) (v := .int .i64 d) (by simp)
    have e2 := hg1.cell (a := ⟨w.heap.size, 2, none⟩) (v := .int .i64 a) (by simp)
    have e3 := hg1.cell (a := ⟨w.heap.size, 3, none⟩) (v := .int .i64 b) (by simp)
    have hz : w.heap.size < w1.heap.size := by have := hg1.sz; simp at this; omega
    have HG := Lib.hid hg1
    clear hg1
    go_wp2_with fail
    refine writes_any op d a b _ _ ?_
    intro w2 hg2
    have HF := Lib.hid (HR2.out w2 (((Grow.refl w).alloc _).trans (HG.out.trans hg2)))
    clear hg2
    generalize wrT op d = t1 at HF ⊢
    generalize wrB op = t2 at HF ⊢
    go_wp2_with fail
    go_ret3
    exact HF.out
  | false =>
    have HRR := HR.out
    rw [wrO, wrI, hv, errB_false, if_neg (by simp), Bool.false_and] at HRR
    have HR2 := Lib.hid HRR
    have HV := Lib.hid hv
    clear HRR HR hv
    go_enter Tryz.func141, Tryz.ntmps141
    go_wp2_with fail
    refine validateLine_any op d a b _ _ ?_
    intro w1 hg1
    rw [HV.out, errB_false]
    go_wp2_with fail
    go_ret3
    exact HR2.out _ (((Grow.refl w).alloc _).trans hg1)
end Go.Proofs.YtmlbgfnddgbpbaaGreat

namespace Go.Proofs.YtmlbgfnddgbpbaaGreat
open Go.RowKit

/-- Three boxes, one after another. -/
theorem boxes3 (w : World) (A B C : Value) (ta tb tc : TypeId) :
    ((((w.alloc (.cells #[A] ta)).alloc (.cells #[B] tb)).alloc (.cells #[C] tc)).cell? ⟨w.heap.size, 0, none⟩ = some A) ∧ ((((w.alloc (.cells #[A] ta)).alloc (.cells #[B] tb)).alloc (.cells #[C] tc)).cell? ⟨w.heap.size + 1, 0, none⟩ = some B) ∧ ((((w.alloc (.cells #[A] ta)).alloc (.cells #[B] tb)).alloc (.cells #[C] tc)).cell? ⟨w.heap.size + 2, 0, none⟩ = some C) := by
  have h1 : (((w.alloc (.cells #[A] ta)).alloc (.cells #[B] tb)).alloc (.cells #[C] tc)).heap[w.heap.size]? = some (.cells #[A] ta) := by
    rw [Below.heap_alloc _ _ _ (by simp; omega)]; exact heap_two0 w _ _
  have h2 : (((w.alloc (.cells #[A] ta)).alloc (.cells #[B] tb)).alloc (.cells #[C] tc)).heap[w.heap.size + 1]? = some (.cells #[B] tb) := by
    rw [Below.heap_alloc _ _ _ (by simp)]; exact heap_two1 w _ _
  have h3 : (((w.alloc (.cells #[A] ta)).alloc (.cells #[B] tb)).alloc (.cells #[C] tc)).heap[w.heap.size + 2]? = some (.cells #[C] tc) := by
    have := heap_two1 (w.alloc (.cells #[A] ta)) (.cells #[B] tb) (.cells #[C] tc)
    rwa [World.size_alloc] at this
  exact ⟨by unfold World.cell?; simp only [h1]; rfl, by unfold World.cell?; simp only [h2]; rfl, by unfold World.cell?; simp only [h3]; rfl⟩

theorem force1_any (x : Int) (b : Nat) (pa : Option Addr) (pc n : Nat) (hn : n ≤ 1000000000) (w : World) (hb : w.cell? ⟨b, 0, none⟩ = some (.slice pa n pc)) (R : Ending → World → Prop) (hR : R (.returned (.bool (!inB x 0 (n - 1)))) w) :
    Calls Tryz.prog 127 #[.int .i64 x, .pointer (some ⟨b, 0, none⟩)] w R := by
  go_enter Tryz.func127, Tryz.ntmps127
  go_wp2_with fail
  refine within_any _ _ _ _ _ ?_
  generalize inB x 0 (n - 1) = z at hR ⊢
  go_wp2_with fail
  exact hR
theorem force2_any (x : Int) (w : World) (R : Ending → World → Prop) (hR : R (.returned (.bool (!inB x (-999) 999))) w) :
    Calls Tryz.prog 129 #[.int .i64 x] w R := by
  go_enter Tryz.func129, Tryz.ntmps129
  go_wp2_with fail
  refine within_any _ _ _ _ _ ?_
  generalize inB x (-999) 999 = z at hR ⊢
  go_wp2_with fail
  exact hR

set_option maxHeartbeats 1000000 in
theorem search_any (xs : List Int) (x : Int) (a : Option Addr) (n c : Nat) (w : World) (hx : IntsAt w (.slice a n c) xs) (ha : ascB xs = true) (hn : xs.length < 4611686018427387904) (R : Ending → World → Prop)
    (hR : ∀ w', Grow w w' → R (.returned (.tuple #[.int .i64 ((xs.countP fun y => decide (y < x) : Nat) : Int), .bool (xs.contains x)])) w') :
    Calls Tryz.prog 133 #[.slice a n c, .int .i64 x] w R := by
  obtain ⟨rfl, hm⟩ := slc_n hx
  obtain ⟨_, _, e, _, _, h⟩ := hx
  cases e
  rcases h with ⟨rfl, _⟩ | ⟨b, o, rfl, hb, hc⟩
  · refine (Tryz.slices_BinarySearch_int_empty a c x w).mono ?_
    rintro e w' ⟨rfl, rfl⟩
    exact hR _ (Grow.refl _)
  · refine (Tryz.slices_BinarySearch_int b o xs.length c xs x w (Nat.le_refl _) hn (fun j hj => ?_) (by rw [List.take_length]; exact asc_pairwise ha)).mono ?_
    · have := ints_cell hc j xs[j] (List.getElem?_eq_getElem hj)
      rw [this, List.getD_eq_getElem?_getD, List.getElem?_eq_getElem hj]; rfl
    · rintro e w' ⟨rfl, q, rfl⟩
      rw [List.take_length]
      exact hR _ ((Grow.refl w).drewN q)

set_option maxHeartbeats 1000000 in
theorem force3_any (lines values : List Int) (i : Nat) (ha : ascB lines = true) (hn : lines.length < 4611686018427387904) (hlen : values.length = lines.length) (b c : Nat) (la va : Option Addr) (lc vc : Nat) (w : World)
    (hb : w.cell? ⟨b, 0, none⟩ = some (.slice la lines.length lc)) (hc : w.cell? ⟨c, 0, none⟩ = some (.slice va values.length vc)) (hl : IntsAt w (.slice la lines.length lc) lines) (hv : IntsAt w (.slice va values.length vc) values)
    (R : Ending → World → Prop) (hR : ∀ w', Grow w w' → R (.returned (.tuple #[.int .i64 ((frc lines values i).getD 0), .bool (frc lines values i).isSome])) w') :
    Calls Tryz.prog 132 #[.int .i64 i, .pointer (some ⟨b, 0, none⟩), .pointer (some ⟨c, 0, none⟩)] w R := by
  have hs := frc_search (values := values) ha i
  have HL := Lib.hid hl
  have HV := Lib.hid hv
  have HA := Lib.hid ha
  have HN := Lib.hid hn
  have HR := Lib.hid hR
  have HLEN := Lib.hid hlen
  clear hl hv ha hn hR hlen
  go_enter Tryz.func132, Tryz.ntmps132
  go_wp2_with fail
  refine search_any lines i _ _ _ _ HL.out HA.out HN.out _ ?_
  intro w1 hg1
  have hb1 := hg1.cell hb
  have hc1 := hg1.cell hc
  have HV1 := Lib.hid (HV.out.grow hg1)
  have HG1 := Lib.hid hg1
  clear hb hc hg1
  cases h : lines.contains (i : Int) with
  | false =>
    rw [h, if_neg (by simp)] at hs
    have HF := HR.out w1 HG1.out
    rw [hs] at HF
    have HF2 := Lib.hid HF
    clear hs HF
    go_wp2_with fail
    exact HF2.out
  | true =>
    rw [h, if_pos rfl] at hs
    have hm : (i : Int) ∈ lines := by simpa using h
    obtain ⟨k, hk⟩ := List.mem_iff_getElem?.1 hm
    have hlt := (List.getElem?_eq_some_iff.1 hk).1
    have e : lines.getD k 0 = (i : Int) := by rw [List.getD_eq_getElem?_getD, hk]; rfl
    rw [countP_at HA.out hlt e] at hs ⊢
    have hlv : k < values.length := by rw [HLEN.out]; exact hlt
    obtain ⟨y, hy⟩ : ∃ y, values[k]? = some y := ⟨_, List.getElem?_eq_getElem hlv⟩
    rw [List.getD_eq_getElem?_getD, hy] at hs
    have HF := HR.out w1 HG1.out
    rw [hs] at HF
    have HF2 := Lib.hid HF
    obtain ⟨vb, vo, rfl, _, ey⟩ := ints_at HV1.out hy
    clear hs HF h hm hk e hy
    go_wp2_with fail
    exact HF2.out

theorem any_atI {xs : List Int} {f : Int → Bool} {k : Nat} {x : Int} (hx : xs[k]? = some x) (h : f x = true) : xs.any f = true := List.any_eq_true.2 ⟨x, List.mem_of_getElem? hx, h⟩
theorem any_take_succ {xs : List Int} {f : Int → Bool} {k : Nat} {x : Int} (h : ∀ l ∈ xs.take k, f l = false) (hx : xs[k]? = some x) (hf : f x = false) : ∀ l ∈ xs.take (k + 1), f l = false := by
  intro l hl
  rw [List.take_add_one, hx] at hl
  rcases List.mem_append.1 hl with hl | hl
  · exact h l hl
  · simp at hl; subst hl; exact hf
theorem any_of_take {xs : List Int} {f : Int → Bool} {k : Nat} (h : ∀ l ∈ xs.take k, f l = false) (hk : xs.length ≤ k) : xs.any f = false := by
  rw [List.take_of_length_le hk] at h
  cases e : xs.any f with
  | false => rfl
  | true => obtain ⟨y, hy, hf⟩ := List.any_eq_true.1 e; rw [h y hy] at hf; cases hf


set_option maxRecDepth 100000 in
set_option maxHeartbeats 8000000 in
theorem Force_any (p : List Ln) (s lines values : List Int) (v u lv vv : Value) (w : World) (hp : LinesAt w v p) (hs : IntsAt w u s) (hl : IntsAt w lv lines) (hv : IntsAt w vv values) (hn : lines.length < 4611686018427387904) (R : Ending → World → Prop)
    (hR : ∀ w' x, Grow w w' → IntsAt w' x (frcM p s lines values) → R (.returned (.tuple #[x, .int .i64 (frcE p s lines values)])) w') :
    Calls Tryz.prog 77 #[v, u, lv, vv] w R := by
  have HP := Lib.hid hp
  have HS := Lib.hid hs
  have HL := Lib.hid hl
  have HV := Lib.hid hv
  have HR := Lib.hid hR
  have HN := Lib.hid hn
  obtain ⟨pa, pc, rfl, p1, p2, _⟩ := hp
  obtain ⟨sa, sc, rfl, s1, s2, _⟩ := hs
  obtain ⟨la, lc, rfl, l1, l2, _⟩ := hl
  obtain ⟨va, vc, rfl, v1, v2, _⟩ := hv
  clear hR hn
  go_enter Tryz.func77, Tryz.ntmps77
  go_wp2_with fail
  refine check_any p s _ _ _ (HP.out.grow ((((Grow.refl w).alloc _).alloc _).alloc _)) (HS.out.grow ((((Grow.refl w).alloc _).alloc _).alloc _)) _ ?_
  intro w1 hg1
  obtain ⟨k4, k6, k7⟩ := boxes3 w (.slice pa p.length pc) (.slice la lines.length lc) (.slice va values.length vc) 35 29 29
  have b4 := hg1.cell k4
  have b6 := hg1.cell k6
  have b7 := hg1.cell k7
  clear k4 k6 k7
  have hz : w.heap.size + 2 < w1.heap.size := by have := hg1.sz; simp at this; omega
  have HG := Lib.hid (((((Grow.refl w).alloc _).alloc _).alloc _).trans hg1)
  clear hg1
  by_cases hck : chk p s = 0
  rotate_left
  · have hE : frcE p s lines values = chk p s := by unfold frcE; rw [if_neg hck]
    have hM : frcM p s lines values = [] := by unfold frcM; rw [hE]; exact ifOK_err hck _
    have HRR := HR.out
    rw [hE, hM] at HRR
    generalize he : chk p s = e at hck HRR
    have HR2 := Lib.hid HRR
    have t1 : (e == 0) = false := by simpa using hck
    have t2 : (e != 0) = true := by simpa using hck
    clear HRR HR hE hM he
    go_wp2_with fail
    exact HR2.out _ _ HG.out (SlcAt.nil _ _ _)
  rw [hck]
  have hE := show frcE p s lines values = _ by unfold frcE; rw [if_pos hck]
  have HE1 := Lib.hid hE
  clear hE
  have HCK := Lib.hid hck
  have hp8 := (valP_ok.1 (chk_ok.1 hck).1).1
  clear hck
  go_wp2_with fail
  refine isSet_any lines _ _ (HL.out.grow HG.out) _ ?_
  intro w2 hg2
  have c4 := hg2.cell b4
  have c6 := hg2.cell b6
  have c7 := hg2.cell b7
  have hz2 : w.heap.size + 2 < w2.heap.size := by have := hg2.sz; omega
  have HG2 := Lib.hid (HG.out.trans hg2)
  clear hg2 b4 b6 b7 hz
  have hE := HE1.out
  clear HE1
  cases hasc : ascB lines with
  | false =>
    rw [hasc, if_neg (by simp)] at hE
    have hM : frcM p s lines values = [] := by unfold frcM; rw [hE]; exact ifOK_err (by decide) _
    have HRR := HR.out
    rw [hE, hM] at HRR
    have HR2 := Lib.hid HRR
    clear HRR HR hE hM hasc
    go_wp2_with fail
    exact HR2.out _ _ HG2.out (SlcAt.nil _ _ _)
  | true =>
  rw [hasc, if_pos rfl] at hE
  have HE1 := Lib.hid hE
  clear hE
  have HASC := Lib.hid hasc
  clear hasc
  have hpr : PredI 127 #[.pointer (some ⟨w.heap.size, 0, none⟩)] w2 (fun i => !inB i 0 (p.length - 1)) := by
    intro x W hg R hR
    have e : (#[.int .i64 x] ++ #[.pointer (some ⟨w.heap.size, 0, none⟩)] : Array Value) = #[.int .i64 x, .pointer (some ⟨w.heap.size, 0, none⟩)] := rfl
    rw [e]
    exact force1_any x w.heap.size pa pc p.length (by omega) W (hg.cell c4) R (hR W (Grow.refl _))
  have HPR := Lib.hid hpr
  clear hpr
  go_wp2_with fail
  refine containsFuncI_any 127 #[.pointer (some ⟨w.heap.size, 0, none⟩)] (enters_of Tryz.func127 (by kernel_rfl) rfl) (fun i => !inB i 0 (p.length - 1)) lines _ _ (HL.out.grow HG2.out) HPR.out _ ?_
  intro w3 hg3
  have b4 := hg3.cell c4
  have b6 := hg3.cell c6
  have b7 := hg3.cell c7
  have hz : w.heap.size + 2 < w3.heap.size := by have := hg3.sz; omega
  have HG3 := Lib.hid (HG2.out.trans hg3)
  clear hg3 c4 c6 c7 hz2
  have hE := HE1.out
  clear HE1
  cases hrng : (lines.any fun i => !inB i 0 (p.length - 1)) with
  | true =>
    rw [hrng, if_pos rfl] at hE
    have hM : frcM p s lines values = [] := by unfold frcM; rw [hE]; exact ifOK_err (by decide) _
    have HRR := HR.out
    rw [hE, hM] at HRR
    have HR2 := Lib.hid HRR
    clear HRR HR hE hM hrng
    go_wp2_with fail
    exact HR2.out _ _ HG3.out (SlcAt.nil _ _ _)
  | false =>
  rw [hrng, if_neg (by simp)] at hE
  have HRNG := Lib.hid hrng
  clear hrng
  by_cases hlen : values.length = lines.length
  rotate_left
  · rw [if_neg hlen] at hE
    have hne : ((values.length : Int) == lines.length) = false := by simp; omega
    have hne2 : ((values.length : Int) != lines.length) = true := by simp; omega
    have hM : frcM p s lines values = [] := by unfold frcM; rw [hE]; exact ifOK_err (by decide) _
    have HRR := HR.out
    rw [hE, hM] at HRR
    have HR2 := Lib.hid HRR
    clear HRR HR hE hM
    go_wp2_with fail
    exact HR2.out _ _ HG3.out (SlcAt.nil _ _ _)
  rw [if_pos hlen] at hE
  have HE1 := Lib.hid hE
  clear hE
  have heq : ((values.length : Int) == lines.length) = true := by simp; omega
  have heq2 : ((values.length : Int) != lines.length) = false := by simp; omega
  have HLEN := Lib.hid hlen
  clear hlen
  have hpr : PredI 129 #[] w3 (fun n => !inB n (-999) 999) := fun x W _ R hR => force2_any x W R (hR W (Grow.refl _))
  have HPR2 := Lib.hid hpr
  clear hpr
  go_wp2_with fail
  refine containsFuncI_any 129 #[] (enters_of Tryz.func129 (by kernel_rfl) rfl) (fun n => !inB n (-999) 999) values _ _ (HV.out.grow HG3.out) HPR2.out _ ?_
  intro w4 hg4
  have c4 := hg4.cell b4
  have c6 := hg4.cell b6
  have c7 := hg4.cell b7
  have hz2 : w.heap.size + 2 < w4.heap.size := by have := hg4.sz; omega
  have HG4 := Lib.hid (HG3.out.trans hg4)
  clear hg4 b4 b6 b7 hz heq heq2
  have hE := HE1.out
  clear HE1
  cases hval : (values.any fun n => !inB n (-999) 999) with
  | true =>
    rw [hval, if_pos rfl] at hE
    have hM : frcM p s lines values = [] := by unfold frcM; rw [hE]; exact ifOK_err (by decide) _
    have HRR := HR.out
    rw [hE, hM] at HRR
    have HR2 := Lib.hid HRR
    clear HRR HR hE hM hval
    go_wp2_with fail
    exact HR2.out _ _ HG4.out (SlcAt.nil _ _ _)
  | false =>
  rw [hval, if_neg (by simp)] at hE
  have HVAL := Lib.hid hval
  have HE := Lib.hid hE
  clear hval hE
  go_wp2_with fail
  go_loopw [38] (fun iv wr => ∃ k : Nat, k ≤ lines.length ∧ iv = .int .i64 k ∧ Grow w4 wr ∧ ∀ l ∈ lines.take k, (!wrB (p.getD l.toNat default).op) = false) (fun iv _ => lines.length - (intOf iv).toNat)
  case atStart => exact ⟨0, Nat.zero_le _, rfl, Grow.refl _, by simp⟩
  case round =>
    obtain ⟨k, hk, rfl, hg, hall⟩ := hrel
    have HA := Lib.hid hall
    have b4 := hg.cell c4
    have b6 := hg.cell c6
    have b7 := hg.cell c7
    have hz : w.heap.size + 2 < wr.heap.size := by have := hg.sz; omega
    have HG5 := Lib.hid (HG4.out.trans hg)
    have HGL := Lib.hid hg
    clear hall c4 c6 c7 hz2 hg
    by_cases hlt : k < lines.length
    · obtain ⟨x, hx⟩ : ∃ x, lines[k]? = some x := ⟨_, List.getElem?_eq_getElem hlt⟩
      obtain ⟨lb, lo, rfl, _, ex⟩ := ints_at (HL.out.grow HG5.out) hx
      have hin : 0 ≤ x ∧ x ≤ p.length - 1 := by
        have h := HRNG.out
        have := List.any_eq_false.1 h x (List.mem_of_getElem? hx)
        simp at this
        exact inB_true.1 this
      obtain ⟨m, rfl⟩ : ∃ m : Nat, x = m := ⟨x.toNat, by omega⟩
      have hmp : m < p.length := by omega
      obtain ⟨⟨op, d, a, b⟩, hlm⟩ : ∃ l, p[m]? = some l := ⟨_, List.getElem?_eq_getElem hmp⟩
      obtain ⟨pb, po, rfl, _, f0, f1, f2, f3⟩ := lines_at (HP.out.grow HG5.out) hlm
      have hgd : (p.getD (m : Int).toNat default).op = op := by rw [Int.toNat_natCast, List.getD_eq_getElem?_getD, hlm]; rfl
      have HGD := Lib.hid hgd
      have HX := Lib.hid hx
      clear hx hlm hgd hin
      cases hw : wrB op with
      | true =>
        go_wp2_with fail
        refine writes_any op d a b _ _ ?_
        intro w6 hg6
        rw [hw]
        have HG6 := Lib.hid (HGL.out.trans hg6)
        clear hg6
        go_wp2_with fail
        go_roundw
        case rel => exact ⟨k + 1, by omega, by go_num, HG6.out, any_take_succ HA.out HX.out (by rw [HGD.out, hw]; rfl)⟩
        case measure => simp [intOf]; omega
      | false =>
        have hE := HE.out
        rw [any_atI HX.out (f := fun l => !wrB (p.getD l.toNat default).op) (by rw [HGD.out, hw]; rfl), if_pos rfl] at hE
        have hM : frcM p s lines values = [] := by unfold frcM; rw [hE]; exact ifOK_err (by decide) _
        have HRR := HR.out
        rw [hE, hM] at HRR
        have HR2 := Lib.hid HRR
        clear HRR HR hE hM
        go_wp2_with fail
        refine writes_any op d a b _ _ ?_
        intro w6 hg6
        rw [hw]
        have HG6 := Lib.hid (HG5.out.trans hg6)
        clear hg6
        go_wp2_with fail
        exact HR2.out _ _ HG6.out (SlcAt.nil _ _ _)
    · have hE := HE.out
      rw [any_of_take HA.out (by omega), if_neg (by simp)] at hE
      have hM : frcM p s lines values = (trc p (frc lines values) 0 (St.ofL s)).2.toL := by unfold frcM; rw [hE]; rfl
      have HRR := HR.out
      rw [hE, hM] at HRR
      have HR2 := Lib.hid HRR
      clear HRR HR hE hM
      obtain ⟨q, hq, hqf⟩ := St.of_valS (chk_ok.1 HCK.out).2
      have hvf : ∀ n ∈ values, -999 ≤ n ∧ n ≤ 999 := fun n hn => by
        have := List.any_eq_false.1 HVAL.out n hn
        simp at this
        exact inB_true.1 this
      have HVF := Lib.hid hvf
      have HQ := Lib.hid hq
      clear hvf hq
      have hfb : ForcedBy 132 #[.pointer (some ⟨w.heap.size + 1, 0, none⟩), .pointer (some ⟨w.heap.size + 2, 0, none⟩)] wr p.length (frc lines values) := by
        intro i W _ hgW R hR
        have e : (#[.int .i64 (i : Int)] ++ #[.pointer (some ⟨w.heap.size + 1, 0, none⟩), .pointer (some ⟨w.heap.size + 2, 0, none⟩)] : Array Value) = #[.int .i64 (i : Int), .pointer (some ⟨w.heap.size + 1, 0, none⟩), .pointer (some ⟨w.heap.size + 2, 0, none⟩)] := rfl
        rw [e]
        exact force3_any lines values i HASC.out HN.out HLEN.out _ _ la va lc vc W (hgW.cell b6) (hgW.cell b7) (HL.out.grow (HG5.out.trans hgW)) (HV.out.grow (HG5.out.trans hgW)) R hR
      have HFB := Lib.hid hfb
      clear hfb
      have hqs : IntsAt wr (.slice sa s.length sc) q.toL := by rw [HQ.out]; exact HS.out.grow HG5.out
      have HQS := Lib.hid hqs
      clear hqs
      go_wp2_with fail
      refine run_any 132 #[.pointer (some ⟨w.heap.size + 1, 0, none⟩), .pointer (some ⟨w.heap.size + 2, 0, none⟩)] (enters_of Tryz.func132 (by kernel_rfl) rfl) (frc lines values) p q _ _ _ (HP.out.grow HG5.out) HQS.out hp8 (valP_ok.1 (chk_ok.1 HCK.out).1).2 hqf
        HFB.out (fun i n h => HVF.out n (frcN_mem _ (by rw [HLEN.out]; exact Nat.le_refl _) h)) _ ?_
      intro w6 x hg6 _
      have hst : St.ofL s = q := by rw [← HQ.out]; rfl
      have HF0 := HR2.out
      rw [hst] at HF0
      have HF := Lib.hid HF0
      have HG6 := Lib.hid (HG5.out.trans hg6)
      clear HF0 hst hg6 HR2
      generalize (trc p (frc lines values) 0 q).2 = q2 at HF ⊢
      unfold arrS
      go_wp2_with fail
      refine HF.out _ _ (HG6.out.alloc _) ?_
      exact slc_of_owns encI_len (xs := q2.toL) (World.ownsRow_lit (base := w6.heap.size) (e := 116) w6 (arrS q2) 4 (Nat.le_refl _) (by simp [maxLen]) rfl)
end Go.Proofs.YtmlbgfnddgbpbaaGreat
