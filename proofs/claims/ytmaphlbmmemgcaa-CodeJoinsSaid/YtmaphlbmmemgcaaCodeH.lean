/- The walk of code.Slice: lines are met from the last one back. -/
import Derived.Test.YtmaphlbmmemgcaaCodeG
namespace Go.Proofs.Ytmaphlbmmemgcaa
open Go.RowKit
open Go.Sort (Holds putRow grow heap_grow_old holds_putRow holds_grow holds_ahead)

attribute [local go_sem] Oper.semAt_some

/-- Where a walk back stands: the program in the box bp, the registers that matter in bm, the slice so far in the box bo. -/
structure SlI (w : World) (B bp bm bo : Nat) (pv : Value) (acc : Ms × List Int) (W : World) : Prop where
  bel : Below w.heap.size w W
  hp : W.heap[bp]? = some (.cells #[pv] 22 (0, 0))
  hm : W.heap[bm]? = some (.cells (arrM acc.1) 72 (0, 0))
  ho : ∃ v, W.heap[bo]? = some (.cells #[v] 23 (0, 0)) ∧ W.ownsRow B 3 1 v acc.2.length (acc.2.flatMap encI)
  sz : B ≤ W.heap.size

theorem SlI.own (w : World) (B bp bm bo : Nat) (pv : Value) {β : Type} (f : β → Ms × List Int) (hw : w.heap.size ≤ B) : OwnFrom B (fun s W => SlI w B bp bm bo pv (f s) W) := by
  intro s W W' row h hg hr
  have key : ∀ (k : Nat) (cs : Array Value) (t : TypeId) (x : Nat × Nat), W.heap[k]? = some (.cells cs t x) → W'.heap[k]? = some (.cells cs t x) := by
    intro k cs t x hk
    refine (hg.block k (Array.getElem?_eq_some_iff.1 hk).1 (fun e => ?_)).trans hk
    obtain ⟨_, o', ho', hc⟩ := hr k e.symm
    rw [hk] at ho'; cases ho'; cases hc
  obtain ⟨v, hv, hown⟩ := h.ho
  refine ⟨ownFrom_below (β := Unit) (Nat.le_refl _) hw () W W' row h.bel hg hr, key _ _ _ _ h.hp, key _ _ _ _ h.hm, ⟨v, key _ _ _ _ hv, hown.kept hg ?_⟩, Nat.le_trans h.sz hg.size⟩
  rcases hown.2 with ⟨rfl, _⟩ | ⟨g, cap, cur, rfl, _, hgb, _⟩
  · exact .inl rfl
  · refine .inr fun e' => ?_
    obtain ⟨_, o, ho, hc⟩ := hr g (by simpa [Value.ownBlock] using e'.symm)
    rw [hgb] at ho; cases ho; cases hc

theorem SlI.grow {w : World} {B bp bm bo : Nat} {pv : Value} {acc : Ms × List Int} {W W' : World} (h : SlI w B bp bm bo pv acc W) (g : Grow W W') (hw : w.heap.size ≤ B) : SlI w B bp bm bo pv acc W' :=
  let ⟨v, hv, hown⟩ := h.ho
  ⟨Below.of_grow h.bel g (Nat.le_trans hw h.sz), g.blk h.hp, g.blk h.hm, ⟨v, g.blk hv, g.owns hown⟩, Nat.le_trans h.sz g.sz⟩
theorem SlI.set {w : World} {B bp bm bo : Nat} {pv : Value} {acc : Ms × List Int} {W : World} (h : SlI w B bp bm bo pv acc W) (r : Int) (n : Bool) (h0 : 0 ≤ r) (h3 : r ≤ 3) (hwm : w.heap.size ≤ bm) (h1 : bm ≠ bp) (h2 : bm ≠ bo) (h4 : bm < B) :
    SlI w B bp bm bo pv (acc.1.set r n, acc.2) (W.setCell ⟨bm, r.toNat, none⟩ (.bool n)) := by
  obtain ⟨v, hv, hown⟩ := h.ho
  refine ⟨Below.setCell h.bel hwm _, ?_, arrM_set h.hm r n h0 h3, ⟨v, ?_, ownsRow_setCell_below hown (by simpa using h4) _⟩, by rw [World.size_setCell]; exact h.sz⟩
  · rw [Below.heap_setCell _ _ _ _ (by simpa using h1.symm)]; exact h.hp
  · rw [Below.heap_setCell _ _ _ _ (by simpa using h2.symm)]; exact hv
/-- What a round does to the world, as the loop's law asks it. -/
def Stp (B Bs b : Nat) (W W' : World) : Prop := KeepsFrom B W W' ∧ KeepAt Bs b W W'
theorem Stp.refl (B Bs b : Nat) (W : World) : Stp B Bs b W W := ⟨KeepsFrom.refl _ _, KeepAt.refl _ _ _⟩
theorem Stp.trans {B Bs b : Nat} {X Y Z : World} (h : Stp B Bs b X Y) (k : Stp B Bs b Y Z) : Stp B Bs b X Z := ⟨h.1.trans k.1, h.2.trans k.2⟩
theorem Stp.grow {B Bs b : Nat} {X Y : World} (g : Grow X Y) (h1 : Bs < X.heap.size) (h2 : b < X.heap.size) : Stp B Bs b X Y :=
  ⟨⟨g.sz, fun _ _ _ hk _ => g.blk hk⟩, KeepAt.of_grow g h1 h2⟩
theorem Stp.set {B Bs b : Nat} {X : World} (c : Nat) (i : Nat) (v : Value) (h1 : c ≠ Bs) (h2 : c ≠ b) : Stp B Bs b X (X.setCell ⟨c, i, none⟩ v) :=
  ⟨(KeepsOthers.setCell X _ v).from _, by rw [Below.heap_setCell _ _ _ _ (by simpa using h1.symm)], by rw [Below.heap_setCell _ _ _ _ (by simpa using h2.symm)]⟩

/-- The list of visits lies in a block of its own. -/
theorem Own.at {α : Type} {k : Nat} {enc : α → List Value} (hk : ∀ x, (enc x).length = k) {base : Nat} {w : World} {v : Value} {xs : List α} (h : Own k enc base w v xs) :
    ∃ a c b, v = .slice a xs.length c ∧ (xs ≠ [] → a = some ⟨b, 0, none⟩) ∧ (xs ≠ [] → base ≤ b ∧ b < w.heap.size) ∧ ∀ j x, xs[j]? = some x → ∀ i u, (enc x)[i]? = some u → w.cell? ⟨b, 0 + j * k + i, none⟩ = some u := by
  obtain ⟨a, c, h1, h2, h3, h4⟩ := h.slc hk
  obtain ⟨e, he⟩ := h
  rcases he.2 with ⟨rfl, h0⟩ | ⟨g, cap, cur, rfl, hb, hh, hn, hm, hcs, htake⟩
  · have : xs = [] := List.eq_nil_of_length_eq_zero h0
    subst this
    exact ⟨none, 0, 0, rfl, fun h => absurd rfl h, fun h => absurd rfl h, fun j x hj => by simp at hj⟩
  · cases h1
    rcases h4 with ⟨rfl, _⟩ | ⟨b, o, e1, hb2, hc⟩
    · exact ⟨_, _, g, rfl, fun h => absurd rfl h, fun h => absurd rfl h, fun j x hj => by simp at hj⟩
    · cases e1
      exact ⟨_, _, g, rfl, fun _ => rfl, fun _ => ⟨hb, lt_of_block hh⟩, hc⟩

theorem wpListIn_app {F : Fence} {nf : Nat} {P : Program} {α : Type} (w : World) {ops : Array Oper} {rest : List Oper} {o : Oper} {a : Act} {Q : Exit → Act → World → Prop} (hgd : o.guard = none) (s x : Operand) (t : TypeId)
    (ho : o.op = .call { callee := .builtin .append, args := #[s, x], argTypes := #[t, t] })
    (base : Nat) (e : TypeId) {k bytes : Nat} {z : Value} (ht : P.underlying t = some (.slice e)) (info : (P.info? e).map (fun i => (i.zero, i.size, i.bytes)) = some (some z, k, bytes))
    (hzs : z.cells.size = k) (hk : 0 < k) (hby : bytes ≤ 1000)
    (enc : α → List Value) (hen : ∀ x, (enc x).length = k) (h1 : ∀ x, ∀ u ∈ enc x, u.oneCell' = true)
    (v : Value) (xs : List α) (hs : a.eval s = v) (hown : w.ownsRow base e k v xs.length (xs.flatMap enc)) (ad : Addr) (y : α) (c : Nat) (hx : a.eval x = .slice (some ad) 1 c)
    (hnews : ∀ j u, (enc y)[j]? = some u → w.cell? (ad.add j) = some u) (hn : xs.length < 100000000000) (hbase : base ≤ w.heap.size)
    (h : ∀ v' w', w'.ownsRow base e k v' (xs.length + 1) ((xs ++ [y]).flatMap enc) → w.grownBy w' v.ownBlock → wpListIn F nf P ops Q rest (a.put o.dst v') w') : wpListIn F nf P ops Q (o :: rest) a w := by
  obtain ⟨i, hi, hz0, hz1, hz2⟩ := info_parts info
  refine wpListIn_append_own w hgd s x t ho base e i z k bytes ht hi hz0 hz1 hz2 hzs hk v xs.length (xs.flatMap enc) hs hown ad 1 c (enc y) hx (by rw [hen]; omega) hnews (h1 y) (by unfold maxLen; omega) ?_ hbase ?_
  · exact Nat.le_trans (Nat.mul_le_mul (show xs.length + 1 ≤ 100000000000 by omega) hby) (by decide)
  · intro v' w' a1 a2 _
    refine h v' w' ?_ a2
    rw [List.flatMap_append]
    simpa using a1

theorem holds_of_owns {w : World} {base e g cap : Nat} {xs : List Int} (h : w.ownsRow base e 1 (.slice (some ⟨g, 0, none⟩) xs.length cap) xs.length (xs.flatMap encI)) : Holds (Value.int .i64) w g 0 xs.toArray := by
  refine holds_int ?_ ?_
  · intro j x hj
    have hlt : j < xs.length := (List.getElem?_eq_some_iff.1 hj).1
    have h1 := World.ownsRow.cellAt (w := w) (base := base) (e := e) (size := 1) (g := g) (n := xs.length) (cap := cap) h j (by omega)
    rw [Nat.zero_add, h1]
    have h2 := flatMap_getElem? encI_len xs j x hj 0 (by omega)
    simpa [encI] using h2
  · intro j hj
    rcases h.2 with ⟨h0, _⟩ | ⟨g', cap', cur, h0, _, hgb, _⟩
    · cases h0
    · cases h0; simp [World.frozen?, hgb]

theorem SlI.app {w : World} {B Bs b bp bm bo : Nat} {pv : Value} {acc : Ms × List Int} {W Wa w5 : World} (h : SlI w B bp bm bo pv acc W) (ga : Grow W Wa) {v v' : Value} {y : Int}
    (hv : W.heap[bo]? = some (.cells #[v] 23 (0, 0))) (hown : W.ownsRow B 3 1 v acc.2.length (acc.2.flatMap encI))
    (hown' : w5.ownsRow B 3 1 v' (acc.2.length + 1) ((acc.2 ++ [y]).flatMap encI)) (hg : Wa.grownBy w5 v.ownBlock)
    (h1 : w.heap.size ≤ bo) (h2 : bp ≠ bo) (h3 : bm ≠ bo) (h4 : Bs ≠ bo) (h5 : b ≠ bo) (k1 : bp < B) (k2 : bm < B) (k3 : bo < B) (k4 : Bs < B) (k5 : b < B) (hw : w.heap.size ≤ B) :
    w5.heap[bo]? = some (.cells #[v] 23 (0, 0)) ∧ SlI w B bp bm bo pv (acc.1, acc.2 ++ [y]) (w5.setCell ⟨bo, 0, none⟩ v') ∧ Stp B Bs b W (w5.setCell ⟨bo, 0, none⟩ v') := by
  have hz := h.sz
  have hza := ga.sz
  have keep : ∀ {j : Nat} {o : Obj}, j < B → W.heap[j]? = some o → w5.heap[j]? = some o := fun hj ho => grown_keep hown hg hj (ga.blk ho)
  have key : ∀ {j : Nat}, j < B → w5.heap[j]? = W.heap[j]? := by
    intro j hj
    obtain ⟨o, ho⟩ : ∃ o, W.heap[j]? = some o := ⟨_, Array.getElem?_eq_getElem (by omega)⟩
    rw [ho]; exact keep hj ho
  have hb5 : Below w.heap.size w w5 := grown_below hown hg hw (by omega) (Below.of_grow h.bel ga (by omega))
  have hbx := keep k3 hv
  have hz5 : B ≤ w5.heap.size := by have := hg.size; omega
  refine ⟨hbx, ⟨Below.setCell hb5 h1 _, ?_, ?_, ⟨v', ?_, ?_⟩, by rw [World.size_setCell]; exact hz5⟩, ⟨?_, ?_, ?_⟩⟩
  · rw [Below.heap_setCell _ _ _ _ (by simpa using h2)]; exact keep k1 h.hp
  · rw [Below.heap_setCell _ _ _ _ (by simpa using h3)]; exact keep k2 h.hm
  · rw [heap_setCell_same w5 bo _ _ _ _ hbx]; rfl
  · simpa using ownsRow_setCell_below hown' (by simpa using k3) v'
  · refine (KeepsFrom.trans (⟨ga.sz, fun _ _ _ hk _ => ga.blk hk⟩ : KeepsFrom B W Wa) ?_).trans ((KeepsOthers.setCell w5 _ v').from _)
    refine (KeepsOthers.of_grownBy hg fun j o ej hj => ?_).from _
    rcases (ga.owns hown).2 with ⟨rfl, _⟩ | ⟨g, cap, cur, rfl, _, hgb, _⟩
    · simp [Value.ownBlock] at ej
    · obtain rfl : g = j := by simpa [Value.ownBlock] using ej
      rw [hgb] at hj; cases hj; rfl
  · rw [Below.heap_setCell _ _ _ _ (by simpa using h4)]; exact key k4
  · rw [Below.heap_setCell _ _ _ _ (by simpa using h5)]; exact key k5

set_option maxRecDepth 100000 in
set_option maxHeartbeats 4000000 in
theorem Slice_any (p : List Ln) (s : List Int) (r : Int) (v u : Value) (w : World) (hp : LinesAt w v p) (hs : IntsAt w u s) (R : Ending → World → Prop)
    (hR : ∀ w' x, Grow w w' → IntsAt w' x (ifOK (sliceE p s r) (sliceM p s r)) → R (.returned (.tuple #[x, .int .i64 (sliceE p s r)])) w') :
    Calls Try.prog 18 #[v, u, .int .i64 r] w R := by
  have HP := Lib.hid hp
  have HS := Lib.hid hs
  have HR := Lib.hid hR
  obtain ⟨pa, pc, rfl, hp1, hp2, _⟩ := hp
  clear hs hR
  by_cases h : chk p s = 0
  · have H := Lib.hid h
    by_cases hin : inB r 0 3 = true
    · have hbe : sliceE p s r = 0 := by simp [sliceE, h, hin]
      have HRR := HR.out
      rw [hbe, ifOK_ok] at HRR
      have HR2 := Lib.hid HRR
      obtain ⟨r0, r3⟩ := inB_true.1 hin
      have hr4 : r < 4 := by omega
      clear HRR HR hbe h
      refine (callsIn_wide (n := 5)).1 ?_
      refine callsIn_of_wp_marks Try.func18 rfl trivial ?_ rfl
      simp only [Try.ntmps18, List.size_toArray, List.length_cons, List.length_nil, Nat.reduceAdd, Nat.reduceSub, Array.replicate_succ, Array.replicate_zero, List.push_toArray, List.append_toArray, List.nil_append, List.cons_append]
      gi_wp2_with fail
      refine ⟨trivial, callsIn_wide.2 (check_any p s _ _ _ (HP.out.grow ((Grow.refl w).alloc _)) (HS.out.grow ((Grow.refl w).alloc _)) _ ?_)⟩
      intro w1 hg1
      rw [H.out]
      have HG1 := Lib.hid hg1
      have hbp := hg1.blk (heap_alloc_new w (.cells #[.slice pa p.length pc] 22))
      have e0 := hg1.cell (a := ⟨w.heap.size, 0, none⟩) (v := .slice pa p.length pc) (by simp)
      have hz1 : w.heap.size < w1.heap.size := by have := hg1.sz; simp at this; omega
      clear hg1
      gi_wp2_with fail
      refine ⟨trivial, callsIn_wide.2 (isRegister_any _ _ _ ?_)⟩
      unfold inB at hin ⊢
      rw [hin]
      gi_wp2_with fail
      obtain ⟨w2, hw2⟩ : ∃ w2, (w1.alloc (.cells ([Value.bool false, Value.bool false, Value.bool false, Value.bool false].set r.toNat (Value.bool true)).toArray 72)) = w2 := ⟨_, rfl⟩
      have hbm : w2.heap[w1.heap.size]? = some (.cells (arrM (Ms.set ⟨false, false, false, false⟩ r true)) 72 (0, 0)) := by
        rw [← hw2, heap_alloc_new]
        have : r = 0 ∨ r = 1 ∨ r = 2 ∨ r = 3 := by omega
        rcases this with rfl | rfl | rfl | rfl <;> rfl
      have hg2 : Grow w1 w2 := hw2 ▸ (Grow.refl w1).alloc _
      have hz2 : w1.heap.size < w2.heap.size := by rw [← hw2]; simp
      rw [hw2]
      clear hw2
      have hg02 := (((Grow.refl w).alloc _).trans HG1.out).trans hg2
      refine ⟨trivial, callsIn_wide.2 (run0_any p s _ _ _ (HP.out.grow hg02) (HS.out.grow hg02) H.out _ ?_)⟩
      intro w3 x hg3 hown
      have hvl := visits_length p s
      have hvlt := visits_lt p s
      have hvl8 := (valP_ok.1 (chk_ok.1 H.out).1).1
      have hlok := (valP_ok.1 (chk_ok.1 H.out).1).2
      generalize (trc p noF 0 (St.ofL s)).2 = q
      unfold arrS
      unfold sliceM at HR2
      generalize visits p s = vs at hown hvl HR2 hvlt
      obtain ⟨a, c, b0, rfl, ha0, hb0, hc0⟩ := hown.at encV_len
      obtain ⟨b, ha, hc, hbb⟩ : ∃ b, (vs ≠ [] → a = some ⟨b, 0, none⟩) ∧ (∀ j x, vs[j]? = some x → ∀ i u, (encV x)[i]? = some u → w3.cell? ⟨b, 0 + j * 5 + i, none⟩ = some u) ∧ (b = w3.heap.size + 1 + 1 ∨ (w2.heap.size ≤ b ∧ b < w3.heap.size)) := by
        by_cases hv : vs = []
        · subst hv
          exact ⟨w3.heap.size + 1 + 1, fun h => absurd rfl h, fun j x hj => by simp at hj, .inl rfl⟩
        · exact ⟨b0, ha0, hc0, .inr (hb0 hv)⟩
      clear ha0 hb0 hc0
      have hz3 := hg3.sz
      have hg03 := hg02.trans hg3
      have hbp3 := (hg2.trans hg3).blk hbp
      have hbm3 := hg3.blk hbm
      have HG03 := Lib.hid hg03
      have HC := Lib.hid hc
      have HBP3 := Lib.hid hbp3
      have HBM3 := Lib.hid hbm3
      have HLOK := Lib.hid hlok
      have HVLT := Lib.hid hvlt
      clear hg2 hg02 hg3 hown hg03 hc e0 hbp hbm hbp3 hbm3 hlok hvlt
      gi_wp2_with fail
      refine ⟨trivial, callsIn_wide.2 (backward_any _ _ _ _ _ ?_)⟩
      gi_wp2_with fail
      have hB0 : w.heap.size ≤ w3.heap.size + 3 := by omega
      obtain ⟨W0, hW0⟩ : ∃ W0, (((w3.alloc (.cells #[.int .i64 q.r0, .int .i64 q.r1, .int .i64 q.r2, .int .i64 q.r3] 75)).alloc (.cells #[.slice none 0 0] 23)).alloc (.cells #[.slice a vs.length c] 73)) = W0 := ⟨_, rfl⟩
      have hg3W : Grow w3 W0 := hW0 ▸ (((Grow.refl w3).alloc _).alloc _).alloc _
      have hsz0 : W0.heap.size = w3.heap.size + 3 := by rw [← hW0]; simp
      have hout0 : W0.heap[w3.heap.size + 1]? = some (.cells #[.slice none 0 0] 23 (0, 0)) := by rw [← hW0]; exact ((Grow.refl _).alloc _).blk (heap_two1 _ _ _)
      have hBs0 : W0.cell? ⟨w3.heap.size + 1 + 1, 0, none⟩ = some (.slice a vs.length c) := by
        have hn := heap_alloc_new ((w3.alloc (.cells #[.int .i64 q.r0, .int .i64 q.r1, .int .i64 q.r2, .int .i64 q.r3] 75)).alloc (.cells #[.slice none 0 0] 23)) (.cells #[.slice a vs.length c] 73)
        rw [World.size_alloc, World.size_alloc, hW0] at hn
        simp [World.cell?, hn]
      have hI0 : SlI w (w3.heap.size + 3) w.heap.size w1.heap.size (w3.heap.size + 1) (.slice pa p.length pc) (Ms.set ⟨false, false, false, false⟩ r true, []) W0 :=
        ⟨HG03.out.trans hg3W, hg3W.blk HBP3.out, hg3W.blk HBM3.out, ⟨_, hout0, World.ownsRow_nil _ _ _ _⟩, by omega⟩
      have HI0 := Lib.hid hI0
      have HG3W := Lib.hid hg3W
      rw [hW0]
      clear hW0 hI0 hg3W hout0
      have hbl : b < W0.heap.size := by omega
      have hstops := back_stops 4 (by omega) (w3.heap.size + 1 + 1) b 0 vs a c (by omega) ha W0 hBs0 (fun _ => hbl) (fun j x hx i u hu => HG3W.out.cell (HC.out j x hx i u hu))
      have HST := Lib.hid hstops
      clear hstops
      refine wpIn_rangeFunc_ownH rfl (by omega) (gf := 90) (lb := #[.pointer (some ⟨w3.heap.size + 1 + 1, 0, none⟩)]) rfl trivial (enters_of Try.func90 (by kernel_rfl) rfl)
        (encs := fun (j : Fin vs.length) => #[.int .i64 ((vs.length - 1 - j.1 : Nat) : Int), .agg #[.int .i64 (vAt vs j).1, .int .i64 (vAt vs j).2.r0, .int .i64 (vAt vs j).2.r1, .int .i64 (vAt vs j).2.r2, .int .i64 (vAt vs j).2.r3]])
        HST.out (fun h k => KeepAt.trans h k) ?keepb (Below.refl _ _) (fun _ => rfl)
        (fun pre W => SlI w (w3.heap.size + 3) w.heap.size w1.heap.size (w3.heap.size + 1) (.slice pa p.length pc) (backAcc p vs (Ms.set ⟨false, false, false, false⟩ r true) pre) W)
        (fun _ _ _ => False)
        (hsz0 ▸ SlI.own w (w3.heap.size + 3) _ _ _ _ _ hB0)
        (fun _ _ _ _ _ hs _ _ => hs)
        (by simpa [backAcc] using HI0.out)
        (fun j a' W => ∃ Bx, w3.heap.size + 3 ≤ Bx ∧ W.heap[Bx]? = some (.cells #[.int .i64 (vAt vs j).1, .int .i64 (vAt vs j).2.r0, .int .i64 (vAt vs j).2.r1, .int .i64 (vAt vs j).2.r2, .int .i64 (vAt vs j).2.r3] 83 (0, 0)) ∧ a' = { tmps := #[.slice pa p.length pc, u, .int .i64 r, .pointer (some ⟨w.heap.size, 0, none⟩), undef, undef, .slice none 0 0, .int .i64 0, .int .i64 0, .pointer (some ⟨w1.heap.size, 0, none⟩), .slice a vs.length c, .pointer (some ⟨w3.heap.size, 0, none⟩), .pointer (some ⟨w3.heap.size + 1, 0, none⟩), undef, .pointer (some ⟨Bx, 0, none⟩), undef, undef, undef, undef, .slice pa p.length pc, u, .int .i64 0, .int .i64 0, .bool false, undef, .int .i64 r, .bool true, .bool false, .int .i64 r, .pointer (some ⟨w1.heap.size, r.toNat, none⟩), .tuple #[.slice a vs.length c, .agg #[.int .i64 q.r0, .int .i64 q.r1, .int .i64 q.r2, .int .i64 q.r3]], .slice pa p.length pc, u, .tuple #[.slice a vs.length c, .agg #[.int .i64 q.r0, .int .i64 q.r1, .int .i64 q.r2, .int .i64 q.r3]], .slice a vs.length c, .agg #[.int .i64 q.r0, .int .i64 q.r1, .int .i64 q.r2, .int .i64 q.r3], .slice a vs.length c, .func (.func 90) #[] #[.pointer (some ⟨w3.heap.size + 1 + 1, 0, none⟩)], .int .i64 ((vs.length - 1 - j.1 : Nat) : Int), .agg #[.int .i64 (vAt vs j).1, .int .i64 (vAt vs j).2.r0, .int .i64 (vAt vs j).2.r1, .int .i64 (vAt vs j).2.r2, .int .i64 (vAt vs j).2.r3], undef, undef, undef, undef, undef, undef, undef, undef, undef, undef, undef, undef, undef, undef, undef, undef, undef, undef, undef, undef, undef, undef, undef, undef, undef, undef, undef, undef, undef, undef, undef, undef, undef, undef, undef, undef, undef, undef, undef, undef, undef, undef, undef, undef, undef, undef, undef, undef, undef, undef, undef], defers := [] })
        ?ax ?assign ?body ?done ?stop
      case keepb =>
        intro W l o o' hl ho _ _
        refine ⟨?_, ?_⟩
        · exact World.putObj_heap_other (by omega)
        · exact World.putObj_heap_other (by omega)
      case ax =>
        rintro j a' s W W' row ⟨Bx, h1, h2, h3⟩ hg hr
        refine ⟨Bx, h1, (hg.block Bx (Array.getElem?_eq_some_iff.1 h2).1 (fun e => ?_)).trans h2, h3⟩
        obtain ⟨_, o', ho', hc'⟩ := hr Bx e.symm
        rw [h2] at ho'; cases ho'; cases hc'
      case assign =>
        rintro l pre j W K hI hK
        generalize hvx : vAt vs j = x at hK ⊢
        obtain ⟨ln, st⟩ := x
        have HK := Lib.hid hK
        have HI := Lib.hid hI
        clear hK hI
        gi_wp2_with fail
        have hz := HI.out.sz
        have hst := Stp.grow (B := W0.heap.size) (Bs := w3.heap.size + 1 + 1) (b := b) ((Grow.refl W).alloc (.cells #[.int .i64 ln, .int .i64 st.r0, .int .i64 st.r1, .int .i64 st.r2, .int .i64 st.r3] 83)) (by omega) (by omega)
        exact HK.out _ _ hst.1 hst.2 (HI.out.grow ((Grow.refl W).alloc _) hB0) ⟨W.heap.size, hz, heap_alloc_new _ _, rfl⟩
      case body =>
        rintro l pre j a' W _ _ hI ⟨Bx, hBx, hX, rfl⟩ hpl
        have hvm : (vAt vs j) ∈ vs := List.getElem_mem _
        have hll := HVLT.out _ hvm
        have hal := backAcc_len p vs (Ms.set ⟨false, false, false, false⟩ r true) pre
        have hgoal : ∀ W', SlI w (w3.heap.size + 3) w.heap.size w1.heap.size (w3.heap.size + 1) (.slice pa p.length pc) (sliceStep p (backAcc p vs (Ms.set ⟨false, false, false, false⟩ r true) pre) (vAt vs j)) W' →
            SlI w (w3.heap.size + 3) w.heap.size w1.heap.size (w3.heap.size + 1) (.slice pa p.length pc) (backAcc p vs (Ms.set ⟨false, false, false, false⟩ r true) (pre ++ [j])) W' := fun W' h => by rw [backAcc_snoc]; exact h
        have HG := Lib.hid hgoal
        clear hgoal hvm
        generalize backAcc p vs (Ms.set ⟨false, false, false, false⟩ r true) pre = acc at hI hal HG
        generalize vAt vs j = x at hll HG hX ⊢
        obtain ⟨ln, st⟩ := x
        obtain ⟨ms, xs⟩ := acc
        obtain ⟨⟨op, d, ar, br⟩, hl⟩ : ∃ l, p[ln]? = some l := ⟨_, List.getElem?_eq_getElem hll⟩
        have hok := HLOK.out _ (List.mem_of_getElem? hl)
        obtain ⟨pa', pc', hpe, _, _, hpd⟩ := HP.out
        cases hpe
        obtain ⟨b', o', rfl, hb', hc'⟩ := hpd.resolve_left (by intro h; simp [h.1] at hll)
        obtain ⟨c0, c1, c2, c3⟩ := lines_cell hc' ln _ _ _ _ hl
        have hgw : Grow w W := hI.bel
        have g0 := hgw.cell c0
        have g1 := hgw.cell c1
        have g2 := hgw.cell c2
        have g3 := hgw.cell c3
        have hz := hI.sz
        have hx0 : W.cell? ⟨Bx, 0, none⟩ = some (.int .i64 (ln : Int)) := by simp [World.cell?, hX]
        have hpb : W.cell? ⟨w.heap.size, 0, none⟩ = some (.slice (some ⟨b', o', none⟩) p.length pc) := by simp [World.cell?, hI.hp]
        have hlt : ln < p.length := hll
        have hxl : xs.length ≤ pre.length := hal
        have HI := Lib.hid hI
        have HX := Lib.hid hX
        have HL := Lib.hid hl
        have HOK := Lib.hid hok
        clear hI hX hl hok c0 c1 c2 c3 hgw hc' hpd
        gi_wp2_with fail
        refine ⟨trivial, CallsIn.inRound l (callsIn_wide.2 (writes_any op d ar br _ _ ?_))⟩
        intro w4 hg4
        obtain ⟨o0, o7, od, ord⟩ := ok_rd HOK.out
        have hpb4 := hg4.cell hpb
        have hx4 := hg4.cell hx0
        have k0 := hg4.cell g0
        have k1 := hg4.cell g1
        have k2 := hg4.cell g2
        have k3 := hg4.cell g3
        have HI4 := Lib.hid (HI.out.grow hg4 hB0)
        have HX4 := Lib.hid (hg4.blk HX.out)
        have hz4 := HI4.out.sz
        have HS4 := Lib.hid (Stp.grow (B := W0.heap.size) (Bs := w3.heap.size + 1 + 1) (b := b) hg4 (by omega) (by omega))
        clear hg4 hx0 hpb g0 g1 g2 g3 HI HX
        by_cases hw : wrB op = true
        · obtain ⟨d0, d3⟩ := od hw
          have hop7 : op ≠ 7 := by rintro rfl; simp [wrB, inB_def] at hw
          rw [show wrT op d = d by simp [wrT, hw], hw]
          have t1 : (op == 7) = false := by simpa using hop7
          have t2 : (op != 7) = true := by simpa using hop7
          have d4 : d < 4 := by omega
          have hmc := arrM_cell HI4.out.hm d d0 d3
          dsimp only at hmc
          by_cases hmg : ms.get d = true
          · rw [hmg] at hmc
            have hmf := arrM_free HI4.out.hm d.toNat
            have hst : sliceStep p (ms, xs) (ln, st) = ((rdL op ar br).foldl (fun m r => m.set r true) (ms.set d false), xs ++ [(ln : Int)]) := by
              simp [sliceStep, HL.out, hop7, hmg, hw]
            gi_wp2_with fail
            have HI5 := Lib.hid (HI4.out.set d false d0 d3 (by omega) (by omega) (by omega) (by omega))
            have HS5 := Lib.hid (HS4.out.trans (Stp.set (B := W0.heap.size) (Bs := w3.heap.size + 1 + 1) (b := b) (X := w4) w1.heap.size d.toNat (.bool false) (by omega) (by omega)))
            have HX5 := Lib.hid (show (w4.setCell ⟨w1.heap.size, d.toNat, none⟩ (.bool false)).heap[Bx]? = _ from (Below.heap_setCell _ _ _ _ (by simp; omega)).trans HX4.out)
            obtain ⟨w5, hw5⟩ : ∃ w5, w4.setCell ⟨w1.heap.size, d.toNat, none⟩ (.bool false) = w5 := ⟨_, rfl⟩
            rw [hw5] at HI5 HS5 HX5 ⊢
            have hz5 := HI5.out.sz
            clear HI4 HX4 HS4 hpb4 hx4 k0 k1 k2 k3
            refine ⟨trivial, CallsIn.inRound l (callsIn_wide.2 (reads_any op d ar br _ o0 o7 _ ?_))⟩
            intro w6 x hg6 hrd hnew
            rw [hst] at HG
            have HI6 := Lib.hid (HI5.out.grow hg6 hB0)
            have HX6 := Lib.hid (hg6.blk HX5.out)
            have HS6 := Lib.hid (HS5.out.trans (Stp.grow (B := W0.heap.size) (Bs := w3.heap.size + 1 + 1) (b := b) hg6 (by omega) (by omega)))
            obtain ⟨rl, hrl⟩ : ∃ rl, rdL op ar br = rl := ⟨_, rfl⟩
            rw [hrl] at hrd HG ord
            obtain ⟨ax, cx, rfl, q1, q2, q3⟩ := hrd
            have hz6 := hg6.sz
            have HO := Lib.hid ord
            clear hg6 HI5 HX5 HS5 hrl ord
            gi_wp2_with fail
            gi_loopw [76] (fun i wr => ∃ k : Nat, k ≤ rl.length ∧ i = .int .i64 k ∧ SlI w (w3.heap.size + 3) w.heap.size w1.heap.size (w3.heap.size + 1) (.slice (some ⟨b', o', none⟩) p.length pc) ((rl.take k).foldl (fun m r => m.set r true) (ms.set d false), xs) wr ∧ Stp W0.heap.size (w3.heap.size + 1 + 1) b W wr ∧ ∀ bq, w3.heap.size + 3 ≤ bq → wr.heap[bq]? = w6.heap[bq]?) (fun i _ => rl.length - (intOf i).toNat)
            case atStart => exact ⟨0, Nat.zero_le _, rfl, HI6.out, HS6.out, fun _ _ => rfl⟩
            case round =>
              obtain ⟨k, hk, rfl, hI, hS, hq⟩ := hrel
              by_cases hlt2 : k < rl.length
              · replace q3 := q3.resolve_left (by intro h; simp [h.1] at hlt2)
                obtain ⟨bq, oq, rfl, hbq, hcq⟩ := q3
                have hnb : w3.heap.size + 3 ≤ bq := by have := hnew _ _ _ rfl; dsimp only at this; omega
                obtain ⟨rg, hrg⟩ : ∃ l, rl[k]? = some l := ⟨_, List.getElem?_eq_getElem hlt2⟩
                have f0 := cell_of_heap (hq bq hnb) (ints_cell hcq k rg hrg)
                obtain ⟨rg0, rg3⟩ := HO.out rg (List.mem_of_getElem? hrg)
                have rg4 : rg < 4 := by omega
                have hmc2 := arrM_cell hI.hm rg rg0 rg3
                have hfr2 := arrM_free hI.hm rg.toNat
                have hI2 := hI.set rg true rg0 rg3 (by omega) (by omega) (by omega) (by omega)
                have htk : rl.take (k + 1) = rl.take k ++ [rg] := by rw [List.take_add_one, hrg]; rfl
                have hfold : (rl.take (k + 1)).foldl (fun m r => m.set r true) (ms.set d false) = ((rl.take k).foldl (fun m r => m.set r true) (ms.set d false)).set rg true := by rw [htk, List.foldl_append]; rfl
                rw [← hfold] at hI2
                have hS2 := hS.trans (Stp.set (B := W0.heap.size) (Bs := w3.heap.size + 1 + 1) (b := b) (X := wr) w1.heap.size rg.toNat (.bool true) (by omega) (by omega))
                have HI2 := Lib.hid hI2
                have HS2 := Lib.hid hS2
                have HQ := Lib.hid hq
                clear hI hS hq hI2 hS2 htk hfold hcq
                gi_wp2_with fail
                go_roundw
                case rel =>
                  refine ⟨k + 1, by omega, by go_num, HI2.out, HS2.out, fun b2 hb2 => ?_⟩
                  rw [Below.heap_setCell _ _ _ _ (by simp; omega)]; exact HQ.out b2 hb2
                case measure => simp [intOf]; omega
              · have hke : k = rl.length := by omega
                subst hke
                rw [List.take_length] at hI
                have hXr := (hq Bx hBx).trans HX6.out
                have hxr : wr.cell? ⟨Bx, 0, none⟩ = some (.int .i64 (ln : Int)) := by simp [World.cell?, hXr]
                obtain ⟨vo, hvo, hown⟩ := hI.ho
                dsimp only at hown
                have hvc : wr.cell? ⟨w3.heap.size + 1, 0, none⟩ = some vo := by simp [World.cell?, hvo]
                have hzr := hI.sz
                have HIr := Lib.hid hI
                have HSr := Lib.hid hS
                have HVO := Lib.hid hvo
                have HOW := Lib.hid hown
                clear hI hS hq hXr hvo hown q3
                gi_wp2_with (gi_at_builtin; refine Classical.byContradiction (fun hcon => ?_))
                refine hcon ?_
                clear hcon
                refine wpListIn_app _ rfl (.tmp 83) (.tmp 86) 23 rfl (w3.heap.size + 3) 3 Try.underlying23 info_int rfl (by decide) (by decide) encI encI_len encI_one vo xs rfl (World.ownsRow.alloc HOW.out _) ⟨wr.heap.size, 0, none⟩ (ln : Int) 1 rfl (news_one _ (encI ln) _) (by omega) (by simp; omega) ?_
                intro v7 w7 hown7 hgr7
                obtain ⟨hb7, hI7, hS7⟩ := HIr.out.app (Bs := w3.heap.size + 1 + 1) (b := b) ((Grow.refl wr).alloc _) HVO.out HOW.out hown7 hgr7 (by omega) (by omega) (by omega) (by omega) (by omega) (by omega) (by omega) (by omega) (by omega) (by omega) hB0
                obtain ⟨g7, cap7, rfl⟩ := ownsRow_succ hown7
                have hc7 : w7.cell? ⟨w3.heap.size + 1, 0, none⟩ = some vo := by simp [World.cell?, hb7]
                have hf7 : w7.frozen? ⟨w3.heap.size + 1, 0, none⟩ = false := by simp [World.frozen?, hb7]
                have HI7 := Lib.hid hI7
                have HS7 := Lib.hid hS7
                clear hown7 hgr7 hb7 hI7 hS7
                gi_wp2_with fail
                have hs7 := HS7.out
                rw [← hsz0] at hs7
                have hss := HSr.out.trans hs7
                exact ⟨by first | exact hss.1 | (rw [← hsz0]; exact hss.1), hss.2, HG.out _ HI7.out⟩
          · replace hmg : ms.get d = false := by simpa using hmg
            rw [hmg] at hmc
            have hst : sliceStep p (ms, xs) (ln, st) = (ms, xs) := by
              simp [sliceStep, HL.out, hop7, hmg]
            rw [hst] at HG
            gi_wp2_with fail
            exact ⟨HS4.out.1, HS4.out.2, HG.out _ HI4.out⟩
        · replace hw : wrB op = false := by simpa using hw
          rw [show wrT op d = 0 by simp [wrT, hw], hw]
          by_cases h7 : op = 7
          · subst h7
            have hst : sliceStep p (ms, xs) (ln, st) = ((rdL 7 ar br).foldl (fun m r => m.set r true) ms, xs ++ [(ln : Int)]) := by
              simp [sliceStep, HL.out, hw]
            gi_wp2_with fail
            have HI5 := HI4
            have HS5 := HS4
            have HX5 := HX4
            have hz5 := HI5.out.sz
            clear HI4 HX4 HS4 hpb4 hx4 k0 k1 k2 k3
            refine ⟨trivial, CallsIn.inRound l (callsIn_wide.2 (reads_any 7 d ar br _ o0 o7 _ ?_))⟩
            intro w6 x hg6 hrd hnew
            rw [hst] at HG
            have HI6 := Lib.hid (HI5.out.grow hg6 hB0)
            have HX6 := Lib.hid (hg6.blk HX5.out)
            have HS6 := Lib.hid (HS5.out.trans (Stp.grow (B := W0.heap.size) (Bs := w3.heap.size + 1 + 1) (b := b) hg6 (by omega) (by omega)))
            obtain ⟨rl, hrl⟩ : ∃ rl, rdL 7 ar br = rl := ⟨_, rfl⟩
            rw [hrl] at hrd HG ord
            obtain ⟨ax, cx, rfl, q1, q2, q3⟩ := hrd
            have hz6 := hg6.sz
            have HO := Lib.hid ord
            clear hg6 HI5 HX5 HS5 hrl ord
            gi_wp2_with fail
            gi_loopw [76] (fun i wr => ∃ k : Nat, k ≤ rl.length ∧ i = .int .i64 k ∧ SlI w (w3.heap.size + 3) w.heap.size w1.heap.size (w3.heap.size + 1) (.slice (some ⟨b', o', none⟩) p.length pc) ((rl.take k).foldl (fun m r => m.set r true) (ms), xs) wr ∧ Stp W0.heap.size (w3.heap.size + 1 + 1) b W wr ∧ ∀ bq, w3.heap.size + 3 ≤ bq → wr.heap[bq]? = w6.heap[bq]?) (fun i _ => rl.length - (intOf i).toNat)
            case atStart => exact ⟨0, Nat.zero_le _, rfl, HI6.out, HS6.out, fun _ _ => rfl⟩
            case round =>
              obtain ⟨k, hk, rfl, hI, hS, hq⟩ := hrel
              by_cases hlt2 : k < rl.length
              · replace q3 := q3.resolve_left (by intro h; simp [h.1] at hlt2)
                obtain ⟨bq, oq, rfl, hbq, hcq⟩ := q3
                have hnb : w3.heap.size + 3 ≤ bq := by have := hnew _ _ _ rfl; dsimp only at this; omega
                obtain ⟨rg, hrg⟩ : ∃ l, rl[k]? = some l := ⟨_, List.getElem?_eq_getElem hlt2⟩
                have f0 := cell_of_heap (hq bq hnb) (ints_cell hcq k rg hrg)
                obtain ⟨rg0, rg3⟩ := HO.out rg (List.mem_of_getElem? hrg)
                have rg4 : rg < 4 := by omega
                have hmc2 := arrM_cell hI.hm rg rg0 rg3
                have hfr2 := arrM_free hI.hm rg.toNat
                have hI2 := hI.set rg true rg0 rg3 (by omega) (by omega) (by omega) (by omega)
                have htk : rl.take (k + 1) = rl.take k ++ [rg] := by rw [List.take_add_one, hrg]; rfl
                have hfold : (rl.take (k + 1)).foldl (fun m r => m.set r true) (ms) = ((rl.take k).foldl (fun m r => m.set r true) (ms)).set rg true := by rw [htk, List.foldl_append]; rfl
                rw [← hfold] at hI2
                have hS2 := hS.trans (Stp.set (B := W0.heap.size) (Bs := w3.heap.size + 1 + 1) (b := b) (X := wr) w1.heap.size rg.toNat (.bool true) (by omega) (by omega))
                have HI2 := Lib.hid hI2
                have HS2 := Lib.hid hS2
                have HQ := Lib.hid hq
                clear hI hS hq hI2 hS2 htk hfold hcq
                gi_wp2_with fail
                go_roundw
                case rel =>
                  refine ⟨k + 1, by omega, by go_num, HI2.out, HS2.out, fun b2 hb2 => ?_⟩
                  rw [Below.heap_setCell _ _ _ _ (by simp; omega)]; exact HQ.out b2 hb2
                case measure => simp [intOf]; omega
              · have hke : k = rl.length := by omega
                subst hke
                rw [List.take_length] at hI
                have hXr := (hq Bx hBx).trans HX6.out
                have hxr : wr.cell? ⟨Bx, 0, none⟩ = some (.int .i64 (ln : Int)) := by simp [World.cell?, hXr]
                obtain ⟨vo, hvo, hown⟩ := hI.ho
                dsimp only at hown
                have hvc : wr.cell? ⟨w3.heap.size + 1, 0, none⟩ = some vo := by simp [World.cell?, hvo]
                have hzr := hI.sz
                have HIr := Lib.hid hI
                have HSr := Lib.hid hS
                have HVO := Lib.hid hvo
                have HOW := Lib.hid hown
                clear hI hS hq hXr hvo hown q3
                gi_wp2_with (gi_at_builtin; refine Classical.byContradiction (fun hcon => ?_))
                refine hcon ?_
                clear hcon
                refine wpListIn_app _ rfl (.tmp 83) (.tmp 86) 23 rfl (w3.heap.size + 3) 3 Try.underlying23 info_int rfl (by decide) (by decide) encI encI_len encI_one vo xs rfl (World.ownsRow.alloc HOW.out _) ⟨wr.heap.size, 0, none⟩ (ln : Int) 1 rfl (news_one _ (encI ln) _) (by omega) (by simp; omega) ?_
                intro v7 w7 hown7 hgr7
                obtain ⟨hb7, hI7, hS7⟩ := HIr.out.app (Bs := w3.heap.size + 1 + 1) (b := b) ((Grow.refl wr).alloc _) HVO.out HOW.out hown7 hgr7 (by omega) (by omega) (by omega) (by omega) (by omega) (by omega) (by omega) (by omega) (by omega) (by omega) hB0
                obtain ⟨g7, cap7, rfl⟩ := ownsRow_succ hown7
                have hc7 : w7.cell? ⟨w3.heap.size + 1, 0, none⟩ = some vo := by simp [World.cell?, hb7]
                have hf7 : w7.frozen? ⟨w3.heap.size + 1, 0, none⟩ = false := by simp [World.frozen?, hb7]
                have HI7 := Lib.hid hI7
                have HS7 := Lib.hid hS7
                clear hown7 hgr7 hb7 hI7 hS7
                gi_wp2_with fail
                have hs7 := HS7.out
                rw [← hsz0] at hs7
                have hss := HSr.out.trans hs7
                exact ⟨by first | exact hss.1 | (rw [← hsz0]; exact hss.1), hss.2, HG.out _ HI7.out⟩
          · have t1 : (op == 7) = false := by simpa using h7
            have t2 : (op != 7) = true := by simpa using h7
            have hst : sliceStep p (ms, xs) (ln, st) = (ms, xs) := by
              simp [sliceStep, HL.out, h7, hw]
            rw [hst] at HG
            gi_wp2_with fail
            exact ⟨HS4.out.1, HS4.out.2, HG.out _ HI4.out⟩
      case done =>
        rintro D ys W hD rfl hI hK
        rw [backAcc_all] at hI
        have HRR := HR2.out
        generalize hacc : vs.reverse.foldl (sliceStep p) (Ms.set ⟨false, false, false, false⟩ r true, []) = acc at hI HRR
        obtain ⟨ms, xs⟩ := acc
        obtain ⟨vo, hvo, hown⟩ := hI.ho
        dsimp only at hown HRR
        have hxl : xs.length ≤ 8 := by
          have h1 := backAcc_len p vs (Ms.set ⟨false, false, false, false⟩ r true) (List.finRange vs.length)
          rw [backAcc_all, hacc, List.length_finRange] at h1
          dsimp only at h1
          omega
        have hvc : W.cell? ⟨w3.heap.size + 1, 0, none⟩ = some vo := by simp [World.cell?, hvo]
        have hz := hI.sz
        have hbel := hI.bel
        have HBEL := Lib.hid hbel
        have HRX := Lib.hid HRR
        clear HRR hI hacc HR2 hbel
        rcases hown.2 with ⟨rfl, h0⟩ | ⟨g, cap, cur, rfl, hgB, hgb, hn, hm, hcs, htake⟩
        · have : xs = [] := List.eq_nil_of_length_eq_zero h0
          subst this
          gi_wp2_with fail
          refine ⟨trivial, callsIn_wide.2 ((Try.slices_Reverse_int_empty none 0 W).mono ?_)⟩
          rintro e w' ⟨rfl, rfl⟩
          gi_wp2_with fail
          refine ⟨by simp, .inl ⟨_, _, rfl, run_takeDeferred hK, ?_⟩⟩
          refine ⟨_, results_tmp2 rfl _ _ _, ?_⟩
          have hfin := HRX.out _ _ (HBEL.out.trans (belowK_b (w := w) (Nat.le_refl _) _ D _ (.deferred none) (by omega) hK rfl rfl)) (SlcAt.nil _ _ _)
          go_simp
          exact hfin
        · have hH := holds_of_owns hown
          have hgd : g ≠ D := by rintro rfl; rw [hgb] at hK; cases hK
          have HH := Lib.hid hH
          have HVO := Lib.hid hvo
          have HK := Lib.hid hK
          have hgl := lt_of_block hgb
          clear hH hvo hK hown hcs htake hgb
          gi_wp2_with fail
          refine ⟨trivial, callsIn_wide.2 ((Try.slices_Reverse_int g 0 cap xs W HH.out (by omega)).mono ?_)⟩
          rintro e w' ⟨rfl, n, rfl⟩
          have hz' : (putRow (Value.int .i64) (Sort.ahead W n) g 0 xs.reverse.toArray).heap.size = W.heap.size := by simp
          have hkeep : ∀ k, k ≠ g → (putRow (Value.int .i64) (Sort.ahead W n) g 0 xs.reverse.toArray).heap[k]? = W.heap[k]? := by
            intro k hk
            show (W.heap.modify g _)[k]? = _
            rw [Array.getElem?_modify, if_neg (by omega)]
          have hH2 := holds_putRow (Value.int .i64) (Sort.ahead W n) g 0 xs.toArray xs.reverse.toArray (holds_ahead _ _ n _ _ _ HH.out) (by simp)
          have hb2 := below_putRow (Value.int .i64) W n g 0 xs.reverse.toArray (show w.heap.size ≤ g by omega)
          have hvo2 := (hkeep (w3.heap.size + 1) (by omega)).trans HVO.out
          have hK2 := (hkeep D (by omega)).trans HK.out
          generalize putRow (Value.int .i64) (Sort.ahead W n) g 0 xs.reverse.toArray = W8 at hz' hkeep hH2 hb2 hvo2 hK2 ⊢
          have hvc2 : W8.cell? ⟨w3.heap.size + 1, 0, none⟩ = some (.slice (some ⟨g, 0, none⟩) xs.length cap) := by simp [World.cell?, hvo2]
          have hK3 : (W8.putObj D (.deferred none)).heap[g]? = W8.heap[g]? := World.putObj_heap_other (by omega)
          have hi : IntsAt (W8.putObj D (.deferred none)) (.slice (some ⟨g, 0, none⟩) xs.reverse.length cap) xs.reverse := by
            refine ints_of_holds ?_ ?_ (by simpa using hn) (by simpa [maxLen] using hm)
            · intro j hj
              obtain ⟨h1, h2⟩ := hH2 j hj
              refine ⟨?_, ?_⟩
              · simp only [World.cell?, hK3] at h1 ⊢; exact h1
              · simp only [World.frozen?, hK3] at h2 ⊢; exact h2
            · exact Nat.lt_of_lt_of_le (by omega) (belowK_b (w := w) (Nat.le_refl _) W8 D _ (.deferred none) (by omega) hK2 rfl rfl).size
          rw [List.length_reverse] at hi
          have HIX := Lib.hid hi
          have HKK := Lib.hid hK2
          have HB2 := Lib.hid hb2
          clear hi hK2 hb2 hH2 hkeep hvo2 HH HK HVO
          gi_wp2_with fail
          refine ⟨by simp, .inl ⟨_, _, rfl, run_takeDeferred HKK.out, ?_⟩⟩
          refine ⟨_, results_tmp2 rfl _ _ _, ?_⟩
          have hfin := HRX.out _ _ ((HBEL.out.trans HB2.out).trans (belowK_b (w := w) (Nat.le_refl _) _ D _ (.deferred none) (by omega) HKK.out rfl rfl)) HIX.out
          go_simp
          exact hfin
      case stop =>
        rintro D c' pre W _ _ h _
        exact h.elim
    · replace hin : inB r 0 3 = false := by simpa using hin
      have hbe : sliceE p s r = 1 := by simp [sliceE, h, hin]
      have HRR := HR.out
      rw [hbe, ifOK_err (by decide)] at HRR
      have HR2 := Lib.hid HRR
      clear HRR HR hbe h
      go_enter Try.func18, Try.ntmps18
      go_wp2_with fail
      refine check_any p s _ _ _ (HP.out.grow ((Grow.refl w).alloc _)) (HS.out.grow ((Grow.refl w).alloc _)) _ ?_
      intro w1 hg1
      rw [H.out]
      go_wp2_with fail
      refine isRegister_any _ _ _ ?_
      rw [hin]
      go_wp2_with fail
      exact HR2.out _ _ (((Grow.refl w).alloc _).trans hg1) (SlcAt.nil _ _ _)
  · have hbe : sliceE p s r = chk p s := by simp [sliceE, h]
    have HRR := HR.out
    rw [hbe, ifOK_err h] at HRR
    generalize he : chk p s = e at h HRR
    have H := Lib.hid he
    have HR2 := Lib.hid HRR
    clear HRR HR hbe he
    have hb : (e == 0) = false := by simpa using h
    have hb2 : (e != 0) = true := by simpa using h
    go_enter Try.func18, Try.ntmps18
    go_wp2_with fail
    refine check_any p s _ _ _ (HP.out.grow ((Grow.refl w).alloc _)) (HS.out.grow ((Grow.refl w).alloc _)) _ ?_
    intro w1 hg1
    rw [H.out]
    go_wp2_with fail
    exact HR2.out _ _ (((Grow.refl w).alloc _).trans hg1) (SlcAt.nil _ _ _)
end Go.Proofs.Ytmaphlbmmemgcaa
