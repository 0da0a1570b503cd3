/-
How a bench lies in memory: its own block changes, its lists never do.
The walks of the state's small methods: program, failing, breaks.
The walk of breaks: does a program fail a locked test?
The walks of the library's Clone on the lists that a bench holds.
-/
import Derived.Test.YtihdpbfhkddpcaaGreatDoorG21
import Derived.Test.YtihdpbfhkddpcaaGreatDoorG23
import Derived.Test.YtihdpbfhkddpcaaGreatDoorG16
import Derived.Test.YtihdpbfhkddpcaaGreatDoorG03
namespace Go.Proofs.YtihdpbfhkddpcaaGreatDoor
open Go.RowKit

/-- A test without its place in memory. -/
def noV (t : Tst) : Tst := { t with v := .nilIface }
/-- A test as it lies in a list: its place is a slice. -/
structure Tq where
  a : Option Addr
  n : Nat
  c : Nat
  xs : List Int
  o : Int
  wt : Int
def Tq.t (q : Tq) : Tst := ⟨.slice q.a q.n q.c, q.xs, q.o, q.wt⟩
def encTq (q : Tq) : List Value := [.slice q.a q.n q.c, .int .i64 q.o, .int .i64 q.wt]
theorem encTq_len (q : Tq) : (encTq q).length = 3 := rfl
theorem encTq_one (q : Tq) : ∀ u ∈ encTq q, u.oneCell' = true := by
  intro u hu
  unfold encTq at hu
  simp only [List.mem_cons, List.not_mem_nil, or_false] at hu
  rcases hu with rfl | rfl | rfl <;> rfl
/-- A list of tests, and what each holds. -/
structure TqAt (w : World) (v : Value) (T : List Tq) : Prop where
  at_ : SlcAt 3 encTq w v T
  ins : ∀ q ∈ T, IntsAt w (.slice q.a q.n q.c) q.xs
theorem TqAt.grow {w w' : World} {v : Value} {T : List Tq} (h : TqAt w v T) (g : Grow w w') : TqAt w' v T := ⟨h.at_.grow g, fun q hq => (h.ins q hq).grow g⟩
theorem TqAt.unhide {H : Nat → Bool} {w : World} {v : Value} {T : List Tq} (h : TqAt (hideW H w) v T) : TqAt w v T := ⟨h.at_.unhide, fun q hq => (h.ins q hq).unhide⟩
theorem TqAt.nil (w : World) : TqAt w (.slice none 0 0) [] := ⟨SlcAt.nil _ _ _, by simp⟩
theorem TqAt.tests {w : World} {v : Value} {T : List Tq} (h : TqAt w v T) : TestsAt w v (T.map Tq.t) := by
  obtain ⟨a, c, h1, h2, h3, h4⟩ := h.at_
  refine ⟨⟨a, c, by rw [List.length_map]; exact h1, by rw [List.length_map]; exact h2, h3, ?_⟩, fun t ht => ?_⟩
  · rcases h4 with ⟨h4, h5⟩ | ⟨b, o, e, hb, hc⟩
    · exact .inl ⟨by rw [h4]; rfl, h5⟩
    · refine .inr ⟨b, o, e, hb, fun j x hx i u hu => ?_⟩
      rw [List.getElem?_map] at hx
      cases hq : T[j]? with
      | none => rw [hq] at hx; cases hx
      | some q =>
        rw [hq] at hx
        obtain rfl := Option.some.inj hx
        exact hc j q hq i u hu
  · obtain ⟨q, hq, rfl⟩ := List.mem_map.1 ht
    exact h.ins q hq
/-- A test without its place. -/
def Tq.p (q : Tq) : Tst := ⟨.nilIface, q.xs, q.o, q.wt⟩
theorem noV_t (T : List Tq) : (T.map Tq.t).map noV = T.map Tq.p := by rw [List.map_map]; rfl
/-- Where the lists of a state lie, and how much room they have. -/
structure V5 where
  pa : Option Addr
  pc : Nat
  ha : Option Addr
  hc : Nat
  ta : Option Addr
  tc : Nat
  la : Option Addr
  lc : Nat
  oa : Option Addr
  oc : Nat
/-- The lists of a state. -/
structure StAt (w : World) (V : V5) (s : Bn) : Prop where
  pr : ∃ L : List (Lo Ln), LlAt 4 encL w (.slice V.pa s.progs.length V.pc) L ∧ L.map Lo.x = s.progs
  hi : ∃ L : List (Lo Ed), LlAt 5 encE w (.slice V.ha s.hist.length V.hc) L ∧ L.map Lo.x = s.hist
  ts : ∃ T : List Tq, TqAt w (.slice V.ta s.tests.length V.tc) T ∧ T.map Tq.p = s.tests
  lk : IntsAt w (.slice V.la s.lk.length V.lc) s.lk
  od : TextsAt w (.slice V.oa s.orders.length V.oc) s.orders
theorem StAt.grow {w w' : World} {V : V5} {s : Bn} (h : StAt w V s) (g : Grow w w') : StAt w' V s :=
  ⟨let ⟨L, a, b⟩ := h.pr; ⟨L, a.grow g, b⟩, let ⟨L, a, b⟩ := h.hi; ⟨L, a.grow g, b⟩, let ⟨L, a, b⟩ := h.ts; ⟨L, a.grow g, b⟩, h.lk.grow g, h.od.grow g⟩
theorem StAt.unhide {H : Nat → Bool} {w : World} {V : V5} {s : Bn} (h : StAt (hideW H w) V s) : StAt w V s :=
  ⟨let ⟨L, a, b⟩ := h.pr; ⟨L, a.unhide, b⟩, let ⟨L, a, b⟩ := h.hi; ⟨L, a.unhide, b⟩, let ⟨L, a, b⟩ := h.ts; ⟨L, a.unhide, b⟩, h.lk.unhide, h.od.unhide⟩
/-- Only the block B has changed. -/
def Chg (B : Nat) (w w' : World) : Prop := Grow (hideW (fun k => k == B) w) (hideW (fun k => k == B) w')
theorem Chg.sz {B : Nat} {w w' : World} (h : Chg B w w') : w.heap.size ≤ w'.heap.size := by have := Grow.sz h; rwa [hide_size, hide_size] at this
theorem Chg.of_grow {B : Nat} {w w' : World} (g : Grow w w') : Chg B w w' := g.hid _
theorem Chg.trans {B : Nat} {a b c : World} (h : Chg B a b) (k : Chg B b c) : Chg B a c := Grow.trans h k
theorem Chg.blk {B : Nat} {w w' : World} (h : Chg B w w') {k : Nat} (hk : k ≠ B) {o : Obj} (ho : w.heap[k]? = some o) : w'.heap[k]? = some o := by
  have hf : (k == B) = false := by simpa using hk
  have h1 : (hideW (fun k => k == B) w).heap[k]? = some o := by rw [hide_off (H := fun k => k == B) hf]; exact ho
  have h2 := Grow.blk h h1
  rwa [hide_off (H := fun k => k == B) hf] at h2
theorem Chg.hide {B : Nat} {w w' : World} (h : Chg B w w') {H : Nat → Bool} (hB : H B = true) : Grow (hideW H w) (hideW H w') := by
  have h0 : Below (hideW (fun k => k == B) w).heap.size (hideW (fun k => k == B) w) (hideW (fun k => k == B) w') := h
  refine ⟨h0.os, h0.tape, h0.output, by rw [hide_size, hide_size]; exact h.sz, fun k hk => ?_⟩
  rw [hide_size] at hk
  rw [hide_heap, hide_heap]
  obtain ⟨o, ho⟩ : ∃ o, w.heap[k]? = some o := ⟨_, Array.getElem?_eq_getElem hk⟩
  by_cases hkB : k = B
  · subst hkB
    rw [hB]
    have : k < w'.heap.size := Nat.lt_of_lt_of_le hk h.sz
    rw [ho, Array.getElem?_eq_getElem this]; rfl
  · rw [h.blk hkB ho, ho]
theorem Chg.setCell {B : Nat} {w w' : World} (h : Chg B w w') (o : Nat) (v : Value) : Chg B w (w'.setCell ⟨B, o, none⟩ v) := by
  unfold Chg
  rw [hide_setCell (H := fun k => k == B) (a := ⟨B, o, none⟩) (by simp)]
  exact h
/-- What lies outside the changed block. -/
structure Hidden (H : Nat → Bool) (B : Nat) (w : World) : Prop where
  hH : H B = true
  bd : ∀ k, H k = true → k < w.heap.size
  noq : NoQ H w
theorem Hidden.grow {H : Nat → Bool} {B : Nat} {w w' : World} (h : Hidden H B w) (g : Grow w w') : Hidden H B w' := ⟨h.hH, fun k hk => Nat.lt_of_lt_of_le (h.bd k hk) g.sz, h.noq.grow g h.bd⟩
theorem Hidden.new {H : Nat → Bool} {B : Nat} {w : World} (h : Hidden H B w) : ∀ b, w.heap.size ≤ b → H b = false := fun b hb => by
  cases hh : H b with
  | false => rfl
  | true => have := h.bd b hh; omega
/-- The cells of a state. -/
def stCells (V : V5) (s : Bn) : Array Value := #[.slice V.pa s.progs.length V.pc, .slice V.ha s.hist.length V.hc, .slice V.ta s.tests.length V.tc, .slice V.la s.lk.length V.lc, .int .i64 s.fixes, .int .i64 s.checks, .slice V.oa s.orders.length V.oc]
structure SAt (H : Nat → Bool) (N : Nat) (w : World) (s : Bn) : Prop where
  hid : Hidden H N w
  blk : ∃ V, w.heap[N]? = some (.cells (stCells V s) 73 (0, 0)) ∧ StAt (hideW H w) V s
theorem SAt.grow {H : Nat → Bool} {N : Nat} {w w' : World} {s : Bn} (h : SAt H N w s) (g : Grow w w') : SAt H N w' s :=
  ⟨h.hid.grow g, let ⟨V, h1, h2⟩ := h.blk; ⟨V, g.blk h1, h2.grow (g.hid H)⟩⟩
/-- The cells of a bench: the lock, and the state. -/
def bnCells (V : V5) (s : Bn) : Array Value := #[.int .i32 0, .int .u32 0, .slice V.pa s.progs.length V.pc, .slice V.ha s.hist.length V.hc, .slice V.ta s.tests.length V.tc, .slice V.la s.lk.length V.lc, .int .i64 s.fixes, .int .i64 s.checks, .slice V.oa s.orders.length V.oc]
structure BnAt (H : Nat → Bool) (B : Nat) (w : World) (s : Bn) : Prop where
  hid : Hidden H B w
  blk : ∃ V, w.heap[B]? = some (.cells (bnCells V s) 75 (0, 0)) ∧ StAt (hideW H w) V s
theorem BnAt.grow {H : Nat → Bool} {B : Nat} {w w' : World} {s : Bn} (h : BnAt H B w s) (g : Grow w w') : BnAt H B w' s :=
  ⟨h.hid.grow g, let ⟨V, h1, h2⟩ := h.blk; ⟨V, g.blk h1, h2.grow (g.hid H)⟩⟩
/-- Another bench has changed. -/
theorem BnAt.chg {H : Nat → Bool} {B N : Nat} {w w' : World} {s : Bn} (h : BnAt H B w s) (g : Chg N w w') (hN : N ≠ B) (hH : H N = true) (hq : NoQ H w') : BnAt H B w' s :=
  ⟨⟨h.hid.hH, fun k hk => Nat.lt_of_lt_of_le (h.hid.bd k hk) g.sz, hq⟩, let ⟨V, h1, h2⟩ := h.blk; ⟨V, g.blk (fun e => hN e.symm) h1, h2.grow (g.hide hH)⟩⟩
/-- In every four cells of a block there is one that is no number. -/
theorem noq_cells {B : Nat} {w : World} {cs : Array Value} {T : TypeId} {r : Nat × Nat} (hb : w.heap[B]? = some (.cells cs T r)) (hc : ∀ o, ∃ i : Nat, i < 4 ∧ ∀ n : Int, cs[o + i]? ≠ some (.int .i64 n)) : ∀ o, ∃ i : Nat, i < 4 ∧ ∀ n : Int, w.cell? ⟨B, o + i, none⟩ ≠ some (.int .i64 n) := by
  intro o
  obtain ⟨i, hi, hn⟩ := hc o
  refine ⟨i, hi, fun n => ?_⟩
  unfold World.cell?
  rw [hb]
  exact hn n
theorem noq_st (V : V5) (s : Bn) : ∀ o, ∃ i : Nat, i < 4 ∧ ∀ n : Int, (stCells V s)[o + i]? ≠ some (.int .i64 n) := by
  intro o
  rcases o with _ | _ | _ | _ | _ | _ | _ | o
  · exact ⟨0, by decide, fun n => by simp [stCells]⟩
  · exact ⟨0, by decide, fun n => by simp [stCells]⟩
  · exact ⟨0, by decide, fun n => by simp [stCells]⟩
  · exact ⟨0, by decide, fun n => by simp [stCells]⟩
  · exact ⟨2, by decide, fun n => by simp [stCells]⟩
  · exact ⟨1, by decide, fun n => by simp [stCells]⟩
  · exact ⟨0, by decide, fun n => by simp [stCells]⟩
  · exact ⟨0, by decide, fun n => by simp [stCells]⟩
theorem noq_bn (V : V5) (s : Bn) : ∀ o, ∃ i : Nat, i < 4 ∧ ∀ n : Int, (bnCells V s)[o + i]? ≠ some (.int .i64 n) := by
  intro o
  rcases o with _ | _ | _ | _ | _ | _ | _ | _ | _ | o
  · exact ⟨0, by decide, fun n => by simp [bnCells]⟩
  · exact ⟨0, by decide, fun n => by simp [bnCells]⟩
  · exact ⟨0, by decide, fun n => by simp [bnCells]⟩
  · exact ⟨0, by decide, fun n => by simp [bnCells]⟩
  · exact ⟨0, by decide, fun n => by simp [bnCells]⟩
  · exact ⟨0, by decide, fun n => by simp [bnCells]⟩
  · exact ⟨2, by decide, fun n => by simp [bnCells]⟩
  · exact ⟨1, by decide, fun n => by simp [bnCells]⟩
  · exact ⟨0, by decide, fun n => by simp [bnCells]⟩
  · exact ⟨0, by decide, fun n => by simp [bnCells]⟩
/-- The blocks of the others have not changed either: still no four numbers. -/
theorem NoQ.chg {H : Nat → Bool} {B : Nat} {w w' : World} (h : NoQ H w) (g : Chg B w w') (bd : ∀ k, H k = true → k < w.heap.size) (hb : ∀ o, ∃ i : Nat, i < 4 ∧ ∀ n : Int, w'.cell? ⟨B, o + i, none⟩ ≠ some (.int .i64 n)) : NoQ H w' := by
  intro b o hH
  by_cases e : b = B
  · subst e; exact hb o
  · obtain ⟨i, hi, hn⟩ := h b o hH
    refine ⟨i, hi, fun n => ?_⟩
    have hlt := bd b hH
    obtain ⟨x, hx⟩ : ∃ x, w.heap[b]? = some x := ⟨_, Array.getElem?_eq_getElem hlt⟩
    rw [World.cell?_of_block (w := w) (w' := w') (a := ⟨b, o + i, none⟩) ((g.blk e hx).trans hx.symm)]
    exact hn n
end Go.Proofs.YtihdpbfhkddpcaaGreatDoor

namespace Go.Proofs.YtihdpbfhkddpcaaGreatDoor
open Go.RowKit

/-! ### Tests without their places -/
theorem valT_noV (ts : List Tst) : valT (ts.map noV) = valT ts := by
  unfold valT
  rw [List.length_map, List.all_map]
  rfl
theorem chkT_noV (p : List Ln) (ts : List Tst) : chkT p (ts.map noV) = chkT p ts := by unfold chkT; rw [valT_noV]
theorem whereL_map {α β : Type} (f : β → Bool) (g : α → β) (ts : List α) : whereL f (ts.map g) = whereL (fun t => f (g t)) ts := by
  unfold whereL
  rw [List.length_map]
  congr 1
  funext k
  rw [List.getElem?_map]
  cases ts[k]? <;> rfl
theorem failB_noV (p : List Ln) (ts : List Tst) : failB p (ts.map noV) = failB p ts := by
  unfold failB
  rw [chkT_noV, whereL_map]
  rfl


set_option maxHeartbeats 2000000 in
theorem containsFI_any (f : Nat) (cb : Array Value) (eg : Enters Tryz.prog f) (pr : Int → Bool) (Inv : World → Prop) (hI : ∀ W W', Inv W → Grow W W' → Inv W') (hp : PredW f cb pr Inv) (xs : List Int) (v : Value) (w : World) (hv : IntsAt w v xs) (hi : Inv w) (R : Ending → World → Prop)
    (hR : ∀ w', Grow w w' → R (.returned (.bool (xs.any pr))) w') :
    Calls Tryz.prog 67 #[v, .func (.func f) #[] cb] w R := by
  have HV := Lib.hid hv
  have HR := Lib.hid hR
  obtain ⟨va, vc, rfl, v1, v2, jk⟩ := hv
  clear hR jk
  go_enter Tryz.func67, Tryz.ntmps67
  go_wp2_with fail
  refine indexFI_any f cb eg pr Inv hI hp xs _ _ HV.out hi _ ?_ ?_
  · intro w1 k x hg1 hx hpx _
    have hr := HR.out w1 hg1
    rw [List.any_eq_true.2 ⟨x, List.mem_of_getElem? hx, hpx⟩] at hr
    have HF := Lib.hid hr
    have hk0 : (0 : Int) ≤ (k : Int) := by omega
    clear hr hg1 hx hpx
    go_wp2_with fail
    exact HF.out
  · intro w1 hg1 hno
    have hr := HR.out w1 hg1
    rw [show xs.any pr = false by rw [List.any_eq_false]; intro y hy; rw [hno y hy]; simp] at hr
    have HF := Lib.hid hr
    clear hr hg1 hno
    go_wp2_with fail
    exact HF.out


/-- What the world has behind a state that was laid in a box. -/
theorem st_cells {w : World} {N : Nat} {V : V5} {s : Bn} {T : TypeId} (hb : w.heap[N]? = some (.cells (stCells V s) T (0, 0))) :
    w.cell? ⟨N, 0, none⟩ = some (.slice V.pa s.progs.length V.pc) ∧ w.cell? ⟨N, 1, none⟩ = some (.slice V.ha s.hist.length V.hc) ∧ w.cell? ⟨N, 2, none⟩ = some (.slice V.ta s.tests.length V.tc) ∧ w.cell? ⟨N, 3, none⟩ = some (.slice V.la s.lk.length V.lc) ∧ w.cell? ⟨N, 4, none⟩ = some (.int .i64 s.fixes) ∧ w.cell? ⟨N, 5, none⟩ = some (.int .i64 s.checks) ∧ w.cell? ⟨N, 6, none⟩ = some (.slice V.oa s.orders.length V.oc) := by
  unfold World.cell?
  rw [hb]
  exact ⟨rfl, rfl, rfl, rfl, rfl, rfl, rfl⟩

set_option maxHeartbeats 2000000 in
theorem program_any (H : Nat → Bool) (V : V5) (s : Bn) (w : World) (h : StAt (hideW H w) V s) (hne : s.progs ≠ []) (R : Ending → World → Prop)
    (hR : ∀ w' v, Grow w w' → LinesAt (hideW H w') v s.prog → R (.returned v) w') :
    Calls Tryz.prog 37 #[.agg (stCells V s)] w R := by
  obtain ⟨L, hL, hLx⟩ := h.pr
  have hl : L.length = s.progs.length := by rw [← hLx]; simp
  obtain ⟨k, hk⟩ : ∃ k, s.progs.length = k + 1 := ⟨s.progs.length - 1, by have := List.length_pos_iff.2 hne; omega⟩
  obtain ⟨t, ht⟩ : ∃ t, L[k]? = some t := ⟨_, List.getElem?_eq_getElem (by omega)⟩
  have hx : t.x = s.prog := by
    unfold Bn.prog
    rw [hk, Nat.add_sub_cancel, ← hLx, List.getElem?_map, ht]; rfl
  have hat := hL.unhide.at_
  have hkm := hat.len_le
  rw [hl, hk] at hkm
  have hv := hL.ins t (List.mem_of_getElem? ht)
  rw [hx] at hv
  have hbx := heap_alloc_new w (.cells (stCells V s) 73)
  have hgx := (Grow.refl w).alloc (.cells (stCells V s) 73)
  obtain ⟨c0, _⟩ := st_cells hbx
  obtain ⟨b, o, hpa, hb, e0⟩ := lo_at (hat.grow hgx) ht
  have HF := Lib.hid (hR _ _ hgx (hv.grow (hgx.hid H)))
  obtain ⟨tab, tn, tc, tx⟩ := t
  dsimp only at e0 hx hv
  rw [hpa, hk] at c0
  unfold stCells at c0 e0 HF ⊢
  rw [hpa, hk] at c0 e0 HF ⊢
  clear hR hv hat hx ht hL hLx h hbx hgx hpa
  have hk1 : ((k : Int) + 1) - 1 = (k : Int) := by omega
  go_enter Tryz.func37, Tryz.ntmps37
  go_wp2_with (go_quiet (fail))
  exact HF.out

set_option maxHeartbeats 2000000 in
theorem bfailing_any (H : Nat → Bool) (p : List Ln) (v : Value) (V : V5) (s : Bn) (w : World) (hp : LinesAt w v p) (h : StAt (hideW H w) V s) (R : Ending → World → Prop)
    (hR : ∀ w' x, Grow w w' → OwnI w.heap.size w' x (failB p s.tests) → R (.returned x) w') :
    Calls Tryz.prog 68 #[.agg (stCells V s), v] w R := by
  obtain ⟨T, hT, hTx⟩ := h.ts
  have hT2 := hT.unhide.tests
  have hbx := heap_alloc_new w (.cells (stCells V s) 73)
  have hgx := (Grow.refl w).alloc (.cells (stCells V s) 73)
  obtain ⟨_, _, c2, _⟩ := st_cells hbx
  rw [← hTx, ← noV_t, failB_noV] at hR
  have HT := Lib.hid hT2
  have HP := Lib.hid hp
  have HR := Lib.hid hR
  have HG := Lib.hid hgx
  obtain ⟨pa, pc, rfl, p1, p2, jk⟩ := hp
  clear hR jk hT hT2 hTx h hbx hgx
  unfold stCells at c2 HG ⊢
  go_enter Tryz.func68, Tryz.ntmps68
  go_wp2_with fail
  refine Failing_any p (T.map Tq.t) _ _ _ (HP.out.grow HG.out) (HT.out.grow HG.out) _ ?_
  intro w1 x hg1 hx
  have HF := Lib.hid (HR.out w1 x (HG.out.trans hg1) (hx.mono HG.out.sz))
  clear hg1 hx
  go_wp2_with fail
  exact HF.out
end Go.Proofs.YtihdpbfhkddpcaaGreatDoor

namespace Go.Proofs.YtihdpbfhkddpcaaGreatDoor
open Go.RowKit

set_option maxHeartbeats 2000000 in
theorem brkF_any (k : Int) (bx : Nat) (V : V5) (s : Bn) (w : World) (hb : w.heap[bx]? = some (.cells (stCells V s) 73 (0, 0))) (hl : IntsAt w (.slice V.la s.lk.length V.lc) s.lk) (R : Ending → World → Prop)
    (hR : ∀ w', Grow w w' → R (.returned (.bool (s.lk.contains k))) w') :
    Calls Tryz.prog 69 #[.int .i64 k, .pointer (some ⟨bx, 0, none⟩)] w R := by
  obtain ⟨_, _, _, c3, _, _, _⟩ := st_cells hb
  have hz := lt_of_block hb
  have HL := Lib.hid hl
  have hf := hR _ (Grow.refl _)
  obtain ⟨q, hq⟩ : ∃ q, s.lk.contains k = q := ⟨_, rfl⟩
  rw [hq] at hf
  have HQ := Lib.hid hq
  have HF := Lib.hid hf
  clear hR hb hl hf hq
  go_enter Tryz.func69, Tryz.ntmps69
  go_wp2_with fail
  refine containsI_any s.lk k _ _ HL.out _ ?_
  rw [HQ.out]
  go_wp2_with fail
  exact HF.out

set_option maxHeartbeats 4000000 in
theorem breaks_any (H : Nat → Bool) (p : List Ln) (v : Value) (V : V5) (s : Bn) (w : World) (hp : LinesAt w v p) (h : StAt (hideW H w) V s) (R : Ending → World → Prop)
    (hR : ∀ w', Grow w w' → R (.returned (.bool (brkB p s.tests s.lk))) w') :
    Calls Tryz.prog 49 #[.agg (stCells V s), v] w R := by
  have HP := Lib.hid hp
  have HS := Lib.hid h
  have HR := Lib.hid hR
  have eg : Enters Tryz.prog 69 := enters_of Tryz.func69 (by kernel_rfl) rfl
  have EG := Lib.hid eg
  obtain ⟨pa, pc, rfl, p1, p2, jk⟩ := hp
  have hbx := heap_alloc_new w (.cells (stCells V s) 73)
  have hgx := (Grow.refl w).alloc (.cells (stCells V s) 73)
  obtain ⟨c0, c1, c2, c3, c4, c5, c6⟩ := st_cells hbx
  have HB := Lib.hid hbx
  have HG := Lib.hid hgx
  clear hR eg jk h hbx hgx
  have hc : stCells V s = #[.slice V.pa s.progs.length V.pc, .slice V.ha s.hist.length V.hc, .slice V.ta s.tests.length V.tc, .slice V.la s.lk.length V.lc, .int .i64 s.fixes, .int .i64 s.checks, .slice V.oa s.orders.length V.oc] := rfl
  rw [hc] at c0 c1 c2 c3 c4 c5 c6 ⊢
  go_enter Tryz.func49, Tryz.ntmps49
  go_wp2_with fail
  refine bfailing_any H p _ V s _ (HP.out.grow HG.out) (HS.out.grow (HG.out.hid H)) _ ?_
  intro w1 x hg1 hx
  have HX := Lib.hid (hx.slc encI_len)
  have HB1 := Lib.hid (hg1.blk HB.out)
  have HG1 := Lib.hid (HG.out.trans hg1)
  have hpd : PredW 69 #[.pointer (some ⟨w.heap.size, 0, none⟩)] (fun k => s.lk.contains k) (fun W => Grow w1 W) := fun k W hgW R hR =>
    brkF_any k _ V s W (Grow.blk hgW HB1.out) (HS.out.unhide.lk.grow (HG1.out.trans hgW)) R (fun w' g => hR w' g)
  have HPD := Lib.hid hpd
  clear hg1 hx hpd
  go_wp2_with fail
  refine containsFI_any 69 _ EG.out (fun k => s.lk.contains k) (fun W => Grow w1 W) (fun W W' h g => Grow.trans h g) HPD.out _ _ _ HX.out (Grow.refl _) _ ?_
  intro w2 hg2
  have hf := HR.out w2 (HG1.out.trans hg2)
  obtain ⟨q, hq⟩ : ∃ q, brkB p s.tests s.lk = q := ⟨_, rfl⟩
  rw [hq] at hf
  rw [show ((failB p s.tests).any fun k => s.lk.contains k) = q from hq]
  have HF := Lib.hid hf
  clear hg2 hf hq
  go_wp2_with fail
  exact HF.out
end Go.Proofs.YtihdpbfhkddpcaaGreatDoor

namespace Go.Proofs.YtihdpbfhkddpcaaGreatDoor
open Go.RowKit

theorem b_info_int : (Tryz.prog.info? 3).map (fun i => (i.zero, i.size, i.bytes)) = some (some (.int .i64 0), 1, 8) := by kernel_rfl
theorem b_info_str : (Tryz.prog.info? 9).map (fun i => (i.zero, i.size, i.bytes)) = some (some (.string ByteArray.empty), 1, 16) := by kernel_rfl
theorem b_info_ln : (Tryz.prog.info? 58).map (fun i => (i.zero, i.size, i.bytes)) = some (some (.agg #[.int .i64 0, .int .i64 0, .int .i64 0, .int .i64 0]), 4, 32) := by kernel_rfl
theorem b_info_ts : (Tryz.prog.info? 129).map (fun i => (i.zero, i.size, i.bytes)) = some (some (.agg #[.slice none 0 0, .int .i64 0, .int .i64 0]), 3, 40) := by kernel_rfl
theorem b_info_sll : (Tryz.prog.info? 22).map (fun i => (i.zero, i.size, i.bytes)) = some (some (.slice none 0 0), 1, 24) := by kernel_rfl
theorem b_info_sle : (Tryz.prog.info? 54).map (fun i => (i.zero, i.size, i.bytes)) = some (some (.slice none 0 0), 1, 24) := by kernel_rfl
set_option maxHeartbeats 1000000 in
theorem clI_any (xs : List Int) (v : Value) (w : World) (hx : SlcAt 1 encI w v xs) (hn : xs.length < 10000000000) (R : Ending → World → Prop) (hR : ∀ w' x, Grow w w' → w'.ownsRow w.heap.size 3 1 x xs.length (xs.flatMap encI) → R (.returned x) w') :
    Calls Tryz.prog 133 #[v] w R := by
  have hx' := hx
  obtain ⟨a, c, rfl, h1, h2, h3⟩ := hx'
  have HX := Lib.hid hx
  have HR := Lib.hid hR
  clear hx hR
  have heq := fun (W : World) (a : Option Addr) (n c : Nat) => Lib.run_eql_slice_nil (P := Tryz.prog) W 71 3 a n c 0 0 Tryz.underlying71
  cases a with
  | none =>
    have hxs : xs = [] := by
      rcases h3 with ⟨h3, _⟩ | ⟨b, o, h3, _⟩
      · exact h3
      · cases h3
    subst hxs
    clear h3
    go_enter Tryz.func133, Tryz.ntmps133
    go_wp2_with fail
    exact HR.out _ _ (Grow.refl _) (World.ownsRow_nil _ _ _ _)
  | some ad =>
    clear h3
    go_enter Tryz.func133, Tryz.ntmps133
    go_wp2_with (at_builtin; refine wpList_appAll _ rfl (.tmp 5) (.tmp 6) 71 rfl w.heap.size 3 Tryz.underlying71 b_info_int rfl (by decide) (by decide) encI encI_len encI_one _ [] rfl (ownsRow_empty w 1 _ _ _ (Nat.le_refl _)) _ xs rfl (HX.out.grow ((Grow.refl w).alloc _)) (by simp; omega) (by simp) ?_; intro v1 w1 hown1 hgr1)
    exact HR.out _ _ (grown_below (ownsRow_empty (α := Int) w 1 3 encI _ (Nat.le_refl _)) hgr1 (Nat.le_refl _) (by simp) ((Grow.refl w).alloc _)) hown1

set_option maxHeartbeats 1000000 in
theorem clX_any (xs : List ByteArray) (v : Value) (w : World) (hx : SlcAt 1 encTx w v xs) (hn : xs.length < 10000000000) (R : Ending → World → Prop) (hR : ∀ w' x, Grow w w' → w'.ownsRow w.heap.size 9 1 x xs.length (xs.flatMap encTx) → R (.returned x) w') :
    Calls Tryz.prog 59 #[v] w R := by
  have hx' := hx
  obtain ⟨a, c, rfl, h1, h2, h3⟩ := hx'
  have HX := Lib.hid hx
  have HR := Lib.hid hR
  clear hx hR
  have heq := fun (W : World) (a : Option Addr) (n c : Nat) => Lib.run_eql_slice_nil (P := Tryz.prog) W 23 9 a n c 0 0 Tryz.underlying23
  cases a with
  | none =>
    have hxs : xs = [] := by
      rcases h3 with ⟨h3, _⟩ | ⟨b, o, h3, _⟩
      · exact h3
      · cases h3
    subst hxs
    clear h3
    go_enter Tryz.func59, Tryz.ntmps59
    go_wp2_with fail
    exact HR.out _ _ (Grow.refl _) (World.ownsRow_nil _ _ _ _)
  | some ad =>
    clear h3
    go_enter Tryz.func59, Tryz.ntmps59
    go_wp2_with (at_builtin; refine wpList_appAll _ rfl (.tmp 5) (.tmp 6) 23 rfl w.heap.size 9 Tryz.underlying23 b_info_str rfl (by decide) (by decide) encTx encTx_len encTx_one _ [] rfl (ownsRow_empty w 1 _ _ _ (Nat.le_refl _)) _ xs rfl (HX.out.grow ((Grow.refl w).alloc _)) (by simp; omega) (by simp) ?_; intro v1 w1 hown1 hgr1)
    exact HR.out _ _ (grown_below (ownsRow_empty (α := ByteArray) w 1 9 encTx _ (Nat.le_refl _)) hgr1 (Nat.le_refl _) (by simp) ((Grow.refl w).alloc _)) hown1

set_option maxHeartbeats 1000000 in
theorem clL_any (xs : List Ln) (v : Value) (w : World) (hx : SlcAt 4 encL w v xs) (hn : xs.length < 10000000000) (R : Ending → World → Prop) (hR : ∀ w' x, Grow w w' → w'.ownsRow w.heap.size 58 4 x xs.length (xs.flatMap encL) → R (.returned x) w') :
    Calls Tryz.prog 35 #[v] w R := by
  have hx' := hx
  obtain ⟨a, c, rfl, h1, h2, h3⟩ := hx'
  have HX := Lib.hid hx
  have HR := Lib.hid hR
  clear hx hR
  have heq := fun (W : World) (a : Option Addr) (n c : Nat) => Lib.run_eql_slice_nil (P := Tryz.prog) W 22 58 a n c 0 0 Tryz.underlying22
  cases a with
  | none =>
    have hxs : xs = [] := by
      rcases h3 with ⟨h3, _⟩ | ⟨b, o, h3, _⟩
      · exact h3
      · cases h3
    subst hxs
    clear h3
    go_enter Tryz.func35, Tryz.ntmps35
    go_wp2_with fail
    exact HR.out _ _ (Grow.refl _) (World.ownsRow_nil _ _ _ _)
  | some ad =>
    clear h3
    go_enter Tryz.func35, Tryz.ntmps35
    go_wp2_with (at_builtin; refine wpList_appAll _ rfl (.tmp 5) (.tmp 6) 22 rfl w.heap.size 58 Tryz.underlying22 b_info_ln rfl (by decide) (by decide) encL encL_len encL_one _ [] rfl (ownsRow_empty w 4 _ _ _ (Nat.le_refl _)) _ xs rfl (HX.out.grow ((Grow.refl w).alloc _)) (by simp; omega) (by simp) ?_; intro v1 w1 hown1 hgr1)
    exact HR.out _ _ (grown_below (ownsRow_empty (α := Ln) w 4 58 encL _ (Nat.le_refl _)) hgr1 (Nat.le_refl _) (by simp) ((Grow.refl w).alloc _)) hown1

set_option maxHeartbeats 1000000 in
theorem clT_any (xs : List Tq) (v : Value) (w : World) (hx : SlcAt 3 encTq w v xs) (hn : xs.length < 10000000000) (R : Ending → World → Prop) (hR : ∀ w' x, Grow w w' → w'.ownsRow w.heap.size 129 3 x xs.length (xs.flatMap encTq) → R (.returned x) w') :
    Calls Tryz.prog 134 #[v] w R := by
  have hx' := hx
  obtain ⟨a, c, rfl, h1, h2, h3⟩ := hx'
  have HX := Lib.hid hx
  have HR := Lib.hid hR
  clear hx hR
  have heq := fun (W : World) (a : Option Addr) (n c : Nat) => Lib.run_eql_slice_nil (P := Tryz.prog) W 70 129 a n c 0 0 Tryz.underlying70
  cases a with
  | none =>
    have hxs : xs = [] := by
      rcases h3 with ⟨h3, _⟩ | ⟨b, o, h3, _⟩
      · exact h3
      · cases h3
    subst hxs
    clear h3
    go_enter Tryz.func134, Tryz.ntmps134
    go_wp2_with fail
    exact HR.out _ _ (Grow.refl _) (World.ownsRow_nil _ _ _ _)
  | some ad =>
    clear h3
    go_enter Tryz.func134, Tryz.ntmps134
    go_wp2_with (at_builtin; refine wpList_appAll _ rfl (.tmp 5) (.tmp 6) 70 rfl w.heap.size 129 Tryz.underlying70 b_info_ts rfl (by decide) (by decide) encTq encTq_len encTq_one _ [] rfl (ownsRow_empty w 3 _ _ _ (Nat.le_refl _)) _ xs rfl (HX.out.grow ((Grow.refl w).alloc _)) (by simp; omega) (by simp) ?_; intro v1 w1 hown1 hgr1)
    exact HR.out _ _ (grown_below (ownsRow_empty (α := Tq) w 3 129 encTq _ (Nat.le_refl _)) hgr1 (Nat.le_refl _) (by simp) ((Grow.refl w).alloc _)) hown1

set_option maxHeartbeats 1000000 in
theorem clLL_any (xs : List (Lo Ln)) (v : Value) (w : World) (hx : SlcAt 1 encLo w v xs) (hn : xs.length < 10000000000) (R : Ending → World → Prop) (hR : ∀ w' x, Grow w w' → w'.ownsRow w.heap.size 22 1 x xs.length (xs.flatMap encLo) → R (.returned x) w') :
    Calls Tryz.prog 132 #[v] w R := by
  have hx' := hx
  obtain ⟨a, c, rfl, h1, h2, h3⟩ := hx'
  have HX := Lib.hid hx
  have HR := Lib.hid hR
  clear hx hR
  have heq := fun (W : World) (a : Option Addr) (n c : Nat) => Lib.run_eql_slice_nil (P := Tryz.prog) W 69 22 a n c 0 0 Tryz.underlying69
  cases a with
  | none =>
    have hxs : xs = [] := by
      rcases h3 with ⟨h3, _⟩ | ⟨b, o, h3, _⟩
      · exact h3
      · cases h3
    subst hxs
    clear h3
    go_enter Tryz.func132, Tryz.ntmps132
    go_wp2_with fail
    exact HR.out _ _ (Grow.refl _) (World.ownsRow_nil _ _ _ _)
  | some ad =>
    clear h3
    go_enter Tryz.func132, Tryz.ntmps132
    go_wp2_with (at_builtin; refine wpList_appAll _ rfl (.tmp 5) (.tmp 6) 69 rfl w.heap.size 22 Tryz.underlying69 b_info_sll rfl (by decide) (by decide) encLo encLo_len encLo_one _ [] rfl (ownsRow_empty w 1 _ _ _ (Nat.le_refl _)) _ xs rfl (HX.out.grow ((Grow.refl w).alloc _)) (by simp; omega) (by simp) ?_; intro v1 w1 hown1 hgr1)
    exact HR.out _ _ (grown_below (ownsRow_empty (α := (Lo Ln)) w 1 22 encLo _ (Nat.le_refl _)) hgr1 (Nat.le_refl _) (by simp) ((Grow.refl w).alloc _)) hown1

set_option maxHeartbeats 1000000 in
theorem clEE_any (xs : List (Lo Ed)) (v : Value) (w : World) (hx : SlcAt 1 encLo w v xs) (hn : xs.length < 10000000000) (R : Ending → World → Prop) (hR : ∀ w' x, Grow w w' → w'.ownsRow w.heap.size 54 1 x xs.length (xs.flatMap encLo) → R (.returned x) w') :
    Calls Tryz.prog 131 #[v] w R := by
  have hx' := hx
  obtain ⟨a, c, rfl, h1, h2, h3⟩ := hx'
  have HX := Lib.hid hx
  have HR := Lib.hid hR
  clear hx hR
  have heq := fun (W : World) (a : Option Addr) (n c : Nat) => Lib.run_eql_slice_nil (P := Tryz.prog) W 36 54 a n c 0 0 Tryz.underlying36
  cases a with
  | none =>
    have hxs : xs = [] := by
      rcases h3 with ⟨h3, _⟩ | ⟨b, o, h3, _⟩
      · exact h3
      · cases h3
    subst hxs
    clear h3
    go_enter Tryz.func131, Tryz.ntmps131
    go_wp2_with fail
    exact HR.out _ _ (Grow.refl _) (World.ownsRow_nil _ _ _ _)
  | some ad =>
    clear h3
    go_enter Tryz.func131, Tryz.ntmps131
    go_wp2_with (at_builtin; refine wpList_appAll _ rfl (.tmp 5) (.tmp 6) 36 rfl w.heap.size 54 Tryz.underlying36 b_info_sle rfl (by decide) (by decide) encLo encLo_len encLo_one _ [] rfl (ownsRow_empty w 1 _ _ _ (Nat.le_refl _)) _ xs rfl (HX.out.grow ((Grow.refl w).alloc _)) (by simp; omega) (by simp) ?_; intro v1 w1 hown1 hgr1)
    exact HR.out _ _ (grown_below (ownsRow_empty (α := (Lo Ed)) w 1 54 encLo _ (Nat.le_refl _)) hgr1 (Nat.le_refl _) (by simp) ((Grow.refl w).alloc _)) hown1

end Go.Proofs.YtihdpbfhkddpcaaGreatDoor
