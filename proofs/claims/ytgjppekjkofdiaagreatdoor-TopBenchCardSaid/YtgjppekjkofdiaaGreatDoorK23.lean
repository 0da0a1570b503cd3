/-






-/
import Derived.Test.YtgjppekjkofdiaaGreatDoorK21
import Derived.Test.YtgjppekjkofdiaaGreatDoorK22
import Derived.Test.YtgjppekjkofdiaaGreatDoorK16
import Derived.Test.YtgjppekjkofdiaaGreatDoorK03
import Derived.Test.YtgjppekjkofdiaaGreatDoorK08
namespace Go.Proofs.YtgjppekjkofdiaaGreatDoor
open Go.RowKit

def noV (t : Tst) : Tst := { t with v := .nilIface }
structure Tq where
  a : Option Addr
  n : Nat
  c : Nat
  xs : List Int
  o : Int
  wt : Int
def Tq.t (q : Tq) : Tst := ⟨.slice q.a q.n q.c, q.xs, q.o, q.wt⟩
def encTq (q : Tq) : List Value := [.slice q.a q.n q.c, .int .i64 q.o, .int .i64 q.wt]
theorem encTq_len (q : Tq) : (encTq q).length = 3 := rfl
theorem encTq_one (q : Tq) : ∀ u ∈ encTq q, u.oneCell' = true := by
  intro u hu
  unfold encTq at hu
  simp only [List.mem_cons, List.not_mem_nil, or_false] at hu
  rcases hu with rfl | rfl | rfl <;> rfl
structure TqAt (w : World) (v : Value) (T : List Tq) : Prop where
  at_ : SlcAt 3 encTq w v T
  ins : ∀ q ∈ T, IntsAt w (.slice q.a q.n q.c) q.xs
theorem TqAt.grow {w w' : World} {v : Value} {T : List Tq} (h : TqAt w v T) (g : Grow w w') : TqAt w' v T := ⟨h.at_.grow g, fun q hq => (h.ins q hq).grow g⟩
theorem TqAt.unhide {H : Nat → Bool} {w : World} {v : Value} {T : List Tq} (h : TqAt (hideW H w) v T) : TqAt w v T := ⟨h.at_.unhide, fun q hq => (h.ins q hq).unhide⟩
theorem TqAt.nil (w : World) : TqAt w (.slice none 0 0) [] := ⟨SlcAt.nil _ _ _, by simp⟩
theorem TqAt.tests {w : World} {v : Value} {T : List Tq} (h : TqAt w v T) : TestsAt w v (T.map Tq.t) := by
  obtain ⟨a, c, h1, h2, h3, h4⟩ := h.at_
  refine ⟨⟨a, c, by rw [List.length_map]; exact h1, by rw [List.length_map]; exact h2, h3, ?_⟩, fun t ht => ?_⟩
  · rcases h4 with ⟨h4, h5⟩ | ⟨b, o, e, hb, hc⟩
    · exact .inl ⟨by rw [h4]; rfl, h5⟩
    · refine .inr ⟨b, o, e, hb, fun j x hx i u hu => ?_⟩
      rw [List.getElem?_map] at hx
      cases hq : T[j]? with
      | none => rw [hq] at hx; cases hx
      | some q =>
        rw [hq] at hx
        obtain rfl := Option.some.inj hx
        exact hc j q hq i u hu
  · obtain ⟨q, hq, rfl⟩ := List.mem_map.1 ht
    exact h.ins q hq
def Tq.p (q : Tq) : Tst := ⟨.nilIface, q.xs, q.o, q.wt⟩
theorem noV_t (T : List Tq) : (T.map Tq.t).map noV = T.map Tq.p := by rw [List.map_map]; rfl
structure V5 where
  pa : Option Addr
  pc : Nat
  ha : Option Addr
  hc : Nat
  ta : Option Addr
  tc : Nat
  la : Option Addr
  lc : Nat
  oa : Option Addr
  oc : Nat
structure StAt (w : World) (V : V5) (s : Bn) : Prop where
  pr : ∃ L : List (Lo Ln), LlAt 4 encL w (.slice V.pa s.progs.length V.pc) L ∧ L.map Lo.x = s.progs
  hi : ∃ L : List (Lo Ed), LlAt 5 encE w (.slice V.ha s.hist.length V.hc) L ∧ L.map Lo.x = s.hist
  ts : ∃ T : List Tq, TqAt w (.slice V.ta s.tests.length V.tc) T ∧ T.map Tq.p = s.tests
  lk : IntsAt w (.slice V.la s.lk.length V.lc) s.lk
  od : TextsAt w (.slice V.oa s.orders.length V.oc) s.orders
theorem StAt.grow {w w' : World} {V : V5} {s : Bn} (h : StAt w V s) (g : Grow w w') : StAt w' V s :=
  ⟨let ⟨L, a, b⟩ := h.pr; ⟨L, a.grow g, b⟩, let ⟨L, a, b⟩ := h.hi; ⟨L, a.grow g, b⟩, let ⟨L, a, b⟩ := h.ts; ⟨L, a.grow g, b⟩, h.lk.grow g, h.od.grow g⟩
theorem StAt.unhide {H : Nat → Bool} {w : World} {V : V5} {s : Bn} (h : StAt (hideW H w) V s) : StAt w V s :=
  ⟨let ⟨L, a, b⟩ := h.pr; ⟨L, a.unhide, b⟩, let ⟨L, a, b⟩ := h.hi; ⟨L, a.unhide, b⟩, let ⟨L, a, b⟩ := h.ts; ⟨L, a.unhide, b⟩, h.lk.unhide, h.od.unhide⟩
def Chg (B : Nat) (w w' : World) : Prop := Grow (hideW (fun k => k == B) w) (hideW (fun k => k == B) w')
theorem Chg.sz {B : Nat} {w w' : World} (h : Chg B w w') : w.heap.size ≤ w'.heap.size := by have := Grow.sz h; rwa [hide_size, hide_size] at this
theorem Chg.of_grow {B : Nat} {w w' : World} (g : Grow w w') : Chg B w w' := g.hid _
theorem Chg.trans {B : Nat} {a b c : World} (h : Chg B a b) (k : Chg B b c) : Chg B a c := Grow.trans h k
theorem Chg.blk {B : Nat} {w w' : World} (h : Chg B w w') {k : Nat} (hk : k ≠ B) {o : Obj} (ho : w.heap[k]? = some o) : w'.heap[k]? = some o := by
  have hf : (k == B) = false := by simpa using hk
  have h1 : (hideW (fun k => k == B) w).heap[k]? = some o := by rw [hide_off (H := fun k => k == B) hf]; exact ho
  have h2 := Grow.blk h h1
  rwa [hide_off (H := fun k => k == B) hf] at h2
theorem Chg.hide {B : Nat} {w w' : World} (h : Chg B w w') {H : Nat → Bool} (hB : H B = true) : Grow (hideW H w) (hideW H w') := by
  have h0 : Below (hideW (fun k => k == B) w).heap.size (hideW (fun k => k == B) w) (hideW (fun k => k == B) w') := h
  refine ⟨h0.os, h0.tape, h0.output, by rw [hide_size, hide_size]; exact h.sz, fun k hk => ?_⟩
  rw [hide_size] at hk
  rw [hide_heap, hide_heap]
  obtain ⟨o, ho⟩ : ∃ o, w.heap[k]? = some o := ⟨_, Array.getElem?_eq_getElem hk⟩
  by_cases hkB : k = B
  · subst hkB
    rw [hB]
    have : k < w'.heap.size := Nat.lt_of_lt_of_le hk h.sz
    rw [ho, Array.getElem?_eq_getElem this]; rfl
  · rw [h.blk hkB ho, ho]
theorem Chg.setCell {B : Nat} {w w' : World} (h : Chg B w w') (o : Nat) (v : Value) : Chg B w (w'.setCell ⟨B, o, none⟩ v) := by
  unfold Chg
  rw [hide_setCell (H := fun k => k == B) (a := ⟨B, o, none⟩) (by simp)]
  exact h
structure Hidden (H : Nat → Bool) (B : Nat) (w : World) : Prop where
  hH : H B = true
  bd : ∀ k, H k = true → k < w.heap.size
theorem Hidden.grow {H : Nat → Bool} {B : Nat} {w w' : World} (h : Hidden H B w) (g : Grow w w') : Hidden H B w' := ⟨h.hH, fun k hk => Nat.lt_of_lt_of_le (h.bd k hk) g.sz⟩
theorem Hidden.new {H : Nat → Bool} {B : Nat} {w : World} (h : Hidden H B w) : ∀ b, w.heap.size ≤ b → H b = false := fun b hb => by
  cases hh : H b with
  | false => rfl
  | true => have := h.bd b hh; omega
def stCells (V : V5) (s : Bn) : Array Value := #[.slice V.pa s.progs.length V.pc, .slice V.ha s.hist.length V.hc, .slice V.ta s.tests.length V.tc, .slice V.la s.lk.length V.lc, .int .i64 s.fixes, .int .i64 s.checks, .slice V.oa s.orders.length V.oc]
structure SAt (H : Nat → Bool) (N : Nat) (w : World) (s : Bn) : Prop where
  hid : Hidden H N w
  blk : ∃ V, w.heap[N]? = some (.cells (stCells V s) 91 (0, 0)) ∧ StAt (hideW H w) V s
theorem SAt.grow {H : Nat → Bool} {N : Nat} {w w' : World} {s : Bn} (h : SAt H N w s) (g : Grow w w') : SAt H N w' s :=
  ⟨h.hid.grow g, let ⟨V, h1, h2⟩ := h.blk; ⟨V, g.blk h1, h2.grow (g.hid H)⟩⟩
def bnCells (V : V5) (s : Bn) : Array Value := #[.int .i32 0, .int .u32 0, .slice V.pa s.progs.length V.pc, .slice V.ha s.hist.length V.hc, .slice V.ta s.tests.length V.tc, .slice V.la s.lk.length V.lc, .int .i64 s.fixes, .int .i64 s.checks, .slice V.oa s.orders.length V.oc]
structure BnAt (H : Nat → Bool) (B : Nat) (w : World) (s : Bn) : Prop where
  hid : Hidden H B w
  blk : ∃ V, w.heap[B]? = some (.cells (bnCells V s) 93 (0, 0)) ∧ StAt (hideW H w) V s
theorem BnAt.grow {H : Nat → Bool} {B : Nat} {w w' : World} {s : Bn} (h : BnAt H B w s) (g : Grow w w') : BnAt H B w' s :=
  ⟨h.hid.grow g, let ⟨V, h1, h2⟩ := h.blk; ⟨V, g.blk h1, h2.grow (g.hid H)⟩⟩
theorem BnAt.chg {H : Nat → Bool} {B N : Nat} {w w' : World} {s : Bn} (h : BnAt H B w s) (g : Chg N w w') (hN : N ≠ B) (hH : H N = true) : BnAt H B w' s :=
  ⟨⟨h.hid.hH, fun k hk => Nat.lt_of_lt_of_le (h.hid.bd k hk) g.sz⟩, let ⟨V, h1, h2⟩ := h.blk; ⟨V, g.blk (fun e => hN e.symm) h1, h2.grow (g.hide hH)⟩⟩
end Go.Proofs.YtgjppekjkofdiaaGreatDoor

namespace Go.Proofs.YtgjppekjkofdiaaGreatDoor
open Go.RowKit

theorem valT_noV (ts : List Tst) : valT (ts.map noV) = valT ts := by
  unfold valT
  rw [List.length_map, List.all_map]
  rfl
theorem chkT_noV (p : List Ln) (ts : List Tst) : chkT p (ts.map noV) = chkT p ts := by unfold chkT; rw [valT_noV]
theorem whereL_map {α β : Type} (f : β → Bool) (g : α → β) (ts : List α) : whereL f (ts.map g) = whereL (fun t => f (g t)) ts := by
  unfold whereL
  rw [List.length_map]
  congr 1
  funext k
  rw [List.getElem?_map]
  cases ts[k]? <;> rfl
theorem failB_noV (p : List Ln) (ts : List Tst) : failB p (ts.map noV) = failB p ts := by
  unfold failB
  rw [chkT_noV, whereL_map]
  rfl

set_option maxHeartbeats 2000000 in
theorem containsFI_any (f : Nat) (cb : Array Value) (eg : Enters Tryz.prog f) (pr : Int → Bool) (Inv : World → Prop) (hI : ∀ W W', Inv W → Grow W W' → Inv W') (hp : PredW f cb pr Inv) (xs : List Int) (v : Value) (w : World) (hv : IntsAt w v xs) (hi : Inv w) (R : Ending → World → Prop)
    (hR : ∀ w', Grow w w' → R (.returned (.bool (xs.any pr))) w') :
    Calls Tryz.prog 98 #[v, .func (.func f) #[] cb] w R := by
  have HV := Lib.hid hv
  have HR := Lib.hid hR
  obtain ⟨va, vc, rfl, v1, v2, jk⟩ := hv
  clear hR jk
  go_enter Tryz.func98, Tryz.ntmps98
  go_wp2_with fail
  refine indexFI_any f cb eg pr Inv hI hp xs _ _ HV.out hi _ ?_ ?_
  · intro w1 k x hg1 hx hpx _
    have hr := HR.out w1 hg1
    rw [List.any_eq_true.2 ⟨x, List.mem_of_getElem? hx, hpx⟩] at hr
    have HF := Lib.hid hr
    have hk0 : (0 : Int) ≤ (k : Int) := by omega
    clear hr hg1 hx hpx
    go_wp2_with fail
    exact HF.out
  · intro w1 hg1 hno
    have hr := HR.out w1 hg1
    rw [show xs.any pr = false by rw [List.any_eq_false]; intro y hy; rw [hno y hy]; simp] at hr
    have HF := Lib.hid hr
    clear hr hg1 hno
    go_wp2_with fail
    exact HF.out

theorem st_cells {w : World} {N : Nat} {V : V5} {s : Bn} {T : TypeId} (hb : w.heap[N]? = some (.cells (stCells V s) T (0, 0))) :
    w.cell? ⟨N, 0, none⟩ = some (.slice V.pa s.progs.length V.pc) ∧ w.cell? ⟨N, 1, none⟩ = some (.slice V.ha s.hist.length V.hc) ∧ w.cell? ⟨N, 2, none⟩ = some (.slice V.ta s.tests.length V.tc) ∧ w.cell? ⟨N, 3, none⟩ = some (.slice V.la s.lk.length V.lc) ∧ w.cell? ⟨N, 4, none⟩ = some (.int .i64 s.fixes) ∧ w.cell? ⟨N, 5, none⟩ = some (.int .i64 s.checks) ∧ w.cell? ⟨N, 6, none⟩ = some (.slice V.oa s.orders.length V.oc) := by
  unfold World.cell?
  rw [hb]
  exact ⟨rfl, rfl, rfl, rfl, rfl, rfl, rfl⟩

set_option maxHeartbeats 2000000 in
theorem program_any (H : Nat → Bool) (V : V5) (s : Bn) (w : World) (h : StAt (hideW H w) V s) (hne : s.progs ≠ []) (R : Ending → World → Prop)
    (hR : ∀ w' v, Grow w w' → LinesAt (hideW H w') v s.prog → R (.returned v) w') :
    Calls Tryz.prog 48 #[.agg (stCells V s)] w R := by
  obtain ⟨L, hL, hLx⟩ := h.pr
  have hl : L.length = s.progs.length := by rw [← hLx]; simp
  obtain ⟨k, hk⟩ : ∃ k, s.progs.length = k + 1 := ⟨s.progs.length - 1, by have := List.length_pos_iff.2 hne; omega⟩
  obtain ⟨t, ht⟩ : ∃ t, L[k]? = some t := ⟨_, List.getElem?_eq_getElem (by omega)⟩
  have hx : t.x = s.prog := by
    unfold Bn.prog
    rw [hk, Nat.add_sub_cancel, ← hLx, List.getElem?_map, ht]; rfl
  have hat := hL.unhide.at_
  have hkm := hat.len_le
  rw [hl, hk] at hkm
  have hv := hL.ins t (List.mem_of_getElem? ht)
  rw [hx] at hv
  have hbx := heap_alloc_new w (.cells (stCells V s) 91)
  have hgx := (Grow.refl w).alloc (.cells (stCells V s) 91)
  obtain ⟨c0, _⟩ := st_cells hbx
  obtain ⟨b, o, hpa, hb, e0⟩ := lo_at (hat.grow hgx) ht
  have HF := Lib.hid (hR _ _ hgx (hv.grow (hgx.hid H)))
  obtain ⟨tab, tn, tc, tx⟩ := t
  dsimp only at e0 hx hv
  rw [hpa, hk] at c0
  unfold stCells at c0 e0 HF ⊢
  rw [hpa, hk] at c0 e0 HF ⊢
  clear hR hv hat hx ht hL hLx h hbx hgx hpa
  have hk1 : ((k : Int) + 1) - 1 = (k : Int) := by omega
  go_enter Tryz.func48, Tryz.ntmps48
  go_wp2_with (go_quiet (fail))
  exact HF.out

set_option maxHeartbeats 2000000 in
theorem bfailing_any (H : Nat → Bool) (p : List Ln) (v : Value) (V : V5) (s : Bn) (w : World) (hp : LinesAt w v p) (h : StAt (hideW H w) V s) (R : Ending → World → Prop)
    (hR : ∀ w' x, Grow w w' → OwnI w.heap.size w' x (failB p s.tests) → R (.returned x) w') :
    Calls Tryz.prog 55 #[.agg (stCells V s), v] w R := by
  obtain ⟨T, hT, hTx⟩ := h.ts
  have hT2 := hT.unhide.tests
  have hbx := heap_alloc_new w (.cells (stCells V s) 91)
  have hgx := (Grow.refl w).alloc (.cells (stCells V s) 91)
  obtain ⟨_, _, c2, _⟩ := st_cells hbx
  rw [← hTx, ← noV_t, failB_noV] at hR
  have HT := Lib.hid hT2
  have HP := Lib.hid hp
  have HR := Lib.hid hR
  have HG := Lib.hid hgx
  obtain ⟨pa, pc, rfl, p1, p2, jk⟩ := hp
  clear hR jk hT hT2 hTx h hbx hgx
  unfold stCells at c2 HG ⊢
  go_enter Tryz.func55, Tryz.ntmps55
  go_wp2_with fail
  refine Failing_any p (T.map Tq.t) _ _ _ (HP.out.grow HG.out) (HT.out.grow HG.out) _ ?_
  intro w1 x hg1 hx
  have HF := Lib.hid (HR.out w1 x (HG.out.trans hg1) (hx.mono HG.out.sz))
  clear hg1 hx
  go_wp2_with fail
  exact HF.out
end Go.Proofs.YtgjppekjkofdiaaGreatDoor

namespace Go.Proofs.YtgjppekjkofdiaaGreatDoor
open Go.RowKit

set_option maxHeartbeats 2000000 in
theorem brkF_any (k : Int) (bx : Nat) (V : V5) (s : Bn) (w : World) (hb : w.heap[bx]? = some (.cells (stCells V s) 91 (0, 0))) (hl : IntsAt w (.slice V.la s.lk.length V.lc) s.lk) (R : Ending → World → Prop)
    (hR : ∀ w', Grow w w' → R (.returned (.bool (s.lk.contains k))) w') :
    Calls Tryz.prog 99 #[.int .i64 k, .pointer (some ⟨bx, 0, none⟩)] w R := by
  obtain ⟨_, _, _, c3, _, _, _⟩ := st_cells hb
  have hz := lt_of_block hb
  have HL := Lib.hid hl
  have hf := hR _ (Grow.refl _)
  obtain ⟨q, hq⟩ : ∃ q, s.lk.contains k = q := ⟨_, rfl⟩
  rw [hq] at hf
  have HQ := Lib.hid hq
  have HF := Lib.hid hf
  clear hR hb hl hf hq
  go_enter Tryz.func99, Tryz.ntmps99
  go_wp2_with fail
  refine containsI_any s.lk k _ _ HL.out _ ?_
  rw [HQ.out]
  go_wp2_with fail
  exact HF.out

set_option maxHeartbeats 4000000 in
theorem breaks_any (H : Nat → Bool) (p : List Ln) (v : Value) (V : V5) (s : Bn) (w : World) (hp : LinesAt w v p) (h : StAt (hideW H w) V s) (R : Ending → World → Prop)
    (hR : ∀ w', Grow w w' → R (.returned (.bool (brkB p s.tests s.lk))) w') :
    Calls Tryz.prog 68 #[.agg (stCells V s), v] w R := by
  have HP := Lib.hid hp
  have HS := Lib.hid h
  have HR := Lib.hid hR
  have eg : Enters Tryz.prog 99 := enters_of Tryz.func99 (by kernel_rfl) rfl
  have EG := Lib.hid eg
  obtain ⟨pa, pc, rfl, p1, p2, jk⟩ := hp
  have hbx := heap_alloc_new w (.cells (stCells V s) 91)
  have hgx := (Grow.refl w).alloc (.cells (stCells V s) 91)
  obtain ⟨c0, c1, c2, c3, c4, c5, c6⟩ := st_cells hbx
  have HB := Lib.hid hbx
  have HG := Lib.hid hgx
  clear hR eg jk h hbx hgx
  have hc : stCells V s = #[.slice V.pa s.progs.length V.pc, .slice V.ha s.hist.length V.hc, .slice V.ta s.tests.length V.tc, .slice V.la s.lk.length V.lc, .int .i64 s.fixes, .int .i64 s.checks, .slice V.oa s.orders.length V.oc] := rfl
  rw [hc] at c0 c1 c2 c3 c4 c5 c6 ⊢
  go_enter Tryz.func68, Tryz.ntmps68
  go_wp2_with fail
  refine bfailing_any H p _ V s _ (HP.out.grow HG.out) (HS.out.grow (HG.out.hid H)) _ ?_
  intro w1 x hg1 hx
  have HX := Lib.hid (hx.slc encI_len)
  have HB1 := Lib.hid (hg1.blk HB.out)
  have HG1 := Lib.hid (HG.out.trans hg1)
  have hpd : PredW 99 #[.pointer (some ⟨w.heap.size, 0, none⟩)] (fun k => s.lk.contains k) (fun W => Grow w1 W) := fun k W hgW R hR =>
    brkF_any k _ V s W (Grow.blk hgW HB1.out) (HS.out.unhide.lk.grow (HG1.out.trans hgW)) R (fun w' g => hR w' g)
  have HPD := Lib.hid hpd
  clear hg1 hx hpd
  go_wp2_with fail
  refine containsFI_any 99 _ EG.out (fun k => s.lk.contains k) (fun W => Grow w1 W) (fun W W' h g => Grow.trans h g) HPD.out _ _ _ HX.out (Grow.refl _) _ ?_
  intro w2 hg2
  have hf := HR.out w2 (HG1.out.trans hg2)
  obtain ⟨q, hq⟩ : ∃ q, brkB p s.tests s.lk = q := ⟨_, rfl⟩
  rw [hq] at hf
  rw [show ((failB p s.tests).any fun k => s.lk.contains k) = q from hq]
  have HF := Lib.hid hf
  clear hg2 hf hq
  go_wp2_with fail
  exact HF.out
end Go.Proofs.YtgjppekjkofdiaaGreatDoor

namespace Go.Proofs.YtgjppekjkofdiaaGreatDoor
open Go.RowKit

theorem b_info_int : (Tryz.prog.info? 3).map (fun i => (i.zero, i.size, i.bytes)) = some (some (.int .i64 0), 1, 8) := by kernel_rfl
theorem b_info_str : (Tryz.prog.info? 9).map (fun i => (i.zero, i.size, i.bytes)) = some (some (.string ByteArray.empty), 1, 16) := by kernel_rfl
theorem b_info_ln : (Tryz.prog.info? 81).map (fun i => (i.zero, i.size, i.bytes)) = some (some (.agg #[.int .i64 0, .int .i64 0, .int .i64 0, .int .i64 0]), 4, 32) := by kernel_rfl
theorem b_info_ed : (Tryz.prog.info? 105).map (fun i => (i.zero, i.size, i.bytes)) = some (some (.agg #[.int .i64 0, .int .i64 0, .int .i64 0, .int .i64 0, .int .i64 0]), 5, 40) := by kernel_rfl
theorem b_info_ts : (Tryz.prog.info? 101).map (fun i => (i.zero, i.size, i.bytes)) = some (some (.agg #[.slice none 0 0, .int .i64 0, .int .i64 0]), 3, 40) := by kernel_rfl
theorem b_info_sll : (Tryz.prog.info? 22).map (fun i => (i.zero, i.size, i.bytes)) = some (some (.slice none 0 0), 1, 24) := by kernel_rfl
theorem b_info_sle : (Tryz.prog.info? 42).map (fun i => (i.zero, i.size, i.bytes)) = some (some (.slice none 0 0), 1, 24) := by kernel_rfl
set_option maxHeartbeats 1000000 in
theorem clI_any (xs : List Int) (v : Value) (w : World) (hx : SlcAt 1 encI w v xs) (hn : xs.length < 10000000000) (R : Ending → World → Prop) (hR : ∀ w' x, Grow w w' → w'.ownsRow w.heap.size 3 1 x xs.length (xs.flatMap encI) → R (.returned x) w') :
    Calls Tryz.prog 49 #[v] w R := by
  have hx' := hx
  obtain ⟨a, c, rfl, h1, h2, h3⟩ := hx'
  have HX := Lib.hid hx
  have HR := Lib.hid hR
  clear hx hR
  have heq := fun (W : World) (a : Option Addr) (n c : Nat) => Lib.run_eql_slice_nil (P := Tryz.prog) W 46 3 a n c 0 0 Tryz.underlying46
  cases a with
  | none =>
    have hxs : xs = [] := by
      rcases h3 with ⟨h3, _⟩ | ⟨b, o, h3, _⟩
      · exact h3
      · cases h3
    subst hxs
    clear h3
    go_enter Tryz.func49, Tryz.ntmps49
    go_wp2_with fail
    exact HR.out _ _ (Grow.refl _) (World.ownsRow_nil _ _ _ _)
  | some ad =>
    clear h3
    go_enter Tryz.func49, Tryz.ntmps49
    go_wp2_with (at_builtin; refine wpList_appAll _ rfl (.tmp 5) (.tmp 6) 46 rfl w.heap.size 3 Tryz.underlying46 b_info_int rfl (by decide) (by decide) encI encI_len encI_one _ [] rfl (ownsRow_empty w 1 _ _ _ (Nat.le_refl _)) _ xs rfl (HX.out.grow ((Grow.refl w).alloc _)) (by simp; omega) (by simp) ?_; intro v1 w1 hown1 hgr1)
    exact HR.out _ _ (grown_below (ownsRow_empty (α := Int) w 1 3 encI _ (Nat.le_refl _)) hgr1 (Nat.le_refl _) (by simp) ((Grow.refl w).alloc _)) hown1

set_option maxHeartbeats 1000000 in
theorem clX_any (xs : List ByteArray) (v : Value) (w : World) (hx : SlcAt 1 encTx w v xs) (hn : xs.length < 10000000000) (R : Ending → World → Prop) (hR : ∀ w' x, Grow w w' → w'.ownsRow w.heap.size 9 1 x xs.length (xs.flatMap encTx) → R (.returned x) w') :
    Calls Tryz.prog 76 #[v] w R := by
  have hx' := hx
  obtain ⟨a, c, rfl, h1, h2, h3⟩ := hx'
  have HX := Lib.hid hx
  have HR := Lib.hid hR
  clear hx hR
  have heq := fun (W : World) (a : Option Addr) (n c : Nat) => Lib.run_eql_slice_nil (P := Tryz.prog) W 23 9 a n c 0 0 Tryz.underlying23
  cases a with
  | none =>
    have hxs : xs = [] := by
      rcases h3 with ⟨h3, _⟩ | ⟨b, o, h3, _⟩
      · exact h3
      · cases h3
    subst hxs
    clear h3
    go_enter Tryz.func76, Tryz.ntmps76
    go_wp2_with fail
    exact HR.out _ _ (Grow.refl _) (World.ownsRow_nil _ _ _ _)
  | some ad =>
    clear h3
    go_enter Tryz.func76, Tryz.ntmps76
    go_wp2_with (at_builtin; refine wpList_appAll _ rfl (.tmp 5) (.tmp 6) 23 rfl w.heap.size 9 Tryz.underlying23 b_info_str rfl (by decide) (by decide) encTx encTx_len encTx_one _ [] rfl (ownsRow_empty w 1 _ _ _ (Nat.le_refl _)) _ xs rfl (HX.out.grow ((Grow.refl w).alloc _)) (by simp; omega) (by simp) ?_; intro v1 w1 hown1 hgr1)
    exact HR.out _ _ (grown_below (ownsRow_empty (α := ByteArray) w 1 9 encTx _ (Nat.le_refl _)) hgr1 (Nat.le_refl _) (by simp) ((Grow.refl w).alloc _)) hown1

set_option maxHeartbeats 1000000 in
theorem clL_any (xs : List Ln) (v : Value) (w : World) (hx : SlcAt 4 encL w v xs) (hn : xs.length < 10000000000) (R : Ending → World → Prop) (hR : ∀ w' x, Grow w w' → w'.ownsRow w.heap.size 81 4 x xs.length (xs.flatMap encL) → R (.returned x) w') :
    Calls Tryz.prog 46 #[v] w R := by
  have hx' := hx
  obtain ⟨a, c, rfl, h1, h2, h3⟩ := hx'
  have HX := Lib.hid hx
  have HR := Lib.hid hR
  clear hx hR
  have heq := fun (W : World) (a : Option Addr) (n c : Nat) => Lib.run_eql_slice_nil (P := Tryz.prog) W 22 81 a n c 0 0 Tryz.underlying22
  cases a with
  | none =>
    have hxs : xs = [] := by
      rcases h3 with ⟨h3, _⟩ | ⟨b, o, h3, _⟩
      · exact h3
      · cases h3
    subst hxs
    clear h3
    go_enter Tryz.func46, Tryz.ntmps46
    go_wp2_with fail
    exact HR.out _ _ (Grow.refl _) (World.ownsRow_nil _ _ _ _)
  | some ad =>
    clear h3
    go_enter Tryz.func46, Tryz.ntmps46
    go_wp2_with (at_builtin; refine wpList_appAll _ rfl (.tmp 5) (.tmp 6) 22 rfl w.heap.size 81 Tryz.underlying22 b_info_ln rfl (by decide) (by decide) encL encL_len encL_one _ [] rfl (ownsRow_empty w 4 _ _ _ (Nat.le_refl _)) _ xs rfl (HX.out.grow ((Grow.refl w).alloc _)) (by simp; omega) (by simp) ?_; intro v1 w1 hown1 hgr1)
    exact HR.out _ _ (grown_below (ownsRow_empty (α := Ln) w 4 81 encL _ (Nat.le_refl _)) hgr1 (Nat.le_refl _) (by simp) ((Grow.refl w).alloc _)) hown1

set_option maxHeartbeats 1000000 in
theorem clE_any (xs : List Ed) (v : Value) (w : World) (hx : SlcAt 5 encE w v xs) (hn : xs.length < 10000000000) (R : Ending → World → Prop) (hR : ∀ w' x, Grow w w' → w'.ownsRow w.heap.size 105 5 x xs.length (xs.flatMap encE) → R (.returned x) w') :
    Calls Tryz.prog 50 #[v] w R := by
  have hx' := hx
  obtain ⟨a, c, rfl, h1, h2, h3⟩ := hx'
  have HX := Lib.hid hx
  have HR := Lib.hid hR
  clear hx hR
  have heq := fun (W : World) (a : Option Addr) (n c : Nat) => Lib.run_eql_slice_nil (P := Tryz.prog) W 42 105 a n c 0 0 Tryz.underlying42
  cases a with
  | none =>
    have hxs : xs = [] := by
      rcases h3 with ⟨h3, _⟩ | ⟨b, o, h3, _⟩
      · exact h3
      · cases h3
    subst hxs
    clear h3
    go_enter Tryz.func50, Tryz.ntmps50
    go_wp2_with fail
    exact HR.out _ _ (Grow.refl _) (World.ownsRow_nil _ _ _ _)
  | some ad =>
    clear h3
    go_enter Tryz.func50, Tryz.ntmps50
    go_wp2_with (at_builtin; refine wpList_appAll _ rfl (.tmp 5) (.tmp 6) 42 rfl w.heap.size 105 Tryz.underlying42 b_info_ed rfl (by decide) (by decide) encE encE_len encE_one _ [] rfl (ownsRow_empty w 5 _ _ _ (Nat.le_refl _)) _ xs rfl (HX.out.grow ((Grow.refl w).alloc _)) (by simp; omega) (by simp) ?_; intro v1 w1 hown1 hgr1)
    exact HR.out _ _ (grown_below (ownsRow_empty (α := Ed) w 5 105 encE _ (Nat.le_refl _)) hgr1 (Nat.le_refl _) (by simp) ((Grow.refl w).alloc _)) hown1

set_option maxHeartbeats 1000000 in
theorem clT_any (xs : List Tq) (v : Value) (w : World) (hx : SlcAt 3 encTq w v xs) (hn : xs.length < 10000000000) (R : Ending → World → Prop) (hR : ∀ w' x, Grow w w' → w'.ownsRow w.heap.size 101 3 x xs.length (xs.flatMap encTq) → R (.returned x) w') :
    Calls Tryz.prog 173 #[v] w R := by
  have hx' := hx
  obtain ⟨a, c, rfl, h1, h2, h3⟩ := hx'
  have HX := Lib.hid hx
  have HR := Lib.hid hR
  clear hx hR
  have heq := fun (W : World) (a : Option Addr) (n c : Nat) => Lib.run_eql_slice_nil (P := Tryz.prog) W 36 101 a n c 0 0 Tryz.underlying36
  cases a with
  | none =>
    have hxs : xs = [] := by
      rcases h3 with ⟨h3, _⟩ | ⟨b, o, h3, _⟩
      · exact h3
      · cases h3
    subst hxs
    clear h3
    go_enter Tryz.func173, Tryz.ntmps173
    go_wp2_with fail
    exact HR.out _ _ (Grow.refl _) (World.ownsRow_nil _ _ _ _)
  | some ad =>
    clear h3
    go_enter Tryz.func173, Tryz.ntmps173
    go_wp2_with (at_builtin; refine wpList_appAll _ rfl (.tmp 5) (.tmp 6) 36 rfl w.heap.size 101 Tryz.underlying36 b_info_ts rfl (by decide) (by decide) encTq encTq_len encTq_one _ [] rfl (ownsRow_empty w 3 _ _ _ (Nat.le_refl _)) _ xs rfl (HX.out.grow ((Grow.refl w).alloc _)) (by simp; omega) (by simp) ?_; intro v1 w1 hown1 hgr1)
    exact HR.out _ _ (grown_below (ownsRow_empty (α := Tq) w 3 101 encTq _ (Nat.le_refl _)) hgr1 (Nat.le_refl _) (by simp) ((Grow.refl w).alloc _)) hown1

set_option maxHeartbeats 1000000 in
theorem clLL_any (xs : List (Lo Ln)) (v : Value) (w : World) (hx : SlcAt 1 encLo w v xs) (hn : xs.length < 10000000000) (R : Ending → World → Prop) (hR : ∀ w' x, Grow w w' → w'.ownsRow w.heap.size 22 1 x xs.length (xs.flatMap encLo) → R (.returned x) w') :
    Calls Tryz.prog 172 #[v] w R := by
  have hx' := hx
  obtain ⟨a, c, rfl, h1, h2, h3⟩ := hx'
  have HX := Lib.hid hx
  have HR := Lib.hid hR
  clear hx hR
  have heq := fun (W : World) (a : Option Addr) (n c : Nat) => Lib.run_eql_slice_nil (P := Tryz.prog) W 89 22 a n c 0 0 Tryz.underlying89
  cases a with
  | none =>
    have hxs : xs = [] := by
      rcases h3 with ⟨h3, _⟩ | ⟨b, o, h3, _⟩
      · exact h3
      · cases h3
    subst hxs
    clear h3
    go_enter Tryz.func172, Tryz.ntmps172
    go_wp2_with fail
    exact HR.out _ _ (Grow.refl _) (World.ownsRow_nil _ _ _ _)
  | some ad =>
    clear h3
    go_enter Tryz.func172, Tryz.ntmps172
    go_wp2_with (at_builtin; refine wpList_appAll _ rfl (.tmp 5) (.tmp 6) 89 rfl w.heap.size 22 Tryz.underlying89 b_info_sll rfl (by decide) (by decide) encLo encLo_len encLo_one _ [] rfl (ownsRow_empty w 1 _ _ _ (Nat.le_refl _)) _ xs rfl (HX.out.grow ((Grow.refl w).alloc _)) (by simp; omega) (by simp) ?_; intro v1 w1 hown1 hgr1)
    exact HR.out _ _ (grown_below (ownsRow_empty (α := (Lo Ln)) w 1 22 encLo _ (Nat.le_refl _)) hgr1 (Nat.le_refl _) (by simp) ((Grow.refl w).alloc _)) hown1

set_option maxHeartbeats 1000000 in
theorem clEE_any (xs : List (Lo Ed)) (v : Value) (w : World) (hx : SlcAt 1 encLo w v xs) (hn : xs.length < 10000000000) (R : Ending → World → Prop) (hR : ∀ w' x, Grow w w' → w'.ownsRow w.heap.size 42 1 x xs.length (xs.flatMap encLo) → R (.returned x) w') :
    Calls Tryz.prog 171 #[v] w R := by
  have hx' := hx
  obtain ⟨a, c, rfl, h1, h2, h3⟩ := hx'
  have HX := Lib.hid hx
  have HR := Lib.hid hR
  clear hx hR
  have heq := fun (W : World) (a : Option Addr) (n c : Nat) => Lib.run_eql_slice_nil (P := Tryz.prog) W 38 42 a n c 0 0 Tryz.underlying38
  cases a with
  | none =>
    have hxs : xs = [] := by
      rcases h3 with ⟨h3, _⟩ | ⟨b, o, h3, _⟩
      · exact h3
      · cases h3
    subst hxs
    clear h3
    go_enter Tryz.func171, Tryz.ntmps171
    go_wp2_with fail
    exact HR.out _ _ (Grow.refl _) (World.ownsRow_nil _ _ _ _)
  | some ad =>
    clear h3
    go_enter Tryz.func171, Tryz.ntmps171
    go_wp2_with (at_builtin; refine wpList_appAll _ rfl (.tmp 5) (.tmp 6) 38 rfl w.heap.size 42 Tryz.underlying38 b_info_sle rfl (by decide) (by decide) encLo encLo_len encLo_one _ [] rfl (ownsRow_empty w 1 _ _ _ (Nat.le_refl _)) _ xs rfl (HX.out.grow ((Grow.refl w).alloc _)) (by simp; omega) (by simp) ?_; intro v1 w1 hown1 hgr1)
    exact HR.out _ _ (grown_below (ownsRow_empty (α := (Lo Ed)) w 1 42 encLo _ (Nat.le_refl _)) hgr1 (Nat.le_refl _) (by simp) ((Grow.refl w).alloc _)) hown1

end Go.Proofs.YtgjppekjkofdiaaGreatDoor

namespace Go.Proofs.YtgjppekjkofdiaaGreatDoor
open Go.RowKit

structure TqOwn (base : Nat) (w : World) (v : Value) (L : List Tq) : Prop where
  row : w.ownsRow base 101 3 v L.length (L.flatMap encTq)
  ins : ∀ t ∈ L, IntsAt w (.slice t.a t.n t.c) t.xs
  off : ∀ t ∈ L, ∀ b o s, t.a = some ⟨b, o, s⟩ → v.ownBlock ≠ some b ∧ b < w.heap.size ∧ base ≤ b
theorem TqOwn.nil (base : Nat) (w : World) : TqOwn base w (.slice none 0 0) [] := ⟨World.ownsRow_nil _ _ _ _, by simp, by simp⟩
theorem TqOwn.grow {base : Nat} {w w' : World} {v : Value} {L : List Tq} (h : TqOwn base w v L) (g : Grow w w') : TqOwn base w' v L :=
  ⟨g.owns h.row, fun t ht => (h.ins t ht).grow g, fun t ht b o s hb => ⟨(h.off t ht b o s hb).1, Nat.lt_of_lt_of_le (h.off t ht b o s hb).2.1 g.sz, (h.off t ht b o s hb).2.2⟩⟩
theorem TqOwn.lt {base : Nat} {w : World} {v : Value} {L : List Tq} (h : TqOwn base w v L) {b : Nat} (hb : v.ownBlock = some b) : b < w.heap.size := (h.row.lt b hb).2
theorem TqOwn.at_ {base : Nat} {w : World} {v : Value} {L : List Tq} (h : TqOwn base w v L) : TqAt w v L := ⟨slc_of_owns encTq_len h.row, h.ins⟩
theorem TqOwn.new {base : Nat} {w w' : World} {v : Value} {L : List Tq} (h : TqOwn base w v L) (hb0 : base ≤ w.heap.size) {a : Option Addr} {n c : Nat} {xs : List Int} (ho : Own 1 encI w.heap.size w' (.slice a n c) xs) : ∀ b o s, a = some ⟨b, o, s⟩ → v.ownBlock ≠ some b ∧ b < w'.heap.size ∧ base ≤ b := by
  intro b o s hb
  obtain ⟨h1, h2⟩ := own_blk2 ho b o s hb
  exact ⟨fun he => by have := h.lt he; omega, h2, by omega⟩
theorem TqOwn.app {base : Nat} {w w' : World} {v v' : Value} {L : List Tq} {t : Tq} (h : TqOwn base w v L) (hgr : w.grownBy w' v.ownBlock) (hown : w'.ownsRow base 101 3 v' (L ++ [t]).length ((L ++ [t]).flatMap encTq)) (hat : v'.ownBlock = v.ownBlock ∨ v'.ownBlock = some w.heap.size)
    (ht : IntsAt w (.slice t.a t.n t.c) t.xs) (hoff : ∀ b o s, t.a = some ⟨b, o, s⟩ → v.ownBlock ≠ some b ∧ b < w.heap.size ∧ base ≤ b) : TqOwn base w' v' (L ++ [t]) := by
  have hall : ∀ u ∈ L ++ [t], IntsAt w (.slice u.a u.n u.c) u.xs ∧ ∀ b o s, u.a = some ⟨b, o, s⟩ → v.ownBlock ≠ some b ∧ b < w.heap.size ∧ base ≤ b := by
    intro u hu
    rcases List.mem_append.1 hu with hu | hu
    · exact ⟨h.ins u hu, h.off u hu⟩
    · simp at hu; subst hu; exact ⟨ht, hoff⟩
  refine ⟨hown, fun u hu => slc_kept (hall u hu).1 hgr fun b o s hb => ((hall u hu).2 b o s hb).1, fun u hu b o s hb => ?_⟩
  obtain ⟨h1, h2, h3⟩ := (hall u hu).2 b o s hb
  refine ⟨fun he => ?_, Nat.lt_of_lt_of_le h2 hgr.size, h3⟩
  rcases hat with h4 | h4
  · rw [h4] at he; exact h1 he
  · rw [h4] at he; have := Option.some.inj he; omega
end Go.Proofs.YtgjppekjkofdiaaGreatDoor

namespace Go.Proofs.YtgjppekjkofdiaaGreatDoor
open Go.RowKit

structure RowO (base : Nat) (w : World) (a : Option Addr) (n c : Nat) (q : List Ln) : Prop where
  at_ : LinesAt w (.slice a n c) q
  row : q ≠ [] → ∃ g, a = some ⟨g, 0, none⟩ ∧ base ≤ g ∧ g < w.heap.size ∧ RowL w g 0 q
theorem RowO.grow {base : Nat} {w w' : World} {a : Option Addr} {n c : Nat} {q : List Ln} (h : RowO base w a n c q) (g : Grow w w') : RowO base w' a n c q :=
  ⟨h.at_.grow g, fun hq => let ⟨b, e, h1, h2, h3⟩ := h.row hq; ⟨b, e, h1, Nat.lt_of_lt_of_le h2 g.sz, h3.grow g h2⟩⟩
theorem RowO.of_own {base e : Nat} {w : World} {v : Value} {q : List Ln} (h : w.ownsRow base e 4 v q.length (q.flatMap encL)) : ∃ a c, v = .slice a q.length c ∧ RowO base w a q.length c q := by
  have hs := slc_of_owns encL_len h
  obtain ⟨a, c, rfl, h1, h2, h3⟩ := hs
  refine ⟨a, c, rfl, ⟨slc_of_owns encL_len h, fun hq => ?_⟩⟩
  rcases h.2 with ⟨hv, h0⟩ | ⟨g, cap, cur, hv, hg, hh, _⟩
  · exact absurd (List.length_eq_zero_iff.1 (by first | exact h0 | (cases hv; simp_all))) hq
  · cases hv
    exact ⟨g, rfl, hg, lt_of_block hh, RowL.of_own h⟩
theorem RowO.set {base g n c : Nat} {w : World} {q : List Ln} (h : RowO base w (some ⟨g, 0, none⟩) n c q) {k : Nat} (hk : k < q.length) (l : Ln) : RowO base (storeL w g (k * 4) l) (some ⟨g, 0, none⟩) n c (q.set k l) := by
  obtain ⟨g', e, h1, h2, h3⟩ := h.row (by intro e; rw [e] at hk; simp at hk)
  cases e
  have h4 := h3.set hk l
  rw [Nat.zero_add] at h4
  have h5 := h.at_
  obtain ⟨a', c', e5, h6, h7, _⟩ := h5
  cases e5
  have hz : g < (storeL w g (k * 4) l).heap.size := by rw [size_storeL]; exact h2
  refine ⟨?_, fun _ => ⟨g, rfl, h1, hz, h4⟩⟩
  have h8 := h4.slc (c := c) hz (by rw [List.length_set]; exact h6) h7
  rw [List.length_set] at h8
  exact h8

set_option maxHeartbeats 2000000 in
theorem soffF_any (t op d a b : Int) (n c : Nat) (ad : Option Addr) (bp : Nat) (w : World) (hb : w.heap[bp]? = some (.cells #[.slice ad n c] 22 (0, 0))) (R : Ending → World → Prop)
    (hR : ∀ w', Grow w w' → R (.returned (.bool (decide ((n : Int) ≤ t)))) w') :
    Calls Tryz.prog 143 #[.agg #[.int .i64 t, .int .i64 op, .int .i64 d, .int .i64 a, .int .i64 b], .pointer (some ⟨bp, 0, none⟩)] w R := by
  have HR := Lib.hid hR
  have c0 := box1 hb
  have hz := lt_of_block hb
  clear hR hb
  by_cases h : (n : Int) ≤ t
  · rw [decide_eq_true h] at HR
    have t1 : t ≥ (n : Int) := h
    go_enter Tryz.func143, Tryz.ntmps143
    go_wp2_with fail
    exact HR.out _ ((Grow.refl _).alloc _)
  · rw [decide_eq_false h] at HR
    have t1 : ¬ t ≥ (n : Int) := h
    go_enter Tryz.func143, Tryz.ntmps143
    go_wp2_with fail
    exact HR.out _ ((Grow.refl _).alloc _)

theorem hist_at {n : Nat} {h : List (List Ed)} (hh : histB n h = true) {k : Nat} {x : List Ed} (hx : h[k]? = some x) : valX x = 0 ∧ offB n x = false := by
  have := List.all_eq_true.1 hh x (List.mem_of_getElem? hx)
  simpa using this

set_option maxRecDepth 100000 in
set_option maxHeartbeats 8000000 in
theorem sValidate_any (p : List Ln) (h : List (List Ed)) (L : List (Lo Ed)) (pv hv : Value) (w : World) (hp : LinesAt w pv p) (hl : LlAt 5 encE w hv L) (hL : L.map Lo.x = h) (h0 : valP p = 0) (h8 : h.length ≤ 8) (hh : histB p.length h = true) (R : Ending → World → Prop)
    (hR : ∀ w', Grow w w' → R (.returned (.int .i64 0)) w') :
    Calls Tryz.prog 84 #[pv, hv] w R := by
  have HP := Lib.hid hp
  have HL := Lib.hid hl
  have HLX := Lib.hid hL
  have HR := Lib.hid hR
  have H0 := Lib.hid h0
  have HH := Lib.hid hh
  have hll : L.length = h.length := by rw [← hL]; simp
  obtain ⟨pa, pc, rfl, p1, p2, jk⟩ := hp
  obtain ⟨ha, hc, rfl, l1, l2, jk2⟩ := hl.at_
  rw [hll] at l1 HL ⊢
  have eg : Enters Tryz.prog 143 := enters_of Tryz.func143 (by kernel_rfl) rfl
  have EG := Lib.hid eg
  have h8z : decide ((h.length : Int) > 8) = false := by rw [decide_eq_false_iff_not]; omega
  clear hR hl hL h0 hh jk jk2 eg
  go_enter Tryz.func84, Tryz.ntmps84
  go_wp2_with fail
  have hb := heap_alloc_new w (.cells #[.slice pa p.length pc] 22)
  have hg := (Grow.refl w).alloc (.cells #[.slice pa p.length pc] 22)
  generalize w.alloc (.cells #[.slice pa p.length pc] 22) = W at hb hg ⊢
  refine validate_any p _ _ (HP.out.grow hg) _ ?_
  intro w1 hg1
  rw [H0.out]
  have HB := Lib.hid (hg1.blk hb)
  have HG := Lib.hid (hg.trans hg1)
  clear hb hg hg1
  go_wp2_with fail
  go_loopw [19] (fun s wr => ∃ k : Nat, k ≤ h.length ∧ s = .int .i64 k ∧ Grow w1 wr) (fun s _ => h.length - (intOf s).toNat)
  case atStart => exact ⟨0, Nat.zero_le _, rfl, Grow.refl _⟩
  case round =>
  obtain ⟨k, hk, rfl, hgr⟩ := hrel
  have HGR := Lib.hid (HG.out.trans hgr)
  have HB1 := Lib.hid (hgr.blk HB.out)
  have HG1 := Lib.hid hgr
  clear hgr
  by_cases hlt : k < h.length
  · have hltz : (k : Int) < (h.length : Int) := by omega
    obtain ⟨t, ht⟩ : ∃ t, L[k]? = some t := ⟨_, List.getElem?_eq_getElem (by omega)⟩
    obtain ⟨b, o, rfl, hbl, y0⟩ := lo_at (HL.out.grow HGR.out).at_ ht
    have hxk : h[k]? = some t.x := by rw [← HLX.out, List.getElem?_map, ht]; rfl
    obtain ⟨hx1, hx2⟩ := hist_at HH.out hxk
    have HI := Lib.hid ((HL.out.grow HGR.out).ins t (List.mem_of_getElem? ht))
    have HX1 := Lib.hid hx1
    have HX2 := Lib.hid hx2
    clear ht hxk hx1 hx2
    go_wp2_with fail
    refine validateX_any t.x _ _ HI.out _ ?_
    intro w2 hg2
    rw [HX1.out]
    have HB2 := Lib.hid (hg2.blk HB1.out)
    have HG2 := Lib.hid (HG1.out.trans hg2)
    have HI2 := Lib.hid (HI.out.grow hg2)
    clear hg2 y0
    go_wp2_with fail
    have hpred : PredE 143 #[.pointer (some ⟨w.heap.size, 0, none⟩)] w2 (fun e => decide ((p.length : Int) ≤ e.at_)) := fun t op d a b W hgW R hR => soffF_any t op d a b _ _ _ _ W (hgW.blk HB2.out) R hR
    refine containsFuncE_any 143 _ EG.out (fun e => decide ((p.length : Int) ≤ e.at_)) t.x _ _ HI2.out hpred _ ?_
    intro w3 hg3
    rw [show t.x.any (fun e => decide ((p.length : Int) ≤ e.at_)) = false from HX2.out]
    have HG3 := Lib.hid (HG2.out.trans hg3)
    clear hg3 hpred
    go_wp2_with fail
    go_roundw
    case rel => exact ⟨k + 1, by omega, by go_num, HG3.out⟩
    case measure => simp [intOf]; omega
  · obtain rfl : k = h.length := by omega
    have hltz : ¬ (h.length : Int) < (h.length : Int) := by omega
    have HF := Lib.hid (HR.out wr HGR.out)
    go_wp2_with fail
    exact HF.out

theorem play_step {p : List Ln} {h : List (List Ed)} {k : Nat} {x : List Ed} (hx : h[k]? = some x) : playM p (h.take (k + 1)) = setAll (playM p (h.take k)) x := by
  rw [List.take_add_one, hx]
  exact playM_snoc p (h.take k) x
theorem playM_length (p : List Ln) (h : List (List Ed)) : (playM p h).length = p.length := by
  unfold playM
  induction h generalizing p with
  | nil => rfl
  | cons x r ih => rw [List.foldl_cons, ih, setAll_length]
set_option maxRecDepth 100000 in
set_option maxHeartbeats 8000000 in
theorem splay_any (p : List Ln) (h : List (List Ed)) (L : List (Lo Ed)) (pv hv : Value) (w : World) (hp : LinesAt w pv p) (hl : LlAt 5 encE w hv L) (hL : L.map Lo.x = h) (h0 : valP p = 0) (hh : histB p.length h = true) (R : Ending → World → Prop)
    (hR : ∀ w' v, Grow w w' → LinesAt w' v (playM p h) → R (.returned v) w') :
    Calls Tryz.prog 85 #[pv, hv] w R := by
  have HP := Lib.hid hp
  have HL := Lib.hid hl
  have HLX := Lib.hid hL
  have HR := Lib.hid hR
  have HH := Lib.hid hh
  have hll : L.length = h.length := by rw [← hL]; simp
  have hpl : p.length ≤ 8 := (valP_ok.1 h0).1
  obtain ⟨ha, hc, rfl, l1, l2, jk2⟩ := hl.at_
  rw [hll] at l1 HL ⊢
  clear hR hl hL hp h0 hh jk2
  go_enter Tryz.func85, Tryz.ntmps85
  go_wp2_with fail
  refine clL_any p pv _ HP.out (by omega) _ ?_
  intro w1 ov hg1 how
  obtain ⟨oa, oc, rfl, hro⟩ := RowO.of_own how
  have HG1 := Lib.hid hg1
  have HRO := Lib.hid hro
  have hcm : p.length ≤ oc := by obtain ⟨_, _, e, h1, _⟩ := hro.at_; cases e; exact h1
  have hcx : oc ≤ 9223372036854775807 := by obtain ⟨_, _, e, _, h1, _⟩ := hro.at_; cases e; exact h1
  clear hg1 how hro
  go_wp2_with fail
  go_loopw [14] (fun s wr => ∃ k : Nat, k ≤ h.length ∧ s = .int .i64 k ∧ Grow w wr ∧ RowO w.heap.size wr oa p.length oc (playM p (h.take k))) (fun s _ => h.length - (intOf s).toNat)
  case atStart => exact ⟨0, Nat.zero_le _, rfl, HG1.out, HRO.out⟩
  case round =>
  obtain ⟨k, hk, rfl, hgr, hro⟩ := hrel
  have HGR := Lib.hid hgr
  have HRK := Lib.hid hro
  clear hgr hro
  by_cases hlt : k < h.length
  · have hltz : (k : Int) < (h.length : Int) := by omega
    obtain ⟨t, ht⟩ : ∃ t, L[k]? = some t := ⟨_, List.getElem?_eq_getElem (by omega)⟩
    obtain ⟨b, o, rfl, hbl, y0⟩ := lo_at (HL.out.grow HGR.out).at_ ht
    have hxk : h[k]? = some t.x := by rw [← HLX.out, List.getElem?_map, ht]; rfl
    obtain ⟨hx1, hx2⟩ := hist_at HH.out hxk
    obtain ⟨hx4, hxo⟩ := valX_ok.1 hx1
    obtain ⟨ta, tn, tc, x⟩ := t
    have HI := Lib.hid (HL.out.ins _ (List.mem_of_getElem? ht))
    dsimp only at hxk hx1 hx2 hx4 hxo y0 HI
    have htn : tn = x.length := by obtain ⟨_, _, e, _⟩ := HI.out; cases e; rfl
    subst htn
    have HXK := Lib.hid hxk
    have HX2 := Lib.hid hx2
    have HXO := Lib.hid hxo
    obtain ⟨q, hq⟩ : ∃ q, playM p (h.take k) = q := ⟨_, rfl⟩
    have hql : q.length = p.length := by rw [← hq, playM_length]
    have HQ := Lib.hid hq
    have HQL := Lib.hid hql
    rw [hq] at HRK
    obtain ⟨w3, rfl⟩ : ∃ w3 : World, w3 = wr := ⟨_, rfl⟩
    clear ht hxk hx1 hx2 hxo hq hql
    go_wp2_with fail
    go_loopw [20] (fun s wr => ∃ j : Nat, j ≤ x.length ∧ s = .int .i64 j ∧ Grow w wr ∧ RowO w.heap.size wr oa p.length oc (setAll q (x.take j))) (fun s _ => x.length - (intOf s).toNat)
    case atStart => exact ⟨0, Nat.zero_le _, rfl, HGR.out, HRK.out⟩
    case round =>
    obtain ⟨j, hj, rfl, hgr, hro⟩ := hrel
    have HGJ := Lib.hid hgr
    have HRJ := Lib.hid hro
    have hwz := hgr.sz
    clear hgr hro
    by_cases hjt : j < x.length
    · have hjtz : (j : Int) < (x.length : Int) := by omega
      obtain ⟨⟨et, op, d, a, b2⟩, hx⟩ : ∃ e, x[j]? = some e := ⟨_, List.getElem?_eq_getElem hjt⟩
      obtain ⟨eb, eo, rfl, hbe, d0, d1, d2, d3, d4⟩ := edits_at HI.out hx
      have c0 := HGJ.out.cell d0
      have c1 := HGJ.out.cell d1
      have c2 := HGJ.out.cell d2
      have c3 := HGJ.out.cell d3
      have c4 := HGJ.out.cell d4
      obtain ⟨⟨e0, _⟩, _⟩ := edsOK_at HXO.out hx
      have e1 : et < (p.length : Int) := by
        have h := HX2.out
        unfold offB at h
        have := List.any_eq_false.1 h _ (List.mem_of_getElem? hx)
        simp at this; omega
      obtain ⟨m, rfl⟩ : ∃ m : Nat, et = m := ⟨et.toNat, by dsimp only at e0; omega⟩
      have hmp : (m : Int) < (p.length : Int) := e1
      have hsl : (setAll q (x.take j)).length = p.length := by rw [setAll_length, HQL.out]
      have hmq : m < (setAll q (x.take j)).length := by rw [hsl]; omega
      obtain ⟨g, e2, hg1, hg2, hrl⟩ := HRJ.out.row (by intro e; rw [e] at hmq; simp at hmq)
      subst e2
      obtain ⟨⟨lo, ld, la, lb⟩, hl0⟩ : ∃ l, (setAll q (x.take j))[m]? = some l := ⟨_, List.getElem?_eq_getElem hmq⟩
      obtain ⟨⟨f0, f1, f2, f3⟩, z0, z1, z2, z3⟩ := hrl.at hl0
      simp only [Nat.zero_add] at f0 f1 f2 f3 z0 z1 z2 z3
      have HNX := Lib.hid (show setAll q (x.take (j + 1)) = (setAll q (x.take j)).set m ⟨op, d, a, b2⟩ by rw [List.take_add_one, hx]; exact setAll_snoc q (x.take j) _)
      have HMQ := Lib.hid hmq
      have hne : eb ≠ g := by omega
      clear d0 d1 d2 d3 d4 hx hl0 hrl hmq hsl e0 e1
      go_wp2_with fail
      go_roundw
      case rel =>
        have h1 := (HRJ.out.set HMQ.out ⟨op, d, a, b2⟩).grow ((Grow.refl _).alloc (.cells #[.int .i64 (m : Int), .int .i64 op, .int .i64 d, .int .i64 a, .int .i64 b2] 105))
        have h2 := Grow.alloc (below_storeL (i := m * 4) ⟨op, d, a, b2⟩ HGJ.out hg1) (.cells #[.int .i64 (m : Int), .int .i64 op, .int .i64 d, .int .i64 a, .int .i64 b2] 105)
        exact ⟨j + 1, by omega, by go_num, h2, by rw [HNX.out]; exact h1⟩
      case measure => simp [intOf]; omega
    · obtain rfl : j = x.length := by omega
      have hjtz : ¬ (x.length : Int) < (x.length : Int) := by omega
      have hro := HRJ.out
      rw [List.take_length] at hro
      have HRN := Lib.hid (show RowO w.heap.size wr oa p.length oc (playM p (h.take (k + 1))) by rw [play_step HXK.out, HQ.out]; exact hro)
      clear hro
      go_wp2_with fail
      go_roundw
      case rel => exact ⟨k + 1, by omega, by go_num, HGJ.out, HRN.out⟩
      case measure => simp [intOf]; omega
  · obtain rfl : k = h.length := by omega
    have hltz : ¬ (h.length : Int) < (h.length : Int) := by omega
    have hro := HRK.out.at_
    rw [List.take_length] at hro
    have HF := Lib.hid (HR.out wr _ HGR.out hro)
    clear hro
    go_wp2_with fail
    exact HF.out
set_option maxHeartbeats 2000000 in
theorem Play_any (p : List Ln) (h : List (List Ed)) (L : List (Lo Ed)) (pv hv : Value) (w : World) (hp : LinesAt w pv p) (hl : LlAt 5 encE w hv L) (hL : L.map Lo.x = h) (h0 : valP p = 0) (h8 : h.length ≤ 8) (hh : histB p.length h = true) (R : Ending → World → Prop)
    (hR : ∀ w' v, Grow w w' → LinesAt w' v (playM p h) → R (.returned (.tuple #[v, .int .i64 0])) w') :
    Calls Tryz.prog 56 #[pv, hv] w R := by
  have HP := Lib.hid hp
  have HL := Lib.hid hl
  have HLX := Lib.hid hL
  have HR := Lib.hid hR
  have HH := Lib.hid hh
  have H0 := Lib.hid h0
  clear hR hl hL hp h0 hh
  go_enter Tryz.func56, Tryz.ntmps56
  go_wp2_with fail
  refine sValidate_any p h L _ _ _ HP.out HL.out HLX.out H0.out h8 HH.out _ ?_
  intro w1 hg1
  have HG1 := Lib.hid hg1
  clear hg1
  go_wp2_with fail
  refine splay_any p h L _ _ _ (HP.out.grow HG1.out) (HL.out.grow HG1.out) HLX.out H0.out HH.out _ ?_
  intro w2 v2 hg2 hv2
  have HF := Lib.hid (HR.out w2 v2 (HG1.out.trans hg2) hv2)
  clear hg2 hv2
  go_wp2_with fail
  first | exact HF.out | exact bodyPost_ret (by simp [results, Tryz.results56, go_sem]) rfl HF.out
end Go.Proofs.YtgjppekjkofdiaaGreatDoor
