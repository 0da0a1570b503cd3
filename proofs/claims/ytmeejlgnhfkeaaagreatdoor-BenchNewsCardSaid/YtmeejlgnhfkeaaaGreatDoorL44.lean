/-











-/
import Derived.Test.YtmeejlgnhfkeaaaGreatDoorL32
import Derived.Test.YtmeejlgnhfkeaaaGreatDoorL43
import Derived.Test.YtmeejlgnhfkeaaaGreatDoorL00
import Derived.ArgAppend
import Derived.Maps.AppendAt
import Derived.Test.YtmeejlgnhfkeaaaGreatDoorL01
import Derived.Test.YtmeejlgnhfkeaaaGreatDoorL23
import Derived.Test.YtmeejlgnhfkeaaaGreatDoorL34
import Derived.Test.YtmeejlgnhfkeaaaGreatDoorL21
import Derived.Test.YtmeejlgnhfkeaaaGreatDoorL20
import Derived.Test.YtmeejlgnhfkeaaaGreatDoorL19
import Derived.Test.YtmeejlgnhfkeaaaGreatDoorL09
import Derived.Test.YtmeejlgnhfkeaaaGreatDoorL45
import Derived.Test.YtmeejlgnhfkeaaaGreatDoorL46
import Derived.Test.YtmeejlgnhfkeaaaGreatDoorL41
namespace Go.Proofs.YtmeejlgnhfkeaaaGreatDoor
open Go.RowKit
def DRow (w : World) (base : Nat) (T : TypeId) (k : Nat) (v : Value) (n : Nat) (xs : List Value) : Prop :=
 w.ownsRow base T k v n xs ∨
 ∃ g cur, v = .slice (some ⟨g, 0, none⟩) n n ∧ base ≤ g ∧ w.heap[g]? = some (.cells cur T (0, 0)) ∧ xs.length = n * k ∧ n ≤ maxLen ∧ n * k ≤ cur.size ∧ cur.toList.take (n * k) = xs
theorem DRow.nil (w : World) (base : Nat) (T : TypeId) (k : Nat) : DRow w base T k (.slice none 0 0) 0 [] := .inl (World.ownsRow_nil _ _ _ _)
theorem DRow.len {w : World} {base : Nat} {T : TypeId} {k : Nat} {v : Value} {n : Nat} {xs : List Value} (h : DRow w base T k v n xs) : xs.length = n * k := by
 rcases h with h | ⟨g, cur, _, _, _, h, _⟩
 ·exact h.1
 ·exact h
theorem DRow.blk {w : World} {base : Nat} {T : TypeId} {k : Nat} {v : Value} {n : Nat} {xs : List Value} (h : DRow w base T k v n xs) {b : Nat} (hb : v.ownBlock = some b) : base ≤ b ∧ ∃ cur, w.heap[b]? = some (.cells cur T (0, 0)) := by
 rcases h with h | ⟨g, cur, rfl, h1, h2, _⟩
 ·rcases h.2 with ⟨rfl, _⟩ | ⟨g, cap, cur, rfl, h1, h2, _⟩
  ·cases hb
  ·cases hb; exact ⟨h1, cur, h2⟩
 ·cases hb; exact ⟨h1, cur, h2⟩
theorem DRow.lt {w : World} {base : Nat} {T : TypeId} {k : Nat} {v : Value} {n : Nat} {xs : List Value} (h : DRow w base T k v n xs) {b : Nat} (hb : v.ownBlock = some b) : b < w.heap.size := by
 obtain ⟨_, cur, h2⟩ := h.blk hb
 exact lt_of_block h2
theorem DRow.keep {w w' : World} {base : Nat} {T : TypeId} {k : Nat} {v : Value} {n : Nat} {xs : List Value} (h : DRow w base T k v n xs) (hk : ∀ b o, v.ownBlock = some b → w.heap[b]? = some o → w'.heap[b]? = some o) : DRow w' base T k v n xs := by
 rcases h with h | ⟨g, cur, rfl, h1, h2, h3⟩
 ·refine .inl ⟨h.1, h.2.imp id ?_⟩
  rintro ⟨g, cap, cur, rfl, h1, h2, h3⟩
  exact ⟨g, cap, cur, rfl, h1, hk g _ rfl h2, h3⟩
 ·exact .inr ⟨g, cur, rfl, h1, hk g _ rfl h2, h3⟩
theorem DRow.cut {w : World} {base : Nat} {T : TypeId} {k : Nat} {a : Option Addr} {n c : Nat} {xs : List Value} (h : DRow w base T k (.slice a n c) n xs) {m : Nat} (hm : m ≤ n) : DRow w base T k (.slice a m m) m (xs.take (m * k)) := by
 have hmk : m * k ≤ n * k := Nat.mul_le_mul_right _ hm
 rcases h with h | ⟨g, cur, e, h1, h2, h3, h4, h5, h6⟩
 ·obtain ⟨h0, h | ⟨g, cap, cur, e, h1, h2, h3, h4, h5, h6⟩⟩ := h
  ·obtain ⟨e, rfl⟩ := h
   cases e
   obtain rfl : m = 0 := by omega
   refine .inl ⟨?_, .inl ⟨rfl, rfl⟩⟩
   simp
  ·cases e
   refine .inr ⟨g, cur, rfl, h1, h2, ?_, by omega, ?_, ?_⟩
   ·rw [List.length_take, h0]; omega
   ·rw [h5]; exact Nat.mul_le_mul_right _ (by omega)
   ·rw [← h6, List.take_take, Nat.min_eq_left hmk]
 ·cases e
  refine .inr ⟨g, cur, rfl, h1, h2, ?_, by omega, by omega, ?_⟩
  ·rw [List.length_take, h3]; omega
  ·rw [← h6, List.take_take, Nat.min_eq_left hmk]
theorem DRow.slc {α : Type} {w : World} {base : Nat} {T : TypeId} {k : Nat} {enc : α → List Value} (hen : ∀ x, (enc x).length = k) {v : Value} {xs : List α} (h : DRow w base T k v xs.length (xs.flatMap enc)) : SlcAt k enc w v xs := by
 rcases h with h | ⟨g, cur, rfl, h1, h2, h3, h4, h5, h6⟩
 ·exact slc_of_owns hen h
 ·refine ⟨_, _, rfl, Nat.le_refl _, by simpa [maxLen] using h4, .inr ⟨g, 0, rfl, lt_of_block h2, fun j x hx i u hu => ?_⟩⟩
  have hi : i < k := by rw [← hen x]; exact (List.getElem?_eq_some_iff.1 hu).1
  have hj : j < xs.length := (List.getElem?_eq_some_iff.1 hx).1
  have hf := flatMap_getElem? hen xs j x hx i hi
  have hlt : j * k + i < xs.length * k := by
   have : (j + 1) * k ≤ xs.length * k := Nat.mul_le_mul_right _ hj
   rw [Nat.succ_mul] at this; omega
  rw [Nat.zero_add, cell_of_row w g (j * k + i) cur T (0, 0) h2]
  rw [← h6, List.getElem?_take, if_pos hlt, hu] at hf
  simpa using hf
end Go.Proofs.YtmeejlgnhfkeaaaGreatDoor

namespace Go.Proofs.YtmeejlgnhfkeaaaGreatDoor
open Go.RowKit
structure Ds where
 progs : List (List Ln)
 tests : List Tst
 lock : List Bool
 hist : List (List Ed)
 fixes : Int
 checks : Int
 orders : List ByteArray
def dkCells (V : V5) (s : Ds) : Array Value := #[.slice V.pa s.progs.length V.pc, .slice V.ta s.tests.length V.tc, .slice V.la s.lock.length V.lc, .slice V.ha s.hist.length V.hc, .int .i64 s.fixes, .int .i64 s.checks, .slice V.oa s.orders.length V.oc]
structure DRows (base : Nat) (H : Nat → Bool) (w : World) (V : V5) (s : Ds) : Prop where
 pr : ∃ L : List (Lo Ln), DRow w base 22 1 (.slice V.pa s.progs.length V.pc) L.length (L.flatMap encLo) ∧ L.map Lo.x = s.progs ∧ ∀ t ∈ L, SlcAt 4 encL (hideW H w) t.v t.x
 ts : ∃ T : List Tq, DRow w base 63 3 (.slice V.ta s.tests.length V.tc) T.length (T.flatMap encTq) ∧ T.map Tq.p = s.tests ∧ ∀ q ∈ T, IntsAt (hideW H w) (.slice q.a q.n q.c) q.xs
 lk : DRow w base 4 1 (.slice V.la s.lock.length V.lc) s.lock.length (s.lock.flatMap encT)
 hi : ∃ L : List (Lo Ed), DRow w base 58 1 (.slice V.ha s.hist.length V.hc) L.length (L.flatMap encLo) ∧ L.map Lo.x = s.hist ∧ ∀ t ∈ L, SlcAt 5 encE (hideW H w) t.v t.x
 od : DRow w base 9 1 (.slice V.oa s.orders.length V.oc) s.orders.length (s.orders.flatMap encTx)
 hp : ∀ ad, V.pa = some ad → H ad.block = true
 ht : ∀ ad, V.ta = some ad → H ad.block = true
 hl : ∀ ad, V.la = some ad → H ad.block = true
 hh : ∀ ad, V.ha = some ad → H ad.block = true
 ho : ∀ ad, V.oa = some ad → H ad.block = true
structure HidD (base : Nat) (H : Nat → Bool) (w : World) : Prop where
 bd : ∀ k, H k = true → k < w.heap.size
 lo : ∀ k, H k = true → base ≤ k
structure DkAt (base : Nat) (H : Nat → Bool) (B : Nat) (w : World) (s : Ds) : Prop where
 hB : H B = true
 hid : HidD base H w
 blk : ∃ V, w.heap[B]? = some (.cells (dkCells V s) 46 (0, 0)) ∧ DRows base H w V s
structure DstT (T : TypeId) (H : Nat → Bool) (w : World) (H' : Nat → Bool) (w' : World) : Prop where
 g : Grow (hideW H w) (hideW H' w')
 ag : ∀ k, k < w.heap.size → H' k = H k
 kp : ∀ (k : Nat) (cs : Array Value) (T' : TypeId), w.heap[k]? = some (.cells cs T' (0, 0)) → T' ≠ T → w'.heap[k]? = some (.cells cs T' (0, 0))
structure Dst (H : Nat → Bool) (w : World) (H' : Nat → Bool) (w' : World) : Prop where
 g : Grow (hideW H w) (hideW H' w')
 ag : ∀ k, k < w.heap.size → H' k = H k
 kp : ∀ (k : Nat) (cs : Array Value), w.heap[k]? = some (.cells cs 88 (0, 0)) → w'.heap[k]? = some (.cells cs 88 (0, 0))
theorem DstT.dst {T : TypeId} {H H' : Nat → Bool} {w w' : World} (h : DstT T H w H' w') (hT : 88 ≠ T) : Dst H w H' w' := ⟨h.g, h.ag, fun k cs hk => h.kp k cs _ hk hT⟩
theorem DstT.of_grow (T : TypeId) {H : Nat → Bool} {w w' : World} (g : Grow w w') : DstT T H w H w' := ⟨g.hid H, fun _ _ => rfl, fun _ _ _ h _ => g.blk h⟩
theorem Dst.of_grow {H : Nat → Bool} {w w' : World} (g : Grow w w') : Dst H w H w' := ⟨g.hid H, fun _ _ => rfl, fun _ _ h => g.blk h⟩
theorem Dst.sz {H H' : Nat → Bool} {w w' : World} (h : Dst H w H' w') : w.heap.size ≤ w'.heap.size := by have := Grow.sz h.g; rwa [hide_size, hide_size] at this
theorem DstT.sz {T : TypeId} {H H' : Nat → Bool} {w w' : World} (h : DstT T H w H' w') : w.heap.size ≤ w'.heap.size := by have := Grow.sz h.g; rwa [hide_size, hide_size] at this
theorem Dst.trans {H H1 H2 : Nat → Bool} {w w1 w2 : World} (h : Dst H w H1 w1) (k : Dst H1 w1 H2 w2) : Dst H w H2 w2 :=
 ⟨Grow.trans h.g k.g, fun j hj => (k.ag j (Nat.lt_of_lt_of_le hj h.sz)).trans (h.ag j hj), fun j cs hj => k.kp j cs (h.kp j cs hj)⟩
theorem DstT.pre {T : TypeId} {H H2 : Nat → Bool} {w w1 w2 : World} (g : Grow w w1) (k : DstT T H w1 H2 w2) : DstT T H w H2 w2 :=
 ⟨Grow.trans (g.hid H) k.g, fun j hj => k.ag j (Nat.lt_of_lt_of_le hj g.sz), fun j cs T' hj => k.kp j cs T' (g.blk hj)⟩
theorem HidD.grow {base : Nat} {H : Nat → Bool} {w w' : World} (h : HidD base H w) (g : Grow w w') : HidD base H w' := ⟨fun k hk => Nat.lt_of_lt_of_le (h.bd k hk) g.sz, h.lo⟩
theorem Dst.base {H H' : Nat → Bool} {w0 w w' : World} (g : Grow w0 w) (d : Dst H w H' w') {base : Nat} (h : HidD base H w) (hb : w0.heap.size ≤ base) : Grow w0 w' := by
 have d0 : Below (hideW H w).heap.size (hideW H w) (hideW H' w') := d.g
 refine ⟨d0.os.trans g.os, d0.tape.trans g.tape, d0.output.trans g.output, Nat.le_trans g.sz d.sz, fun k hk => ?_⟩
 have hkw : k < w.heap.size := Nat.lt_of_lt_of_le hk g.sz
 have hf : H k = false := by
  cases hh : H k with
  | false => rfl
  | true => have := h.lo k hh; omega
 have h1 := d.g.heap (by rw [hide_size]; exact hkw)
 rw [hide_off hf, hide_off ((d.ag k hkw).trans hf)] at h1
 rw [h1, g.heap hk]
theorem DRow.step {T T' : TypeId} {H H' : Nat → Bool} {w w' : World} (d : DstT T H w H' w') {base k n : Nat} {v : Value} {xs : List Value} (h : DRow w base T' k v n xs) (hT : T' ≠ T) : DRow w' base T' k v n xs :=
 h.keep fun b o hb ho => by
  obtain ⟨_, cur, h2⟩ := h.blk hb
  rw [ho] at h2
  cases h2
  exact d.kp b cur T' ho hT
theorem DRow.set {w : World} {B : Nat} {cs : Array Value} {TB T' : TypeId} (hb : w.heap[B]? = some (.cells cs TB (0, 0))) (i : Nat) (x : Value) {base k n : Nat} {v : Value} {xs : List Value} (h : DRow w base T' k v n xs) (hT : T' ≠ TB) : DRow (w.setCell ⟨B, i, none⟩ x) base T' k v n xs :=
 h.keep fun b o ho1 ho => by
  rw [Below.heap_setCell _ _ _ _ ?_]
  ·exact ho
  ·intro e
   obtain ⟨_, cur, h2⟩ := h.blk ho1
   have e2 : b = B := e
   rw [e2] at h2
   rw [hb] at h2
   cases h2
   exact hT rfl
theorem DkAt.grow {base : Nat} {H : Nat → Bool} {B : Nat} {w w' : World} {s : Ds} (h : DkAt base H B w s) (g : Grow w w') : DkAt base H B w' s := by
 obtain ⟨V, hb, hr⟩ := h.blk
 have kp : ∀ {T : TypeId} {k : Nat} {v : Value} {n : Nat} {xs : List Value}, DRow w base T k v n xs → DRow w' base T k v n xs := fun h => h.keep fun b o _ ho => g.blk ho
 obtain ⟨L, a1, a2, a3⟩ := hr.pr
 obtain ⟨T, b1, b2, b3⟩ := hr.ts
 obtain ⟨M, c1, c2, c3⟩ := hr.hi
 exact ⟨h.hB, h.hid.grow g, V, g.blk hb, ⟨⟨L, kp a1, a2, fun t ht => (a3 t ht).grow (g.hid H)⟩, ⟨T, kp b1, b2, fun t ht => (b3 t ht).grow (g.hid H)⟩, kp hr.lk, ⟨M, kp c1, c2, fun t ht => (c3 t ht).grow (g.hid H)⟩, kp hr.od, hr.hp, hr.ht, hr.hl, hr.hh, hr.ho⟩⟩
theorem DkAt.chg {base : Nat} {H : Nat → Bool} {B N : Nat} {w w' : World} {s : Ds} (h : DkAt base H B w s) (g : Chg N w w') (hN : H N = true) {cs : Array Value} (hbn : w.heap[N]? = some (.cells cs 88 (0, 0))) : DkAt base H B w' s := by
 obtain ⟨V, hb, hr⟩ := h.blk
 have g2 := g.hide hN
 have kp : ∀ {T : TypeId} {k : Nat} {v : Value} {n : Nat} {xs : List Value}, T ≠ 88 → DRow w base T k v n xs → DRow w' base T k v n xs := fun hT h => h.keep fun b o hb ho => g.blk (by
  rintro rfl
  obtain ⟨_, cur, h2⟩ := h.blk hb
  rw [hbn] at h2
  cases h2
  exact hT rfl) ho
 obtain ⟨L, a1, a2, a3⟩ := hr.pr
 obtain ⟨T, b1, b2, b3⟩ := hr.ts
 obtain ⟨M, c1, c2, c3⟩ := hr.hi
 exact ⟨h.hB, ⟨fun k hk => Nat.lt_of_lt_of_le (h.hid.bd k hk) g.sz, h.hid.lo⟩, V, g.blk (by rintro rfl; rw [hbn] at hb; cases hb) hb, ⟨⟨L, kp (by decide) a1, a2, fun t ht => (a3 t ht).grow g2⟩, ⟨T, kp (by decide) b1, b2, fun t ht => (b3 t ht).grow g2⟩, kp (by decide) hr.lk, ⟨M, kp (by decide) c1, c2, fun t ht => (c3 t ht).grow g2⟩, kp (by decide) hr.od, hr.hp, hr.ht, hr.hl, hr.hh, hr.ho⟩⟩
def newD (p : List Ln) : Ds := ⟨[p], [], [], [], 0, 0, []⟩
theorem DkAt.new {base : Nat} {H : Nat → Bool} {w : World} (h : HidD base H w) (hb : base ≤ w.heap.size) {a : Option Addr} {c : Nat} {p : List Ln} (hp : SlcAt 4 encL (hideW H w) (.slice a p.length c) p) :
  ∃ H', Dst H w H' ((w.alloc (.cells #[.slice a p.length c] 22)).alloc (.cells #[.slice (some ⟨w.heap.size, 0, none⟩) 1 1, .slice none 0 0, .slice none 0 0, .slice none 0 0, .int .i64 0, .int .i64 0, .slice none 0 0] 46)) ∧
   DkAt base H' (w.heap.size + 1) ((w.alloc (.cells #[.slice a p.length c] 22)).alloc (.cells #[.slice (some ⟨w.heap.size, 0, none⟩) 1 1, .slice none 0 0, .slice none 0 0, .slice none 0 0, .int .i64 0, .int .i64 0, .slice none 0 0] 46)) (newD p) := by
 have g : Grow w ((w.alloc (.cells #[.slice a p.length c] 22)).alloc (.cells #[.slice (some ⟨w.heap.size, 0, none⟩) 1 1, .slice none 0 0, .slice none 0 0, .slice none 0 0, .int .i64 0, .int .i64 0, .slice none 0 0] 46)) := ((Grow.refl w).alloc _).alloc _
 have b1 : ((w.alloc (.cells #[.slice a p.length c] 22)).alloc (.cells #[.slice (some ⟨w.heap.size, 0, none⟩) 1 1, .slice none 0 0, .slice none 0 0, .slice none 0 0, .int .i64 0, .int .i64 0, .slice none 0 0] 46)).heap[w.heap.size]? = some (.cells #[.slice a p.length c] 22 (0, 0)) := by
  rw [heap_alloc_old _ _ (show w.heap.size < _ by rw [World.size_alloc]; omega), heap_alloc_new]
 have b2 := heap_alloc_new (w.alloc (.cells #[.slice a p.length c] 22)) (.cells #[.slice (some ⟨w.heap.size, 0, none⟩) 1 1, .slice none 0 0, .slice none 0 0, .slice none 0 0, .int .i64 0, .int .i64 0, .slice none 0 0] 46)
 rw [World.size_alloc] at b2
 have hsz : ((w.alloc (.cells #[.slice a p.length c] 22)).alloc (.cells #[.slice (some ⟨w.heap.size, 0, none⟩) 1 1, .slice none 0 0, .slice none 0 0, .slice none 0 0, .int .i64 0, .int .i64 0, .slice none 0 0] 46)).heap.size = w.heap.size + 2 := by rw [World.size_alloc, World.size_alloc]
 generalize (w.alloc (.cells #[.slice a p.length c] 22)).alloc (.cells #[.slice (some ⟨w.heap.size, 0, none⟩) 1 1, .slice none 0 0, .slice none 0 0, .slice none 0 0, .int .i64 0, .int .i64 0, .slice none 0 0] 46) = w2 at g b1 b2 hsz ⊢
 have ag : ∀ k, k < w.heap.size → (H k || (k == w.heap.size) || (k == w.heap.size + 1)) = H k := by
  intro k hk
  rw [show (k == w.heap.size) = false by rw [beq_eq_false_iff_ne]; omega, show (k == w.heap.size + 1) = false by rw [beq_eq_false_iff_ne]; omega, Bool.or_false, Bool.or_false]
 refine ⟨fun k => H k || (k == w.heap.size) || (k == w.heap.size + 1), ⟨g.hide ag, ag, fun k cs hk => g.blk hk⟩, by simp, ⟨fun k hk => ?_, fun k hk => ?_⟩, ⟨some ⟨w.heap.size, 0, none⟩, 1, none, 0, none, 0, none, 0, none, 0⟩, b2, ?_⟩
 ·rw [Bool.or_eq_true, Bool.or_eq_true] at hk
  rcases hk with (hk | hk) | hk
  ·have := h.bd k hk; omega
  ·have := beq_iff_eq.1 hk; omega
  ·have := beq_iff_eq.1 hk; omega
 ·rw [Bool.or_eq_true, Bool.or_eq_true] at hk
  rcases hk with (hk | hk) | hk
  ·exact h.lo k hk
  ·have := beq_iff_eq.1 hk; omega
  ·have := beq_iff_eq.1 hk; omega
 ·refine ⟨⟨[⟨a, p.length, c, p⟩], .inl ⟨rfl, .inr ⟨w.heap.size, 1, _, rfl, hb, b1, Nat.le_refl _, by decide, rfl, rfl⟩⟩, rfl, ?_⟩, ⟨[], DRow.nil _ _ _ _, rfl, by simp⟩, DRow.nil _ _ _ _, ⟨[], DRow.nil _ _ _ _, rfl, by simp⟩, DRow.nil _ _ _ _, ?_, ?_, ?_, ?_, ?_⟩
  ·intro t ht
   simp at ht
   subst ht
   exact hp.grow (g.hide ag)
  ·intro ad e; cases e; simp
  all_goals intro ad e; cases e
end Go.Proofs.YtmeejlgnhfkeaaaGreatDoor

namespace Go.Proofs.YtmeejlgnhfkeaaaGreatDoor
open Go.RowKit
set_option maxRecDepth 100000 in
set_option maxHeartbeats 4000000 in
theorem rNew_any (base : Nat) (H : Nat → Bool) (p : List Ln) (v : Value) (w : World) (hh : HidD base H w) (hbase : base ≤ w.heap.size) (hp : LinesAt w v p) (hn : p.length < 10000000000) (R : Ending → World → Prop)
  (hno : valP p ≠ 0 → ∀ w', Grow w w' → R (.returned (.tuple #[.pointer none, .int .i64 (valP p)])) w')
  (hok : valP p = 0 → ∀ w' H' B, Grow w w' → Dst H w H' w' → w.heap.size ≤ B → DkAt base H' B w' (newD p) → R (.returned (.tuple #[.pointer (some ⟨B, 0, none⟩), .int .i64 0])) w') :
  Calls Tryz.prog 32 #[v] w R := by
 have HNO := Lib.hid hno
 have HOK := Lib.hid hok
 have HP := Lib.hid hp
 have HH := Lib.hid hh
 clear hno hok hp hh
 go_enter Tryz.func32, Tryz.ntmps32
 go_wp2_with fail
 refine rValidate_any p v _ HP.out _ ?_
 intro w1 hg1
 have HG1 := Lib.hid hg1
 clear hg1
 by_cases h0 : valP p = 0
 rotate_left
 ·have HF := Lib.hid (HNO.out h0 w1 HG1.out)
  have hz : (valP p != 0) = true := by simpa using h0
  obtain ⟨e, he⟩ : ∃ e, valP p = e := ⟨_, rfl⟩
  rw [he] at HF hz h0 ⊢
  clear he
  go_wp2_with fail
  exact HF.out
 have HF := Lib.hid (HOK.out h0)
 rw [h0]
 go_wp2_with (at_builtin; refine Classical.byContradiction (fun hcon => ?_))
 refine hcon ?_
 clear hcon
 refine wpList_appAll _ rfl (.tmp 10) (.tmp 11) 22 rfl w1.heap.size 57 Tryz.underlying22 b_info_ln rfl (by decide) (by decide) encL encL_len encL_one _ [] rfl (ownsRow_empty w1 4 _ _ _ (Nat.le_refl _)) _ p rfl (HP.out.grow (HG1.out.alloc _)) (by simp; omega) (by simp) ?_
 intro v2 w2 hown2 hgr2
 have hg2 : Grow w1 w2 := grown_below (ownsRow_empty (α := Ln) w1 4 57 encL _ (Nat.le_refl _)) hgr2 (Nat.le_refl _) (by simp) ((Grow.refl w1).alloc _)
 have HG2 := Lib.hid (HG1.out.trans hg2)
 have hown3 : w2.ownsRow w1.heap.size 57 4 v2 p.length (p.flatMap encL) := by simpa using hown2
 have hns : NewS w1.heap.size v2 := NewS.of_own (show Own 4 encL _ w2 v2 p from ⟨_, hown3⟩)
 have hhid := (slc_of_owns encL_len hown3).hide_new hns (H := H) fun b hb => by
  cases hx : H b with
  | false => rfl
  | true => have := HH.out.bd b hx; have := HG1.out.sz; omega
 obtain ⟨a, c, rfl, q1, q2, jk⟩ := slc_of_owns encL_len hown3
 obtain ⟨H', d, hd⟩ := DkAt.new (HH.out.grow HG2.out) (Nat.le_trans hbase HG2.out.sz) hhid
 have HFF := Lib.hid (HF.out _ H' _ ((HG2.out.alloc _).alloc _) ((Dst.of_grow HG2.out).trans d) (Nat.le_trans HG2.out.sz (Nat.le_succ _)) hd)
 clear hown2 hown3 hgr2 hg2 jk d hd hhid hns
 go_wp2_with fail
 exact HFF.out
end Go.Proofs.YtmeejlgnhfkeaaaGreatDoor

namespace Go.Proofs.YtmeejlgnhfkeaaaGreatDoor
open Go.RowKit
theorem valP_nil : valP [] = 0 := rfl
theorem ok_nil : OkB (newB []) := OkB.new valP_nil
set_option maxRecDepth 100000 in
set_option maxHeartbeats 4000000 in
theorem look_nil (w : World) (R : Ending → World → Prop)
  (hR : ∀ w' V, Grow w w' → StAt (hideW (fun _ => false) w') V (newB []) → R (.returned (.agg (stCells V (newB [])))) w') :
  Calls Tryz.prog 48 #[.pointer none] w R := by
 have HR := Lib.hid hR
 clear hR
 go_enter_defers Tryz.func48, Tryz.ntmps48
 go_upto_region 1 with fail
 obtain ⟨w1, hw1⟩ : ∃ z : World, z = w.alloc (.cells #[.slice none 0 0, .slice none 0 0, .slice none 0 0, .slice none 0 0, .int .i64 0, .int .i64 0, .slice none 0 0] 86) := ⟨_, rfl⟩
 change Code.wp _ _ _ _ (w.alloc (.cells #[.slice none 0 0, .slice none 0 0, .slice none 0 0, .slice none 0 0, .int .i64 0, .int .i64 0, .slice none 0 0] 86))
 have hz1 : w1.heap[w.heap.size]? = some (.cells #[.slice none 0 0, .slice none 0 0, .slice none 0 0, .slice none 0 0, .int .i64 0, .int .i64 0, .slice none 0 0] 86 (0, 0)) := by rw [hw1]; exact heap_alloc_new _ _
 have hg1 : Grow w w1 := by rw [hw1]; exact (Grow.refl w).alloc _
 rw [← hw1]
 obtain ⟨n, hn⟩ : ∃ n, w.heap.size = n := ⟨_, rfl⟩
 have hnw : w.heap.size ≤ n := by omega
 rw [hn] at hz1 ⊢
 have hnl := lt_of_block hz1
 have HZ1 := Lib.hid hz1
 have HG1 := Lib.hid hg1
 clear hw1 hn hz1 hg1
 go_wp2_with (guard_target =~ Go.wpList _ _ _ (Go.Oper.mk none (Go.Op.store _ _ _) _ _ _ _ :: _) _ _; refine Classical.byContradiction (fun hcon => ?_))
 refine hcon ?_
 clear hcon
 obtain ⟨w2, hw2⟩ : ∃ z : World, z = w1.alloc (.cells #[.slice none 0 0] 22) := ⟨_, rfl⟩
 have hb2 : w2.heap[n]? = some (.cells #[.slice none 0 0, .slice none 0 0, .slice none 0 0, .slice none 0 0, .int .i64 0, .int .i64 0, .slice none 0 0] 86 (0, 0)) := by rw [hw2]; exact ((Grow.refl w1).alloc _).blk HZ1.out
 have hl2 : w2.heap[w1.heap.size]? = some (.cells #[.slice none 0 0] 22 (0, 0)) := by rw [hw2]; exact heap_alloc_new _ _
 have hg2 : Grow w w2 := by rw [hw2]; exact HG1.out.alloc _
 rw [← hw2]
 obtain ⟨g, hgz⟩ : ∃ z, w1.heap.size = z := ⟨_, rfl⟩
 have hgn : g ≠ n := by omega
 rw [hgz] at hl2 ⊢
 clear hw2 hgz HZ1 HG1
 obtain ⟨x0, x1, x2, x3, x4, x5, x6⟩ := st7 hb2
 have zz0 := st_frozen hb2 0
 have zz1 := st_frozen hb2 1
 have zz2 := st_frozen hb2 2
 have zz3 := st_frozen hb2 3
 have zz4 := st_frozen hb2 4
 have zz5 := st_frozen hb2 5
 have zz6 := st_frozen hb2 6
 have hzq : (((((((w2.setCell ⟨n, 0, none⟩ (.slice (some ⟨g, 0, none⟩) 1 1)).setCell ⟨n, 1, none⟩ (.slice none 0 0)).setCell ⟨n, 2, none⟩ (.slice none 0 0)).setCell ⟨n, 3, none⟩ (.slice none 0 0)).setCell ⟨n, 4, none⟩ (.int .i64 0)).setCell ⟨n, 5, none⟩ (.int .i64 0)).setCell ⟨n, 6, none⟩ (.slice none 0 0)).heap[n]? = some (.cells #[.slice (some ⟨g, 0, none⟩) 1 1, .slice none 0 0, .slice none 0 0, .slice none 0 0, .int .i64 0, .int .i64 0, .slice none 0 0] 86 (0, 0)) := put7z hb2 (.slice (some ⟨g, 0, none⟩) 1 1) (.slice none 0 0) (.slice none 0 0) (.slice none 0 0) (.int .i64 0) (.int .i64 0) (.slice none 0 0)
 have hg3 : Grow w (((((((w2.setCell ⟨n, 0, none⟩ (.slice (some ⟨g, 0, none⟩) 1 1)).setCell ⟨n, 1, none⟩ (.slice none 0 0)).setCell ⟨n, 2, none⟩ (.slice none 0 0)).setCell ⟨n, 3, none⟩ (.slice none 0 0)).setCell ⟨n, 4, none⟩ (.int .i64 0)).setCell ⟨n, 5, none⟩ (.int .i64 0)).setCell ⟨n, 6, none⟩ (.slice none 0 0)) := Below.setCell (Below.setCell (Below.setCell (Below.setCell (Below.setCell (Below.setCell (Below.setCell hg2 hnw _) hnw _) hnw _) hnw _) hnw _) hnw _) hnw _
 have hl3 : (((((((w2.setCell ⟨n, 0, none⟩ (.slice (some ⟨g, 0, none⟩) 1 1)).setCell ⟨n, 1, none⟩ (.slice none 0 0)).setCell ⟨n, 2, none⟩ (.slice none 0 0)).setCell ⟨n, 3, none⟩ (.slice none 0 0)).setCell ⟨n, 4, none⟩ (.int .i64 0)).setCell ⟨n, 5, none⟩ (.int .i64 0)).setCell ⟨n, 6, none⟩ (.slice none 0 0)).heap[g]? = some (.cells #[.slice none 0 0] 22 (0, 0)) := by
  rw [Below.heap_setCell _ _ _ _ (by exact hgn), Below.heap_setCell _ _ _ _ (by exact hgn), Below.heap_setCell _ _ _ _ (by exact hgn), Below.heap_setCell _ _ _ _ (by exact hgn), Below.heap_setCell _ _ _ _ (by exact hgn), Below.heap_setCell _ _ _ _ (by exact hgn), Below.heap_setCell _ _ _ _ (by exact hgn)]
  exact hl2
 have HZQ := Lib.hid hzq
 have HG3 := Lib.hid hg3
 have HL3 := Lib.hid hl3
 clear hb2 hl2 hg2 hzq hg3 hl3 hnl
 go_wp2_with fail
 obtain ⟨w3, hw3⟩ : ∃ z : World, z = (((((((w2.setCell ⟨n, 0, none⟩ (.slice (some ⟨g, 0, none⟩) 1 1)).setCell ⟨n, 1, none⟩ (.slice none 0 0)).setCell ⟨n, 2, none⟩ (.slice none 0 0)).setCell ⟨n, 3, none⟩ (.slice none 0 0)).setCell ⟨n, 4, none⟩ (.int .i64 0)).setCell ⟨n, 5, none⟩ (.int .i64 0)).setCell ⟨n, 6, none⟩ (.slice none 0 0)) := ⟨_, rfl⟩
 rw [← hw3] at HZQ HG3 HL3 ⊢
 have hst : StAt (hideW (fun _ => false) w3) ⟨some ⟨g, 0, none⟩, 1, none, 0, none, 0, none, 0, none, 0⟩ (newB []) := by
  refine ⟨⟨[⟨none, 0, 0, []⟩], ⟨⟨_, _, rfl, Nat.le_refl _, (show 1 ≤ 9223372036854775807 by decide), .inr ⟨g, 0, rfl, by rw [hide_size]; exact lt_of_block HL3.out, fun j x hx i u hu => ?_⟩⟩, fun t ht => ?_⟩, rfl⟩, ⟨[], LlAt.nil _ _ _, rfl⟩, ⟨[], TqAt.nil _, rfl⟩, SlcAt.nil _ _ _, SlcAt.nil _ _ _⟩
  ·have hj : j = 0 := by have := (List.getElem?_eq_some_iff.1 hx).1; simpa using this
   subst hj
   have hxx : (⟨none, 0, 0, []⟩ : Lo Ln) = x := by simpa using hx
   subst hxx
   have hi : i = 0 := by have := (List.getElem?_eq_some_iff.1 hu).1; simpa [encLo] using this
   subst hi
   have huu : Value.slice none 0 0 = u := by simpa [encLo] using hu
   subst huu
   rw [hide_cell_off rfl, cell_of_row w3 g _ #[.slice none 0 0] 22 (0, 0) HL3.out]
   rfl
  ·simp at ht
   subst ht
   exact SlcAt.nil _ _ _
 have HF := Lib.hid (HR.out w3 _ HG3.out hst)
 unfold bodyPostD
 dsimp only
 obtain ⟨q0, q1, q2, q3, q4, q5, q6⟩ := st7 HZQ.out
 refine ⟨.agg (stCells ⟨some ⟨g, 0, none⟩, 1, none, 0, none, 0, none, 0, none, 0⟩ (newB [])), ?_, HF.out⟩
 unfold stCells newB
 simp [results, Tryz.results48, go_sem, q0, q1, q2, q3, q4, q5, q6]
end Go.Proofs.YtmeejlgnhfkeaaaGreatDoor

namespace Go.Proofs.YtmeejlgnhfkeaaaGreatDoor
open Go.RowKit
set_option maxRecDepth 100000 in
set_option maxHeartbeats 4000000 in
theorem Program_none (H : Nat → Bool) (s : Bn) (w : World) (h : ∀ w R, (∀ w' V, Grow w w' → StAt (hideW H w') V s → R (.returned (.agg (stCells V s))) w') → Calls Tryz.prog 48 #[.pointer none] w R) (ok : OkB s) (R : Ending → World → Prop)
  (hR : ∀ w' v base, Grow w w' → w.heap.size ≤ base → w'.ownsRow base 57 4 v s.prog.length (s.prog.flatMap encL) → R (.returned v) w') :
  Calls Tryz.prog 22 #[.pointer none] w R := by
 have HR := Lib.hid hR
 have HH := Lib.hid h
 have HPN := Lib.hid ok.pne
 have HPL := Lib.hid (valp_len ok.valp)
 clear hR h ok
 go_enter Tryz.func22, Tryz.ntmps22
 go_wp2_with fail
 refine HH.out _ _ ?_
 intro w1 V hg1 hs1
 have HS1 := Lib.hid hs1
 have HG1 := Lib.hid hg1
 clear hs1 hg1
 go_wp2_with fail
 refine program_any H V s _ HS1.out HPN.out _ ?_
 intro w2 pv hg2 hpv
 have HPV := Lib.hid hpv.unhide
 have HG2 := Lib.hid (HG1.out.trans hg2)
 clear hpv hg2
 go_wp2_with fail
 refine clL_any s.prog pv _ HPV.out (by have := HPL.out; omega) _ ?_
 intro w3 k3 hg3 hk3
 have HF := Lib.hid (HR.out w3 k3 _ (HG2.out.trans hg3) HG2.out.sz hk3)
 clear hg3 hk3
 go_wp2_with fail
 exact HF.out
set_option maxRecDepth 100000 in
set_option maxHeartbeats 4000000 in
theorem Locked_none (H : Nat → Bool) (s : Bn) (w : World) (h : ∀ w R, (∀ w' V, Grow w w' → StAt (hideW H w') V s → R (.returned (.agg (stCells V s))) w') → Calls Tryz.prog 48 #[.pointer none] w R) (ok : OkB s) (R : Ending → World → Prop)
  (hR : ∀ w' v base, Grow w w' → w.heap.size ≤ base → w'.ownsRow base 3 1 v s.lk.length (s.lk.flatMap encI) → R (.returned v) w') :
  Calls Tryz.prog 28 #[.pointer none] w R := by
 have HR := Lib.hid hR
 have HH := Lib.hid h
 have HLL := Lib.hid ok.lk8
 clear hR h ok
 go_enter Tryz.func28, Tryz.ntmps28
 go_wp2_with fail
 refine HH.out _ _ ?_
 intro w1 V hg1 hs1
 have HLK := Lib.hid hs1.unhide.lk
 have HG1 := Lib.hid hg1
 rw [st_out V s]
 have hfd := fun x0 x1 x2 x3 x4 x5 x6 W => (st_field x0 x1 x2 x3 x4 x5 x6 W).1
 clear hs1 hg1
 go_wp2_with fail
 refine clI_any s.lk _ _ HLK.out (by have := HLL.out; omega) _ ?_
 intro w2 v2 hg2 hv2
 have HF := Lib.hid (HR.out w2 v2 _ (HG1.out.trans hg2) HG1.out.sz hv2)
 clear hg2 hv2
 go_wp2_with fail
 exact HF.out
set_option maxRecDepth 100000 in
set_option maxHeartbeats 4000000 in
theorem Failing9_none (H : Nat → Bool) (s : Bn) (w : World) (h : ∀ w R, (∀ w' V, Grow w w' → StAt (hideW H w') V s → R (.returned (.agg (stCells V s))) w') → Calls Tryz.prog 48 #[.pointer none] w R) (ok : OkB s) (R : Ending → World → Prop)
  (hR : ∀ w' v base, Grow w w' → w.heap.size ≤ base → OwnI base w' v (failB s.prog s.tests) → R (.returned v) w') :
  Calls Tryz.prog 29 #[.pointer none] w R := by
 have HR := Lib.hid hR
 have HH := Lib.hid h
 have HPN := Lib.hid ok.pne
 clear hR h ok
 go_enter Tryz.func29, Tryz.ntmps29
 go_wp2_with fail
 refine HH.out _ _ ?_
 intro w1 V hg1 hs1
 have HS1 := Lib.hid hs1
 have HG1 := Lib.hid hg1
 clear hs1 hg1
 rw [st_out V s]
 go_upto_region 2 with fail
 obtain ⟨w2, hw2⟩ : ∃ z : World, z = w1.alloc (.cells (stCells V s) 86) := ⟨_, rfl⟩
 change Code.wp _ _ _ _ (w1.alloc (.cells (stCells V s) 86))
 have hg2 : Grow w1 w2 := by rw [hw2]; exact (Grow.refl w1).alloc _
 have hb2 : w2.heap[w1.heap.size]? = some (.cells (stCells V s) 86 (0, 0)) := by rw [hw2]; exact heap_alloc_new _ _
 rw [← hw2]
 obtain ⟨x, hx⟩ : ∃ z, w1.heap.size = z := ⟨_, rfl⟩
 rw [hx] at hb2 ⊢
 have HB2 := Lib.hid hb2
 have HG2 := Lib.hid (HG1.out.trans hg2)
 have HS2 := Lib.hid (HS1.out.grow (hg2.hid H))
 clear hw2 hg2 hb2 hx
 go_wp2_with fail
 refine wp_region_held_drew (S := fun X => Grow w2 X) (by kernel_rfl) ((Grow.refl w2).drew) (fun hH => ?_)
 refine wpAnyH_take (i := 0) (v := .agg #[.slice V.pa s.progs.length V.pc, .slice V.ha s.hist.length V.hc, .slice V.ta s.tests.length V.tc, .slice V.la s.lk.length V.lc, .int .i64 s.fixes, .int .i64 s.checks, .slice V.oa s.orders.length V.oc]) rfl (by kernel_rfl) (by kernel_rfl) (by kernel_rfl) (fun _ _ _ h => h) (Or.inl ⟨by rfl, ?_⟩) hH ?_
 ·intro w9 hw9
  obtain ⟨c0, c1, c2, c3, c4, c5, c6⟩ := st_cells (Grow.blk hw9 HB2.out)
  go_simp
 try simp only [List.getElem_toArray, List.getElem_cons_zero, Act.put, List.setIfInBounds_toArray, List.set_cons_zero, List.set_cons_succ]
 refine wpAnyH_take (i := 1) (v := .agg #[.slice V.pa s.progs.length V.pc, .slice V.ha s.hist.length V.hc, .slice V.ta s.tests.length V.tc, .slice V.la s.lk.length V.lc, .int .i64 s.fixes, .int .i64 s.checks, .slice V.oa s.orders.length V.oc]) rfl (by kernel_rfl) (by kernel_rfl) (by kernel_rfl) (fun _ _ _ h => h) (Or.inl ⟨by rfl, ?_⟩) hH ?_
 ·intro w9 hw9
  obtain ⟨c0, c1, c2, c3, c4, c5, c6⟩ := st_cells (Grow.blk hw9 HB2.out)
  go_simp
 try simp only [nrm, Act.put]
 refine wpAnyH_ready (rs := [2]) (by kernel_rfl) (by simp) ?_
 refine AllReadyH.cons rfl (fun K hK => ?_) AllReadyH.nil
 go_simp
 refine program_any H V s _ (HS2.out.grow (hH.hid H)) HPN.out _ ?_
 intro w3 pv hg3 hpv
 have HPV := Lib.hid hpv.unhide
 go_wp2_with fail
 refine hK.out _ _ (hH.trans hg3) (fun hH2 => ?_)
 clear hK K hH
 have hH := hH2
 clear hH2
 try simp only [nrm, Act.put]
 clear hg3 hpv
 refine wpAnyH_ready (rs := [3]) (by kernel_rfl) (by simp) ?_
 refine AllReadyH.cons rfl (fun K hK => ?_) AllReadyH.nil
 go_simp
 refine bfailing_any H s.prog pv V s _ HPV.out (HS2.out.grow (hH.hid H)) _ ?_
 intro w4 x4 hg4 hx4
 have HX4 := Lib.hid (hx4.mono hH.sz)
 go_wp2_with fail
 refine hK.out _ _ (hH.trans hg4) (fun hH2 => ?_)
 clear hK K hH
 have hH := hH2
 clear hH2
 try simp only [nrm, Act.put]
 clear hg4 hx4
 refine wpAnyH_take (i := 4) (v := x4) rfl (by kernel_rfl) (by kernel_rfl) (by kernel_rfl) (fun _ _ _ h => h) (Or.inl ⟨by rfl, ?_⟩) hH ?_
 ·intro w9 hw9
  go_simp
 try simp only [nrm, Act.put]
 refine wpAnyH_done (by kernel_rfl) ?_ _
 have HF := Lib.hid (HR.out _ x4 _ (HG2.out.trans hH) HG2.out.sz HX4.out)
 clear hH
 go_wp2_with fail
 exact HF.out
set_option maxRecDepth 100000 in
set_option maxHeartbeats 4000000 in
theorem Counts_none (H : Nat → Bool) (s : Bn) (w : World) (h : ∀ w R, (∀ w' V, Grow w w' → StAt (hideW H w') V s → R (.returned (.agg (stCells V s))) w') → Calls Tryz.prog 48 #[.pointer none] w R) (R : Ending → World → Prop)
  (hR : ∀ w', Grow w w' → R (.returned (.tuple #[.int .i64 s.fixes, .int .i64 s.checks])) w') :
  Calls Tryz.prog 27 #[.pointer none] w R := by
 have HR := Lib.hid hR
 have HH := Lib.hid h
 clear hR h
 go_enter Tryz.func27, Tryz.ntmps27
 go_wp2_with fail
 refine HH.out _ _ ?_
 intro w1 V hg1 hs1
 have HG1 := Lib.hid hg1
 clear hs1 hg1
 rw [st_out V s]
 go_upto_region 2 with fail
 obtain ⟨w2, hw2⟩ : ∃ z : World, z = w1.alloc (.cells (stCells V s) 86) := ⟨_, rfl⟩
 change Code.wp _ _ _ _ (w1.alloc (.cells (stCells V s) 86))
 have hg2 : Grow w1 w2 := by rw [hw2]; exact (Grow.refl w1).alloc _
 have hb2 : w2.heap[w1.heap.size]? = some (.cells (stCells V s) 86 (0, 0)) := by rw [hw2]; exact heap_alloc_new _ _
 rw [← hw2]
 obtain ⟨x, hx⟩ : ∃ z, w1.heap.size = z := ⟨_, rfl⟩
 rw [hx] at hb2 ⊢
 have HG2 := Lib.hid (HG1.out.trans hg2)
 obtain ⟨c0, c1, c2, c3, c4, c5, c6⟩ := st_cells hb2
 have HF := Lib.hid (fun W (g : Grow w2 W) => HR.out W (HG2.out.trans g))
 clear hw2 hg2 hb2 hx
 go_wp2_with (go_quiet (fail))
 exact HF.out _ ((Grow.refl _).drewN _)
set_option maxRecDepth 100000 in
set_option maxHeartbeats 4000000 in
theorem Book_none (H : Nat → Bool) (s : Bn) (w : World) (hg : Glob w) (h : ∀ w R, (∀ w' V, Grow w w' → StAt (hideW H w') V s → R (.returned (.agg (stCells V s))) w') → Calls Tryz.prog 48 #[.pointer none] w R) (ok : OkB s) (R : Ending → World → Prop)
  (hR : ∀ w', Grow w w' → R (.returned (.string (tb (bkS s.orders)))) w') :
  Calls Tryz.prog 19 #[.pointer none] w R := by
 have HR := Lib.hid hR
 have HG := Lib.hid hg
 have HH := Lib.hid h
 have HSZ := Lib.hid ok.tsz
 have HOL := Lib.hid ok.ord
 clear hR hg h ok
 go_enter Tryz.func19, Tryz.ntmps19
 go_wp2_with fail
 refine HH.out _ _ ?_
 intro w1 V hg1 hs1
 have HOD := Lib.hid hs1.unhide.od
 have HG1 := Lib.hid hg1
 rw [st_out V s]
 have hfd := fun x0 x1 x2 x3 x4 x5 x6 W => (st_field x0 x1 x2 x3 x4 x5 x6 W).2.1
 clear hs1 hg1
 go_wp2_with fail
 refine write_any s.orders _ _ (HG.out.grow HG1.out) HOD.out HSZ.out (by have := HOL.out; omega) _ ?_
 intro w2 hg2
 have HF := Lib.hid (HR.out w2 (HG1.out.trans hg2))
 clear hg2
 go_wp2_with fail
 exact HF.out
set_option maxRecDepth 100000 in
set_option maxHeartbeats 8000000 in
theorem Tests_none (H : Nat → Bool) (s : Bn) (w : World) (h : ∀ w R, (∀ w' V, Grow w w' → StAt (hideW H w') V s → R (.returned (.agg (stCells V s))) w') → Calls Tryz.prog 48 #[.pointer none] w R) (ok : OkB s) (R : Ending → World → Prop)
  (hR : ∀ w' v base L, Grow w w' → w.heap.size ≤ base → TqOwn base w' v L → L.map Tq.p = s.tests → R (.returned v) w') :
  Calls Tryz.prog 24 #[.pointer none] w R := by
 have HR := Lib.hid hR
 have HH := Lib.hid h
 have H8 := Lib.hid ok.t8
 have HX4 := Lib.hid (fun (t : Tst) (ht : t ∈ s.tests) => show t.xs.length = 4 from (valS_ok.1 (Tst.ok_iff.1 ((valT_ok.1 ok.tst).2 t ht)).1).1)
 clear hR h ok
 go_enter Tryz.func24, Tryz.ntmps24
 go_wp2_with fail
 refine HH.out _ _ ?_
 intro w1 V hg1 hs1
 obtain ⟨M, hM, hMx⟩ := hs1.unhide.ts
 have hMl : M.length = s.tests.length := by rw [← hMx]; simp
 have HG1 := Lib.hid hg1
 have HM := Lib.hid hM
 have HMX := Lib.hid hMx
 rw [st_out V s]
 have hfd := fun x0 x1 x2 x3 x4 x5 x6 W => (st_field x0 x1 x2 x3 x4 x5 x6 W).2.2
 clear hs1 hM hMx
 go_wp2_with fail
 go_loopw [3, 10] (fun out i wr => ∃ (k : Nat) (L : List Tq), k ≤ s.tests.length ∧ i = .int .i64 k ∧ Grow w1 wr ∧ TqOwn w1.heap.size wr out L ∧ L.map Tq.p = s.tests.take k) (fun _ i _ => s.tests.length - (intOf i).toNat)
 case atStart => exact ⟨0, [], Nat.zero_le _, rfl, Grow.refl _, TqOwn.nil _ _, rfl⟩
 case round =>
  obtain ⟨k, L, hk, rfl, hg, how, hLx⟩ := hrel
  have HG := Lib.hid hg
  have HOW := Lib.hid how
  have HLX := Lib.hid hLx
  have hzw := hg.sz
  have hLk : L.length = k := by have := congrArg List.length hLx; simp at this; omega
  clear hg how hLx
  by_cases hlt : k < s.tests.length
  ·have hlt2 : (k : Int) < (s.tests.length : Int) := by omega
   have hk8 : k < 8 := by have := H8.out; omega
   obtain ⟨q, hq⟩ : ∃ q, M[k]? = some q := ⟨_, List.getElem?_eq_getElem (by omega)⟩
   obtain ⟨mb, mo, hta, hmb, m0, m1, m2⟩ := tq_at (HM.out.grow HG.out).at_ hq
   have hqk : s.tests[k]? = some q.p := by rw [← HMX.out, List.getElem?_map, hq]; rfl
   have hx4 := HX4.out q.p (List.mem_of_getElem? hqk)
   have HI := Lib.hid ((HM.out.grow HG.out).ins q (List.mem_of_getElem? hq))
   have HLN := Lib.hid (show s.tests.take (k + 1) = s.tests.take k ++ [q.p] by rw [List.take_add_one, hqk]; rfl)
   have HLE := Lib.hid (show L.length < 100000000000 by have := H8.out; omega)
   have hx4' : q.xs.length = 4 := hx4
   rw [hta]
   clear hqk hq hLk hta hx4
   obtain ⟨qa, qn, qc, qx, qo, qw⟩ := q
   dsimp only at m0 m1 m2 HI HLN hx4'
   have HXQ := Lib.hid hx4'
   clear hx4'
   go_upto_region 5 with fail
   obtain ⟨w2, hw2⟩ : ∃ z : World, z = wr.alloc (.cells #[.slice qa qn qc, .int .i64 qo, .int .i64 qw] 63) := ⟨_, rfl⟩
   change Code.wp _ _ _ _ (wr.alloc (.cells #[.slice qa qn qc, .int .i64 qo, .int .i64 qw] 63))
   have hg2 : Grow wr w2 := by rw [hw2]; exact (Grow.refl wr).alloc _
   have hb2 : w2.heap[wr.heap.size]? = some (.cells #[.slice qa qn qc, .int .i64 qo, .int .i64 qw] 63 (0, 0)) := by rw [hw2]; exact heap_alloc_new _ _
   rw [← hw2]
   obtain ⟨x, hx⟩ : ∃ z, wr.heap.size = z := ⟨_, rfl⟩
   have hx1 : w1.heap.size ≤ x := by omega
   rw [hx] at hb2 ⊢
   have HB2 := Lib.hid hb2
   have HI2 := Lib.hid (HI.out.grow hg2)
   have HG2 := Lib.hid (HG.out.trans hg2)
   have HO2 := Lib.hid (HOW.out.grow hg2)
   have HOWL := Lib.hid (fun b (hb : u3.ownBlock = some b) => show b < x from by rw [← hx]; exact HOW.out.lt hb)
   have hbase2 : w1.heap.size ≤ w2.heap.size := HG2.out.sz
   clear hw2 hg2 hb2 hx m0 m1 m2 HOW HI
   go_wp2_with fail
   refine wp_region_held_drew (S := fun X => X.heap[x]? = some (.cells #[.slice qa qn qc, .int .i64 qo, .int .i64 qw] 63 (0, 0)) ∧ Grow w1 X) (by kernel_rfl) ⟨(Grow.refl w2).drew.blk HB2.out, HG2.out.trans (Grow.refl w2).drew⟩ (fun hH => ?_)
   refine wpAnyH_take (i := 0) (v := u3) rfl (by kernel_rfl) (by kernel_rfl) (by kernel_rfl) (fun _ _ _ h => h) (Or.inl ⟨by rfl, ?_⟩) hH ?_
   ·intro w9 hw9
    go_simp
   try simp only [List.getElem_toArray, List.getElem_cons_zero, Act.put, List.setIfInBounds_toArray, List.set_cons_zero, List.set_cons_succ]
   refine wpAnyH_take (i := 1) (v := .pointer (some ⟨x, 0, none⟩)) rfl (by kernel_rfl) (by kernel_rfl) (by kernel_rfl) (fun _ _ _ h => h) (Or.inl ⟨by rfl, ?_⟩) hH ?_
   ·intro w9 hw9
    go_simp
   try simp only [nrm, Act.put]
   refine wpAnyH_take (i := 2) (v := .slice qa qn qc) rfl (by kernel_rfl) (by kernel_rfl) (by kernel_rfl) (fun _ _ _ h => h) (Or.inl ⟨by rfl, ?_⟩) hH ?_
   ·intro w9 hw9
    obtain ⟨y0, y1, y2⟩ := box3 hw9.1
    go_simp
   try simp only [nrm, Act.put]
   refine wpAnyH_take (i := 4) (v := .pointer (some ⟨x, 1, none⟩)) rfl (by kernel_rfl) (by kernel_rfl) (by kernel_rfl) (fun _ _ _ h => h) (Or.inl ⟨by rfl, ?_⟩) hH ?_
   ·intro w9 hw9
    go_simp
   try simp only [nrm, Act.put]
   refine wpAnyH_take (i := 5) (v := .int .i64 qo) rfl (by kernel_rfl) (by kernel_rfl) (by kernel_rfl) (fun _ _ _ h => h) (Or.inl ⟨by rfl, ?_⟩) hH ?_
   ·intro w9 hw9
    obtain ⟨y0, y1, y2⟩ := box3 hw9.1
    go_simp
   try simp only [nrm, Act.put]
   refine wpAnyH_take (i := 6) (v := .pointer (some ⟨x, 2, none⟩)) rfl (by kernel_rfl) (by kernel_rfl) (by kernel_rfl) (fun _ _ _ h => h) (Or.inl ⟨by rfl, ?_⟩) hH ?_
   ·intro w9 hw9
    go_simp
   try simp only [nrm, Act.put]
   refine wpAnyH_take (i := 7) (v := .int .i64 qw) rfl (by kernel_rfl) (by kernel_rfl) (by kernel_rfl) (fun _ _ _ h => h) (Or.inl ⟨by rfl, ?_⟩) hH ?_
   ·intro w9 hw9
    obtain ⟨y0, y1, y2⟩ := box3 hw9.1
    go_simp
   try simp only [nrm, Act.put]
   refine wpAnyH_ready (rs := [3]) (by kernel_rfl) (by simp) ?_
   refine AllReadyH.cons rfl (fun K hK => ?_) AllReadyH.nil
   go_simp
   refine clI_any qx _ _ (HI2.out.grow (Grow.refl w2).drew) (by have := HXQ.out; omega) _ ?_
   intro w3 v3 hg3 hv3
   go_wp2_with fail
   have HG3 := Lib.hid (show Grow w2 w3 from (Grow.refl w2).drew.trans hg3)
   have HO3 := Lib.hid (show Own 1 encI w2.heap.size w3 v3 qx from ⟨_, hv3⟩)
   obtain ⟨a3, c3, rfl, q1, q2, jk3⟩ := HO3.out.slc encI_len
   have HS3 := Lib.hid (HO3.out.slc encI_len)
   have HB1 := Lib.hid (HO2.out.new hbase2 HO3.out)
   clear jk3 hv3
   refine hK.out _ _ ⟨hg3.blk hH.1, hH.2.trans hg3⟩ (fun hH2 => ?_)
   clear hK K hH
   have hH := hH2
   clear hH2
   try simp only [nrm, Act.put]
   clear hg3
   refine wpAnyH_take (i := 8) (v := .agg #[.slice a3 qx.length c3, .int .i64 qo, .int .i64 qw]) rfl (by kernel_rfl) (by kernel_rfl) (by kernel_rfl) (fun _ _ _ h => h) (Or.inl ⟨by rfl, ?_⟩) hH ?_
   ·intro w9 hw9
    go_simp
   try simp only [nrm, Act.put]
   refine wpAnyH_ready (rs := [9]) (by kernel_rfl) (by simp) ?_
   refine AllReadyH.cons rfl (fun K hK => ?_) AllReadyH.nil
   go_simp
   refine hK.out _ _ ⟨((Grow.refl w3).alloc _).blk hH.1, hH.2.alloc _⟩ (fun hH2 => ?_)
   clear hK K hH
   have hH := hH2
   clear hH2
   try simp only [nrm, Act.put]
   have hg34 : Grow w3 (w3.alloc (.cells #[.slice a3 qx.length c3, .int .i64 qo, .int .i64 qw] 63)) := (Grow.refl w3).alloc _
   have HO4 := Lib.hid (HO2.out.grow (HG3.out.trans hg34))
   refine wpAnyH_ready (rs := [10]) (by kernel_rfl) (by simp) ?_
   refine AllReadyH.cons rfl (fun K hK => ?_) AllReadyH.nil
   refine step_appB rfl (.tmp 14) (.tmp 23) 42 rfl w1.heap.size 63 Tryz.underlying42 b_info_ts rfl (by decide) (by decide) encTq encTq_len encTq_one u3 L (by simp [Act.eval]) HO4.out.row ⟨w3.heap.size, 0, none⟩ (⟨a3, qx.length, c3, qx, qo, qw⟩ : Tq) 1 (by simp [Act.eval] <;> rfl) (news_blk (heap_alloc_new w3 (.cells #[.slice a3 qx.length c3, .int .i64 qo, .int .i64 qw] 63))) HLE.out hH.2.sz ?_
   intro v6 w6 hown6 hgr6 hat6
   have HG6 := Lib.hid (show Grow w1 w6 from grown_below HO4.out.row hgr6 (Nat.le_refl _) hH.2.sz hH.2)
   have hkx : w6.heap[x]? = some (.cells #[.slice qa qn qc, .int .i64 qo, .int .i64 qw] 63 (0, 0)) := by
    rw [hgr6.block x (lt_of_block hH.1) (fun e => by have h1 := HOWL.out x e.symm; omega)]
    exact hH.1
   have HO6 := Lib.hid (HO4.out.app (t := (⟨a3, qx.length, c3, qx, qo, qw⟩ : Tq)) hgr6 hown6 hat6 (HS3.out.grow hg34) fun b o s hb => ⟨(HB1.out b o s hb).1, Nat.lt_of_lt_of_le (HB1.out b o s hb).2.1 hg34.sz, (HB1.out b o s hb).2.2⟩)
   clear hown6 hgr6 hat6 hg34
   refine hK.out _ _ ⟨hkx, HG6.out⟩ (fun hH2 => ?_)
   clear hK K hH
   have hH := hH2
   clear hH2
   try simp only [nrm, Act.put]
   clear hkx
   refine wpAnyH_take (i := 11) (v := v6) rfl (by kernel_rfl) (by kernel_rfl) (by kernel_rfl) (fun _ _ _ h => h) (Or.inl ⟨by rfl, ?_⟩) hH ?_
   ·intro w9 hw9
    go_simp
   try simp only [nrm, Act.put]
   refine wpAnyH_done (by kernel_rfl) ?_ _
   clear hH
   go_wp2_with fail
   go_roundw
   case rel => exact ⟨k + 1, L ++ [⟨a3, qx.length, c3, qx, qo, qw⟩], by omega, by go_num, HG6.out, HO6.out, by rw [HLN.out, List.map_append, HLX.out]; rfl⟩
   case measure => simp [intOf]; omega
  ·obtain rfl : k = s.tests.length := by omega
   have hltz : ¬ (s.tests.length : Int) < (s.tests.length : Int) := by omega
   have hLx := HLX.out
   rw [List.take_length] at hLx
   have HF := Lib.hid (HR.out wr _ w1.heap.size L (HG1.out.trans HG.out) HG1.out.sz HOW.out hLx)
   clear hLx
   go_wp2_with fail
   exact HF.out
set_option maxRecDepth 100000 in
set_option maxHeartbeats 8000000 in
theorem History_none (H : Nat → Bool) (s : Bn) (w : World) (h : ∀ w R, (∀ w' V, Grow w w' → StAt (hideW H w') V s → R (.returned (.agg (stCells V s))) w') → Calls Tryz.prog 48 #[.pointer none] w R) (ok : OkB s) (R : Ending → World → Prop)
  (hR : ∀ w' v base L, Grow w w' → w.heap.size ≤ base → (NewS base v ∧ ∀ t ∈ L, NewS base t.v) → LlAt 5 encE w' v L → L.map Lo.x = s.hist → R (.returned v) w') :
  Calls Tryz.prog 23 #[.pointer none] w R := by
 have HR := Lib.hid hR
 have HH := Lib.hid h
 have H8 := Lib.hid ok.h8
 have HXL := Lib.hid (fun (x : List Ed) (hx : x ∈ s.hist) => show x.length ≤ 4 from by
  obtain ⟨i, hi⟩ := List.getElem?_of_mem hx
  have hil := (List.getElem?_eq_some_iff.1 hi).1
  have hlen := ok.len
  obtain ⟨p, hp⟩ : ∃ p, s.progs[i]? = some p := ⟨_, List.getElem?_eq_getElem (by omega)⟩
  obtain ⟨q, hq⟩ : ∃ q, s.progs[i + 1]? = some q := ⟨_, List.getElem?_eq_getElem (by omega)⟩
  have h1 := (chkX_ok.1 (ok.step i p x q hp hi hq).1).2.1
  unfold valX at h1
  by_cases h4 : 4 < x.length
  ·rw [if_pos h4] at h1; cases h1
  ·omega)
 clear hR h ok
 go_enter Tryz.func23, Tryz.ntmps23
 go_wp2_with fail
 refine HH.out _ _ ?_
 intro w1 V hg1 hs1
 obtain ⟨M, hM, hMx⟩ := hs1.unhide.hi
 have hMl : M.length = s.hist.length := by rw [← hMx]; simp
 have HG1 := Lib.hid hg1
 have HM := Lib.hid hM
 have HMX := Lib.hid hMx
 have hc : stCells V s = #[.slice V.pa s.progs.length V.pc, .slice V.ha s.hist.length V.hc, .slice V.ta s.tests.length V.tc, .slice V.la s.lk.length V.lc, .int .i64 s.fixes, .int .i64 s.checks, .slice V.oa s.orders.length V.oc] := rfl
 rw [hc]
 have hfd : ∀ (x0 x1 x2 x3 x4 x5 x6 : Value) (W : World), (Instr.field 86 (.agg #[x0, x1, x2, x3, x4, x5, x6]) 1).run Tryz.prog W = .ok x1 W := fun _ _ _ _ _ _ _ _ => by kernel_rfl
 clear hs1 hM hMx hc
 go_wp2_with fail
 go_loopw [3, 10] (fun out i wr => ∃ (k : Nat) (L : List (Lo Ed)), k ≤ s.hist.length ∧ i = .int .i64 k ∧ Grow w1 wr ∧ LoOwn w1.heap.size 58 5 encE wr out L ∧ L.map Lo.x = s.hist.take k ∧ ∀ t ∈ L, NewS w1.heap.size t.v) (fun _ i _ => s.hist.length - (intOf i).toNat)
 case atStart => exact ⟨0, [], Nat.zero_le _, rfl, Grow.refl _, LoOwn.nil _ _ _ _ _, rfl, by simp⟩
 case round =>
  obtain ⟨k, L, hk, rfl, hg, how, hLx, hNL⟩ := hrel
  have HNL := Lib.hid hNL
  clear hNL
  have HG := Lib.hid hg
  have HOW := Lib.hid how
  have HLX := Lib.hid hLx
  have hzw := hg.sz
  have hLk : L.length = k := by have := congrArg List.length hLx; simp at this; omega
  clear hg how hLx
  by_cases hlt : k < s.hist.length
  ·have hlt2 : (k : Int) < (s.hist.length : Int) := by omega
   have hk8 : k < 8 := by have := H8.out; omega
   obtain ⟨t, ht⟩ : ∃ t, M[k]? = some t := ⟨_, List.getElem?_eq_getElem (by omega)⟩
   obtain ⟨mb, mo, hha, hmb, m0⟩ := lo_at (HM.out.grow HG.out).at_ ht
   have hxk : s.hist[k]? = some t.x := by rw [← HMX.out, List.getElem?_map, ht]; rfl
   have hx4 := HXL.out t.x (List.mem_of_getElem? hxk)
   have HI := Lib.hid ((HM.out.grow HG.out).ins t (List.mem_of_getElem? ht))
   have HLN := Lib.hid (show s.hist.take (k + 1) = s.hist.take k ++ [t.x] by rw [List.take_add_one, hxk]; rfl)
   have HLE := Lib.hid (show L.length < 100000000000 by have := H8.out; omega)
   rw [hha]
   clear hxk ht hLk hha
   go_wp2_with fail
   refine clE_any t.x _ _ HI.out (by omega) _ ?_
   intro w2 v2 hg2 hv2
   have HO2 := Lib.hid (show Own 5 encE wr.heap.size w2 v2 t.x from ⟨_, hv2⟩)
   have HX2 := Lib.hid (HO2.out.slc encE_len)
   have HN2 := Lib.hid ((NewS.of_own HO2.out).mono hzw)
   obtain ⟨a1, c1, rfl, q1, q2, jk5⟩ := HO2.out.slc encE_len
   have HB1 := Lib.hid (HOW.out.new HO2.out)
   have HG2 := Lib.hid (HG.out.trans hg2)
   have HO1 := Lib.hid (HOW.out.grow hg2)
   have hz1 := (HG.out.trans hg2).sz
   clear hg2 hv2 HOW jk5 m0
   go_wp2_with (at_builtin; refine wpList_appAt _ rfl (.tmp 14) (.tmp 17) 44 rfl w1.heap.size 58 Tryz.underlying44 b_info_sle rfl (by decide) (by decide) encLo encLo_len encLo_one _ L rfl (((Grow.refl w2).alloc _).owns HO1.out.row) _ (⟨a1, t.x.length, c1, t.x⟩ : Lo Ed) 1 rfl (newsG _ _ (by simp) (encLo (⟨a1, t.x.length, c1, t.x⟩ : Lo Ed)) _) HLE.out (by simp; omega) ?_; intro out2 w5 hown5 hgr5 hat5)
   have HG5 := Lib.hid (show Grow w1 w5 from grown_below HO1.out.row hgr5 (Nat.le_refl _) (by simp; omega) (HG2.out.alloc _))
   have HO5 := Lib.hid ((HO1.out.grow ((Grow.refl w2).alloc _)).app (t := ⟨a1, t.x.length, c1, t.x⟩) hgr5 hown5 hat5 (HX2.out.grow ((Grow.refl w2).alloc _)) fun b o s hb => ⟨(HB1.out b o s hb).1, Nat.lt_of_lt_of_le (HB1.out b o s hb).2 ((Grow.refl w2).alloc _).sz⟩)
   clear hown5 hgr5 hat5
   go_roundw
   case rel => exact ⟨k + 1, L ++ [⟨a1, t.x.length, c1, t.x⟩], by omega, by go_num, HG5.out, HO5.out, by rw [HLN.out, List.map_append, HLX.out]; rfl, fun u hu => by
    rcases List.mem_append.1 hu with hu | hu
    ·exact HNL.out u hu
    ·simp at hu; subst hu; exact HN2.out⟩
   case measure => simp [intOf]; omega
  ·obtain rfl : k = s.hist.length := by omega
   have hltz : ¬ (s.hist.length : Int) < (s.hist.length : Int) := by omega
   have hLx := HLX.out
   rw [List.take_length] at hLx
   have HF := Lib.hid (HR.out wr _ w1.heap.size L (HG1.out.trans HG.out) HG1.out.sz ⟨row_new HOW.out.row, HNL.out⟩ ⟨HOW.out.at_, HOW.out.ins⟩ hLx)
   clear hLx
   go_wp2_with fail
   exact HF.out
set_option maxRecDepth 100000 in
set_option maxHeartbeats 4000000 in
theorem Do_none (t : ByteArray) (w : World) (R : Ending → World → Prop) (hR : R (.returned (.int .i64 1)) w) :
  Calls Tryz.prog 14 #[.pointer none, .string t] w R := by
 have HR := Lib.hid hR
 clear hR
 go_enter_defers Tryz.func14, Tryz.ntmps14
 go_wp2_with fail
 unfold bodyPostD
 dsimp only
 refine ⟨.int .i64 1, ?_, HR.out⟩
 simp [results, Tryz.results14, go_sem]
set_option maxRecDepth 100000 in
set_option maxHeartbeats 4000000 in
theorem Audit_none (w : World) (R : Ending → World → Prop) (hR : R (.returned (.bool false)) w) :
  Calls Tryz.prog 30 #[.pointer none] w R := by
 have HR := Lib.hid hR
 clear hR
 go_enter Tryz.func30, Tryz.ntmps30
 go_wp2_with fail
 exact HR.out
end Go.Proofs.YtmeejlgnhfkeaaaGreatDoor

namespace Go.Proofs.YtmeejlgnhfkeaaaGreatDoor
open Go.RowKit
def lkB (n : Nat) (lk : List Int) : List Bool := (List.range n).map fun (k : Nat) => lk.contains (k : Int)
theorem lkB_length (n : Nat) (lk : List Int) : (lkB n lk).length = n := by simp [lkB]
theorem lkB_get {n : Nat} {lk : List Int} {k : Nat} (h : k < n) : (lkB n lk)[k]? = some (lk.contains (k : Int)) := by
 unfold lkB
 rw [List.getElem?_map, List.getElem?_range h]; rfl
def dsB (s : Bn) : Ds := ⟨s.progs, s.tests, lkB s.tests.length s.lk, s.hist, s.fixes, s.checks, s.orders⟩
theorem asc_ext : ∀ {a b : List Int}, a.Pairwise (· < ·) → b.Pairwise (· < ·) → (∀ k, k ∈ a ↔ k ∈ b) → a = b
 | [], [], _, _, _ => rfl
 | [], y :: b, _, _, h => absurd ((h y).2 (by simp)) (by simp)
 | x :: a, [], _, _, h => absurd ((h x).1 (by simp)) (by simp)
 | x :: a, y :: b, ha, hb, h => by
  rw [List.pairwise_cons] at ha hb
  have hxy : x = y := by
   rcases List.mem_cons.1 ((h x).1 (by simp)) with e | e
   ·exact e
   ·rcases List.mem_cons.1 ((h y).2 (by simp)) with e2 | e2
    ·exact e2.symm
    ·have := ha.1 _ e2; have := hb.1 _ e; omega
  subst hxy
  rw [asc_ext ha.2 hb.2 fun k => ?_]
  constructor
  ·intro hk
   rcases List.mem_cons.1 ((h k).1 (by simp [hk])) with e | e
   ·subst e; have := ha.1 _ hk; omega
   ·exact e
  ·intro hk
   rcases List.mem_cons.1 ((h k).2 (by simp [hk])) with e | e
   ·subst e; have := hb.1 _ hk; omega
   ·exact e
theorem setL_asc (bs : List Bool) : (setL bs).Pairwise (· < ·) := by
 unfold setL setN
 rw [List.pairwise_map]
 refine List.Pairwise.filter _ ?_
 have := List.pairwise_lt_range (n := bs.length)
 exact this.imp (fun h => by simpa using h)
theorem setL_lkB {n : Nat} {lk : List Int} (ha : lk.Pairwise (· < ·)) (hr : ∀ k ∈ lk, 0 ≤ k ∧ k < (n : Int)) : setL (lkB n lk) = lk := by
 refine asc_ext (setL_asc _) ha fun k => ?_
 unfold setL setN
 rw [List.mem_map]
 constructor
 ·rintro ⟨i, hi, rfl⟩
  obtain ⟨h1, h2⟩ := List.mem_filter.1 hi
  rw [lkB_length] at h1
  rw [List.getD_eq_getElem?_getD, lkB_get (List.mem_range.1 h1)] at h2
  exact List.contains_iff_mem.1 h2
 ·intro hk
  obtain ⟨h0, h1⟩ := hr k hk
  refine ⟨k.toNat, List.mem_filter.2 ⟨List.mem_range.2 (by rw [lkB_length]; omega), ?_⟩, by simp; omega⟩
  rw [List.getD_eq_getElem?_getD, lkB_get (by omega), show ((k.toNat : Nat) : Int) = k by omega]
  exact List.contains_iff_mem.2 hk
end Go.Proofs.YtmeejlgnhfkeaaaGreatDoor

namespace Go.Proofs.YtmeejlgnhfkeaaaGreatDoor
open Go.RowKit
theorem dk_cells {w : World} {B : Nat} {V : V5} {s : Ds} {T : TypeId} (hb : w.heap[B]? = some (.cells (dkCells V s) T (0, 0))) :
  w.cell? ⟨B, 0, none⟩ = some (.slice V.pa s.progs.length V.pc) ∧ w.cell? ⟨B, 1, none⟩ = some (.slice V.ta s.tests.length V.tc) ∧ w.cell? ⟨B, 2, none⟩ = some (.slice V.la s.lock.length V.lc) ∧ w.cell? ⟨B, 3, none⟩ = some (.slice V.ha s.hist.length V.hc) ∧ w.cell? ⟨B, 4, none⟩ = some (.int .i64 s.fixes) ∧ w.cell? ⟨B, 5, none⟩ = some (.int .i64 s.checks) ∧ w.cell? ⟨B, 6, none⟩ = some (.slice V.oa s.orders.length V.oc) := by
 unfold World.cell?
 rw [hb]
 exact ⟨rfl, rfl, rfl, rfl, rfl, rfl, rfl⟩
def Ds.prog (s : Ds) : List Ln := (s.progs[s.progs.length - 1]?).getD []
theorem DRows.progs {base : Nat} {H : Nat → Bool} {w : World} {V : V5} {s : Ds} (h : DRows base H w V s) : ∃ L : List (Lo Ln), L.length = s.progs.length ∧ L.map Lo.x = s.progs ∧ SlcAt 1 encLo w (.slice V.pa s.progs.length V.pc) L ∧ ∀ t ∈ L, SlcAt 4 encL (hideW H w) t.v t.x := by
 obtain ⟨L, a1, a2, a3⟩ := h.pr
 exact ⟨L, by rw [← a2, List.length_map], a2, DRow.slc encLo_len a1, a3⟩
theorem DRows.tests {base : Nat} {H : Nat → Bool} {w : World} {V : V5} {s : Ds} (h : DRows base H w V s) : ∃ T : List Tq, T.map Tq.p = s.tests ∧ TestsAt w (.slice V.ta s.tests.length V.tc) (T.map Tq.t) := by
 obtain ⟨T, b1, b2, b3⟩ := h.ts
 exact ⟨T, b2, (TqAt.tests ⟨DRow.slc encTq_len b1, fun q hq => (b3 q hq).unhide⟩)⟩
set_option maxHeartbeats 2000000 in
theorem rProgram_any (base : Nat) (H : Nat → Bool) (B : Nat) (s : Ds) (w : World) (h : DkAt base H B w s) (hne : s.progs ≠ []) (R : Ending → World → Prop)
  (hR : ∀ w' v, Grow w w' → LinesAt (hideW H w') v s.prog → R (.returned v) w') :
  Calls Tryz.prog 41 #[.pointer (some ⟨B, 0, none⟩)] w R := by
 obtain ⟨V, hb, hr⟩ := h.blk
 obtain ⟨L, hl, hLx, hat, hins⟩ := hr.progs
 obtain ⟨k, hk⟩ : ∃ k, s.progs.length = k + 1 := ⟨s.progs.length - 1, by have := List.length_pos_iff.2 hne; omega⟩
 obtain ⟨t, ht⟩ : ∃ t, L[k]? = some t := ⟨_, List.getElem?_eq_getElem (by omega)⟩
 have hx : t.x = s.prog := by
  unfold Ds.prog
  rw [hk, Nat.add_sub_cancel, ← hLx, List.getElem?_map, ht]; rfl
 have hkm := hat.len_le
 rw [hl, hk] at hkm
 have hv := hins t (List.mem_of_getElem? ht)
 rw [hx] at hv
 obtain ⟨c0, _⟩ := dk_cells hb
 obtain ⟨b, o, hpa, hbl, e0⟩ := lo_at hat ht
 have HF := Lib.hid (fun w' (g : Grow w w') => hR w' _ g (hv.grow (g.hid H)))
 obtain ⟨tab, tn, tc, tx⟩ := t
 dsimp only at e0 hx hv
 rw [hpa, hk] at c0
 clear hR hv hat hx ht hins hLx h hb hr hpa
 have hk1 : ((k : Int) + 1) - 1 = (k : Int) := by omega
 go_enter Tryz.func41, Tryz.ntmps41
 go_wp2_with (go_quiet (fail))
 exact HF.out _ ((Grow.refl _).drewN _)
set_option maxRecDepth 100000 in
set_option maxHeartbeats 4000000 in
theorem rLocked_any (base : Nat) (H : Nat → Bool) (B : Nat) (s : Ds) (w : World) (h : DkAt base H B w s) (hlen : s.lock.length ≤ 100000000) (R : Ending → World → Prop)
  (hR : ∀ w' v, Grow w w' → OwnI w.heap.size w' v (setL s.lock) → R (.returned v) w') :
  Calls Tryz.prog 44 #[.pointer (some ⟨B, 0, none⟩)] w R := by
 obtain ⟨V, hb, hr⟩ := h.blk
 have hat := DRow.slc encT_len hr.lk
 have hlm := hat.len_le
 have HB := Lib.hid hb
 have HAT := Lib.hid hat
 have HR := Lib.hid hR
 have HLN := Lib.hid hlen
 clear hR h hb hr hat hlen
 go_enter Tryz.func44, Tryz.ntmps44
 go_wp2_with fail
 go_loopw [3, 4] (fun s3 s4 wr => ∃ (k : Nat) (na : Option Addr) (nc : Nat), k ≤ s.lock.length ∧ s3 = .slice na (setN s.lock k).length nc ∧ s4 = .int .i64 k ∧ Grow w wr ∧ wr.ownsRow w.heap.size 3 1 (.slice na (setN s.lock k).length nc) (setN s.lock k).length ((setN s.lock k).flatMap encI)) (fun _ s4 _ => s.lock.length - (intOf s4).toNat)
 case atStart => exact ⟨0, none, 0, Nat.zero_le _, rfl, rfl, Grow.refl _, World.ownsRow_nil _ _ _ _⟩
 case round =>
  obtain ⟨k, na, nc, hk, rfl, rfl, hg, ho⟩ := hrel
  have HG := Lib.hid hg
  have HO := Lib.hid ho
  obtain ⟨_, _, c2, _⟩ := dk_cells (hg.blk HB.out)
  clear hg ho
  by_cases hlt : k < s.lock.length
  rotate_left
  ·obtain rfl : k = s.lock.length := by omega
   have hkz : ¬ (s.lock.length : Int) < (s.lock.length : Int) := by omega
   have HF := Lib.hid (HR.out wr _ HG.out ⟨_, HO.out⟩)
   go_wp2_with fail
   exact HF.out
  have hkz : (k : Int) < (s.lock.length : Int) := by omega
  obtain ⟨q, hq⟩ : ∃ q, s.lock[k]? = some q := ⟨_, List.getElem?_eq_getElem hlt⟩
  obtain ⟨a', c', e', _, _, h4⟩ := HAT.out.grow HG.out
  cases e'
  obtain ⟨b, o, hab, hbl, hcs⟩ := h4.resolve_left (by intro h0; rw [h0.1] at hq; cases hq)
  have e0 := bools_cell hcs k q hq
  rw [hab] at c2
  have HQ := Lib.hid hq
  have hsl : (setN s.lock k).length ≤ k ∧ s.lock.length ≤ 100000000 := ⟨setN_len s.lock k, HLN.out⟩
  have HSL := Lib.hid hsl
  clear hcs hq hab hsl
  cases q with
  | false =>
   have HS := Lib.hid (setN_false HQ.out)
   go_wp2_with fail
   go_roundw
   case rel => exact ⟨k + 1, na, nc, by omega, by rw [HS.out], by go_num, HG.out, by rw [HS.out]; exact HO.out⟩
   case measure => simp [intOf]; omega
  | true =>
   have HS := Lib.hid (setN_true HQ.out)
   go_wp2_with (at_builtin; refine Classical.byContradiction (fun hcon => ?_))
   refine hcon ?_
   clear hcon
   refine wpList_app _ rfl (.tmp 21) (.tmp 23) 61 rfl w.heap.size 3 Tryz.underlying61 info_int rfl (by decide) (by decide) encI encI_len encI_one (.slice na (setN s.lock k).length nc) (setN s.lock k) rfl (((Grow.refl wr).alloc _).owns HO.out) _ (k : Int) 1 rfl (news_one wr (encI (k : Int)) 3) (by obtain ⟨h1, h2⟩ := HSL.out; omega) (by have := HG.out.sz; simp; omega) ?_
   intro v9 w9 hown9 hgr9
   have hH9 : Grow w w9 := grown_below (((Grow.refl wr).alloc (.cells (encI (k : Int)).toArray 3)).owns HO.out) hgr9 (Nat.le_refl _) (by have := HG.out.sz; simp; omega) (HG.out.alloc _)
   obtain ⟨a9, c9, rfl⟩ : ∃ a c, v9 = .slice a ((setN s.lock k).length + 1) c := by
    rcases hown9.2 with ⟨hv, h0⟩ | ⟨g, cap, cur, hv, _⟩
    ·simp at h0
    ·exact ⟨some ⟨g, 0, none⟩, cap, by rw [hv]; simp⟩
   have HW9 := Lib.hid hown9
   have HH9 := Lib.hid hH9
   clear hown9 hgr9 hH9
   go_wp2_with fail
   go_roundw
   case rel => exact ⟨k + 1, a9, c9, by omega, by rw [HS.out, List.length_append, List.length_singleton], by go_num, HH9.out, by rw [HS.out]; simpa using HW9.out⟩
   case measure => simp [intOf]; omega
end Go.Proofs.YtmeejlgnhfkeaaaGreatDoor

namespace Go.Proofs.YtmeejlgnhfkeaaaGreatDoor
open Go.RowKit
set_option maxRecDepth 100000 in
set_option maxHeartbeats 4000000 in
theorem rFailing_any (base : Nat) (H : Nat → Bool) (B : Nat) (s : Ds) (w : World) (h : DkAt base H B w s) (hne : s.progs ≠ []) (htv : valT s.tests = 0) (hpv : valP s.prog = 0) (R : Ending → World → Prop)
  (hR : ∀ w' v, Grow w w' → OwnI w.heap.size w' v (whereL (fun t => !passM s.prog t) s.tests) → R (.returned v) w') :
  Calls Tryz.prog 46 #[.pointer (some ⟨B, 0, none⟩)] w R := by
 obtain ⟨V, hb, hr⟩ := h.blk
 obtain ⟨T, hTs, hT⟩ := hr.tests
 have hTl : T.length = s.tests.length := by rw [← hTs, List.length_map]
 have htok : ∀ t ∈ T.map Tq.t, t.ok = true := by
  intro t ht
  obtain ⟨q, hq, rfl⟩ := List.mem_map.1 ht
  exact (valT_ok.1 htv).2 q.p (by rw [← hTs]; exact List.mem_map.2 ⟨q, hq, rfl⟩)
 have hm8 := (valT_ok.1 htv).1
 have HD := Lib.hid h
 have HNE := Lib.hid hne
 have HB := Lib.hid hb
 have HT := Lib.hid hT
 have HTS := Lib.hid hTs
 have HTK := Lib.hid htok
 have HTL := Lib.hid hTl
 have HPV := Lib.hid hpv
 have HR := Lib.hid hR
 have hm : s.tests.length ≤ 9223372036854775807 := by omega
 have HM8 := Lib.hid hm8
 clear hR h hb hr hT hTs htok hTl hpv htv hne hm8
 go_enter Tryz.func46, Tryz.ntmps46
 go_wp2_with fail
 go_loopw [3, 4] (fun s3 s4 wr => ∃ (k : Nat) (na : Option Addr) (nc : Nat), k ≤ s.tests.length ∧ s3 = .slice na (whereN (fun t => !passM s.prog t) s.tests k).length nc ∧ s4 = .int .i64 k ∧ Grow w wr ∧ wr.ownsRow w.heap.size 3 1 (.slice na (whereN (fun t => !passM s.prog t) s.tests k).length nc) (whereN (fun t => !passM s.prog t) s.tests k).length ((whereN (fun t => !passM s.prog t) s.tests k).flatMap encI)) (fun _ s4 _ => s.tests.length - (intOf s4).toNat)
 case atStart => exact ⟨0, none, 0, Nat.zero_le _, rfl, rfl, Grow.refl _, World.ownsRow_nil _ _ _ _⟩
 case round =>
  obtain ⟨k, na, nc, hk, rfl, rfl, hg, ho⟩ := hrel
  have HG := Lib.hid hg
  have HO := Lib.hid ho
  obtain ⟨_, c1, _⟩ := dk_cells (hg.blk HB.out)
  clear hg ho
  by_cases hlt : k < s.tests.length
  rotate_left
  ·obtain rfl : k = s.tests.length := by omega
   have hkz : ¬ (s.tests.length : Int) < (s.tests.length : Int) := by omega
   have HF := Lib.hid (HR.out wr _ HG.out ⟨_, HO.out⟩)
   go_wp2_with fail
   exact HF.out
  have hkz : (k : Int) < (s.tests.length : Int) := by omega
  obtain ⟨t, ht⟩ : ∃ t, (T.map Tq.t)[k]? = some t := ⟨_, List.getElem?_eq_getElem (by rw [List.length_map, HTL.out]; exact hlt)⟩
  obtain ⟨b2, o2, hab2, hb2, d0, d1, d2⟩ := tests_at (HT.out.at_.grow HG.out) ht
  rw [hab2] at c1
  have HI := Lib.hid ((HT.out.ins t (List.mem_of_getElem? ht)).grow HG.out)
  have hok := HTK.out t (List.mem_of_getElem? ht)
  obtain ⟨q, hq, rfl⟩ : ∃ q, T[k]? = some q ∧ q.t = t := by
   rw [List.getElem?_map] at ht
   cases hq : T[k]? with
   | none => rw [hq] at ht; cases ht
   | some q => rw [hq] at ht; exact ⟨q, rfl, Option.some.inj ht⟩
  have hst : s.tests[k]? = some q.p := by rw [← HTS.out, List.getElem?_map, hq]; rfl
  have HWS := Lib.hid (whereN_succ (f := fun t => !passM s.prog t) hst)
  have HLB := Lib.hid (show (whereN (fun t => !passM s.prog t) s.tests k).length < 100000000000 by have := whereN_len (fun t => !passM s.prog t) s.tests k; have := HM8.out; omega)
  have HOK := Lib.hid hok
  obtain ⟨qa, qn, qc, qx, qo, qw⟩ := q
  dsimp only [Tq.t] at d0 d1 d2 HI HOK
  clear hab2 ht hok hq hst
  go_wp2_with fail
  refine wp_region_held_drew (S := fun X => Grow wr X) (by kernel_rfl) ((Grow.refl wr).drew) (fun hH => ?_)
  refine wpAnyH_take (i := 0) (v := .pointer (some ⟨B, 0, none⟩)) rfl (by kernel_rfl) (by kernel_rfl) (by kernel_rfl) (fun _ _ _ h => h) (Or.inl ⟨by rfl, ?_⟩) hH ?_
  ·intro w9 hw9
   go_simp
  try simp only [List.getElem_toArray, List.getElem_cons_zero, Act.put, List.setIfInBounds_toArray, List.set_cons_zero, List.set_cons_succ]
  refine wpAnyH_take (i := 2) (v := .pointer (some ⟨B, 0, none⟩)) rfl (by kernel_rfl) (by kernel_rfl) (by kernel_rfl) (fun _ _ _ h => h) (Or.inl ⟨by rfl, ?_⟩) hH ?_
  ·intro w9 hw9
   go_simp
  try simp only [nrm, Act.put]
  refine wpAnyH_take (i := 3) (v := .pointer (some ⟨B, 0, none⟩)) rfl (by kernel_rfl) (by kernel_rfl) (by kernel_rfl) (fun _ _ _ h => h) (Or.inl ⟨by rfl, ?_⟩) hH ?_
  ·intro w9 hw9
   go_simp
  try simp only [nrm, Act.put]
  refine wpAnyH_take (i := 4) (v := .pointer (some ⟨B, 1, none⟩)) rfl (by kernel_rfl) (by kernel_rfl) (by kernel_rfl) (fun _ _ _ h => h) (Or.inl ⟨by rfl, ?_⟩) hH ?_
  ·intro w9 hw9
   go_simp
  try simp only [nrm, Act.put]
  refine wpAnyH_take (i := 5) (v := .slice (some ⟨b2, o2, none⟩) s.tests.length V.tc) rfl (by kernel_rfl) (by kernel_rfl) (by kernel_rfl) (fun _ _ _ h => h) (Or.inl ⟨by rfl, ?_⟩) hH ?_
  ·intro w9 hw9
   have z9 := Grow.cell hw9 c1
   go_simp
  try simp only [nrm, Act.put]
  refine wpAnyH_take (i := 6) (v := .int .i64 (k : Nat)) rfl (by kernel_rfl) (by kernel_rfl) (by kernel_rfl) (fun _ _ _ h => h) (Or.inl ⟨by rfl, ?_⟩) hH ?_
  ·intro w9 hw9
   go_simp
  try simp only [nrm, Act.put]
  refine wpAnyH_take (i := 7) (v := .pointer (some ⟨b2, o2 + k * 3, none⟩)) rfl (by kernel_rfl) (by kernel_rfl) (by kernel_rfl) (fun _ _ _ h => h) (Or.inl ⟨by rfl, ?_⟩) hH ?_
  ·intro w9 hw9
   go_simp
  try simp only [nrm, Act.put]
  refine wpAnyH_take (i := 8) (v := .agg #[.slice qa qn qc, .int .i64 qo, .int .i64 qw]) rfl (by kernel_rfl) (by kernel_rfl) (by kernel_rfl) (fun _ _ _ h => h) (Or.inl ⟨by rfl, ?_⟩) hH ?_
  ·intro w9 hw9
   have z0 := Grow.cell hw9 d0
   have z1 := Grow.cell hw9 d1
   have z2 := Grow.cell hw9 d2
   go_simp
  try simp only [nrm, Act.put]
  refine wpAnyH_ready (rs := [1]) (by kernel_rfl) (by simp) ?_
  refine AllReadyH.cons rfl (fun K hK => ?_) AllReadyH.nil
  go_simp
  refine rProgram_any base H B s _ (HD.out.grow (HG.out.trans hH)) HNE.out _ ?_
  intro w3 v3 hg3 hv3
  have HV3 := Lib.hid hv3.unhide
  clear hv3
  go_wp2_with fail
  refine hK.out _ _ (hH.trans hg3) (fun hH2 => ?_)
  clear hK K hH
  have hH := hH2
  clear hH2
  try simp only [nrm, Act.put]
  clear hg3
  refine wpAnyH_ready (rs := [9]) (by kernel_rfl) (by simp) ?_
  refine AllReadyH.cons rfl (fun K hK => ?_) AllReadyH.nil
  go_simp
  refine r4Passes_any s.prog ⟨.slice qa qn qc, qx, qo, qw⟩ v3 _ HV3.out (HI.out.grow hH) HPV.out HOK.out _ ?_
  intro w4 hg4
  cases hpm : passM s.prog ⟨.slice qa qn qc, qx, qo, qw⟩
  ·
   have HPM := Lib.hid hpm
   clear hpm
   go_wp2_with fail
   refine hK.out _ _ (hH.trans hg4) (fun hH2 => ?_)
   clear hK K hH
   have hH := hH2
   clear hH2
   try simp only [nrm, Act.put]
   clear hg4
   refine wpAnyH_take (i := 10) (v := .bool true) rfl (by kernel_rfl) (by kernel_rfl) (by kernel_rfl) (fun _ _ _ h => h) (Or.inl ⟨by rfl, ?_⟩) hH ?_
   ·intro w9 hw9
    go_simp
   try simp only [nrm, Act.put]
   refine wpAnyH_done (by kernel_rfl) ?_ _
   have HG4 := Lib.hid (HG.out.trans hH)
   have HO4 := Lib.hid (HO.out)
   have HGW := Lib.hid hH
   clear hH
   have HBE := Lib.hid (show whereN (fun t => !passM s.prog t) s.tests (k + 1) = whereN (fun t => !passM s.prog t) s.tests k ++ [(k : Int)] by rw [HWS.out, show passM s.prog (⟨qa, qn, qc, qx, qo, qw⟩ : Tq).p = false from HPM.out]; simp)
   have hbs := HG4.out.sz
   go_wp2_with (at_builtin; refine Classical.byContradiction (fun hcon => ?_))
   refine hcon ?_
   clear hcon
   refine wpList_app _ rfl (.tmp 25) (.tmp 27) 61 rfl w.heap.size 3 Tryz.underlying61 info_int rfl (by decide) (by decide) encI encI_len encI_one (.slice na (whereN (fun t => !passM s.prog t) s.tests k).length nc) (whereN (fun t => !passM s.prog t) s.tests k) rfl (((Grow.refl w4).alloc _).owns (HGW.out.owns HO.out)) _ (k : Int) 1 rfl (news_one w4 (encI (k : Int)) 3) HLB.out (by simp; omega) ?_
   intro v9 w9 hown9 hgr9
   have hH9 : Grow w w9 := grown_below (((Grow.refl w4).alloc (.cells (encI (k : Int)).toArray 3)).owns (HGW.out.owns HO.out)) hgr9 (Nat.le_refl _) (by simp; omega) (HG4.out.alloc _)
   obtain ⟨a9, c9, rfl⟩ : ∃ a c, v9 = .slice a ((whereN (fun t => !passM s.prog t) s.tests k).length + 1) c := by
    rcases hown9.2 with ⟨hv, h0⟩ | ⟨g, cap, cur, hv, _⟩
    ·simp at h0
    ·exact ⟨some ⟨g, 0, none⟩, cap, by rw [hv]; simp⟩
   have HW9 := Lib.hid hown9
   have HH9 := Lib.hid hH9
   clear hown9 hgr9 hH9
   go_wp2_with fail
   go_roundw
   case rel => exact ⟨k + 1, a9, c9, by omega, by rw [HBE.out, List.length_append, List.length_singleton], by go_num, HH9.out, by rw [HBE.out]; simpa using HW9.out⟩
   case measure => simp [intOf]; omega
  ·
   have HPM := Lib.hid hpm
   clear hpm
   go_wp2_with fail
   refine hK.out _ _ (hH.trans hg4) (fun hH2 => ?_)
   clear hK K hH
   have hH := hH2
   clear hH2
   try simp only [nrm, Act.put]
   clear hg4
   refine wpAnyH_take (i := 10) (v := .bool false) rfl (by kernel_rfl) (by kernel_rfl) (by kernel_rfl) (fun _ _ _ h => h) (Or.inl ⟨by rfl, ?_⟩) hH ?_
   ·intro w9 hw9
    go_simp
   try simp only [nrm, Act.put]
   refine wpAnyH_done (by kernel_rfl) ?_ _
   have HG4 := Lib.hid (HG.out.trans hH)
   have HO4 := Lib.hid (HO.out)
   have HGW := Lib.hid hH
   clear hH
   have HBE := Lib.hid (show whereN (fun t => !passM s.prog t) s.tests (k + 1) = whereN (fun t => !passM s.prog t) s.tests k by rw [HWS.out, show passM s.prog (⟨qa, qn, qc, qx, qo, qw⟩ : Tq).p = true from HPM.out]; simp)
   go_wp2_with fail
   go_roundw
   case rel => exact ⟨k + 1, na, nc, by omega, by rw [HBE.out], by go_num, HG4.out, by rw [HBE.out]; exact HGW.out.owns HO.out⟩
   case measure => simp [intOf]; omega
end Go.Proofs.YtmeejlgnhfkeaaaGreatDoor

namespace Go.Proofs.YtmeejlgnhfkeaaaGreatDoor
open Go.RowKit
set_option maxRecDepth 100000 in
set_option maxHeartbeats 16000000 in
theorem Equal_any (H Hd : Nat → Bool) (B Bd base : Nat) (s : Bn) (w : World) (hg : Glob w) (hb : BnAt H B w s) (ok : OkB s) (hd : DkAt base Hd Bd w (dsB s)) (R : Ending → World → Prop)
  (hR : ∀ w', Grow w w' → R (.returned (.bool true)) w') :
  Calls Tryz.prog 16 #[.pointer (some ⟨B, 0, none⟩), .pointer (some ⟨Bd, 0, none⟩)] w R := by
 have HR := Lib.hid hR
 have HG := Lib.hid hg
 have HB := Lib.hid hb
 have HD := Lib.hid hd
 have HOK := Lib.hid ok
 clear hR hg hb hd ok
 go_enter Tryz.func16, Tryz.ntmps16
 go_wp2_with fail
 refine Counts_any H B s _ HB.out _ ?_
 intro w1 hg1
 have HG1 := Lib.hid hg1
 obtain ⟨V, hbd, hr⟩ := (HD.out.grow hg1).blk
 obtain ⟨c0, c1, c2, c3, c4, c5, c6⟩ := dk_cells hbd
 have hs0 : (dsB s).tests = s.tests := rfl
 obtain ⟨T, t1, t2, t3⟩ := hr.ts
 have HTQ := Lib.hid (show TqAt w1 (.slice V.ta (dsB s).tests.length V.tc) T from ⟨DRow.slc encTq_len t1, fun q hq => (t3 q hq).unhide⟩)
 have HTP := Lib.hid (t2.trans hs0)
 obtain ⟨L, l1, l2, l3⟩ := hr.hi
 have hll : L.length = (dsB s).hist.length := by rw [← l2, List.length_map]
 have HLL := Lib.hid (show LlAt 5 encE w1 (.slice V.ha (dsB s).hist.length V.hc) L from ⟨DRow.slc encLo_len l1, fun t ht => (l3 t ht).unhide⟩)
 have HLX := Lib.hid (show L.map Lo.x = s.hist from l2)
 have HOD := Lib.hid (show TextsAt w1 (.slice V.oa (dsB s).orders.length V.oc) s.orders from DRow.slc encTx_len hr.od)
 have hne : (dsB s).progs ≠ [] := by intro e; have h := HOK.out.len; have e2 : s.progs = [] := e; rw [e2] at h; simp at h
 have HNE := Lib.hid hne
 have HLK := Lib.hid (setL_lkB HOK.out.asc HOK.out.inr)
 have HFB := Lib.hid (failB_ok HOK.out.chk)
 have hll2 : (dsB s).lock.length ≤ 100000000 := by have h := HOK.out.t8; have : (dsB s).lock.length = s.tests.length := lkB_length _ _; omega
 have HL2 := Lib.hid hll2
 have hox := HOK.out.tsz
 have HOX := Lib.hid hox
 have ho80 := HOK.out.ord
 have HO8 := Lib.hid ho80
 obtain ⟨ta, tn, htn⟩ : ∃ a n, (Value.slice V.ta (dsB s).tests.length V.tc) = .slice a n V.tc := ⟨_, _, rfl⟩
 obtain ⟨ha, hn, hhn⟩ : ∃ a n, (Value.slice V.ha (dsB s).hist.length V.hc) = .slice a n V.hc := ⟨_, _, rfl⟩
 obtain ⟨oa, on, hon⟩ : ∃ a n, (Value.slice V.oa (dsB s).orders.length V.oc) = .slice a n V.oc := ⟨_, _, rfl⟩
 rw [htn] at c1 HTQ
 rw [hhn] at c3 HLL
 rw [hon] at c6 HOD
 have f4 : (dsB s).fixes = s.fixes := rfl
 have f5 : (dsB s).checks = s.checks := rfl
 rw [f4] at c4
 rw [f5] at c5
 obtain ⟨fx, hfx⟩ : ∃ z, s.fixes = z := ⟨_, rfl⟩
 obtain ⟨ck, hck⟩ : ∃ z, s.checks = z := ⟨_, rfl⟩
 rw [hfx] at c4 ⊢
 rw [hck] at c5 ⊢
 have HB1 := Lib.hid (HB.out.grow hg1)
 have HD1 := Lib.hid (HD.out.grow hg1)
 have HGL := Lib.hid (HG.out.grow hg1)
 clear hg1 hbd hr t1 t2 t3 l1 l2 l3 hll hne hll2 hs0 hox ho80 htn hhn hon f4 f5 hfx hck c0 c2
 go_wp2_with fail
 refine wp_region_held_drew (S := fun X => Grow w1 X) (by kernel_rfl) ((Grow.refl w1).drew) (fun hH => ?_)
 refine wpAnyH_take (i := 0) (v := .pointer (some ⟨B, 0, none⟩)) rfl (by kernel_rfl) (by kernel_rfl) (by kernel_rfl) (fun _ _ _ h => h) (Or.inl ⟨by rfl, ?_⟩) hH ?_
 ·intro w9 hw9
  go_simp
 try simp only [List.getElem_toArray, List.getElem_cons_zero, Act.put, List.setIfInBounds_toArray, List.set_cons_zero, List.set_cons_succ]
 refine wpAnyH_take (i := 2) (v := .pointer (some ⟨Bd, 0, none⟩)) rfl (by kernel_rfl) (by kernel_rfl) (by kernel_rfl) (fun _ _ _ h => h) (Or.inl ⟨by rfl, ?_⟩) hH ?_
 ·intro w9 hw9
  go_simp
 try simp only [nrm, Act.put]
 refine wpAnyH_ready (rs := [1]) (by kernel_rfl) (by simp) ?_
 refine AllReadyH.cons rfl (fun K hK => ?_) AllReadyH.nil
 go_simp
 refine Program_any H B s _ (HB1.out.grow hH) HOK.out _ ?_
 intro w2 v2 base2 hg2 hb2 ho2
 have HV2 := Lib.hid (show LinesAt w2 v2 s.prog from slc_of_owns encL_len ho2)
 clear hb2 ho2
 go_wp2_with fail
 refine hK.out _ _ (hH.trans hg2) (fun hH2 => ?_)
 clear hK K hH
 have hH := hH2
 clear hH2
 try simp only [nrm, Act.put]
 clear hg2
 refine wpAnyH_ready (rs := [3]) (by kernel_rfl) (by simp) ?_
 refine AllReadyH.cons rfl (fun K hK => ?_) AllReadyH.nil
 go_simp
 refine rProgram_any base Hd Bd (dsB s) _ (HD1.out.grow hH) HNE.out _ ?_
 intro w3 v3 hg3 hv3
 have HV3 := Lib.hid (show LinesAt w3 v3 s.prog from hv3.unhide)
 have HW3 := Lib.hid (HV2.out.grow hg3)
 clear hv3 HV2
 go_wp2_with fail
 refine hK.out _ _ (hH.trans hg3) (fun hH2 => ?_)
 clear hK K hH
 have hH := hH2
 clear hH2
 try simp only [nrm, Act.put]
 clear hg3
 refine wpAnyH_ready (rs := [4]) (by kernel_rfl) (by simp) ?_
 refine AllReadyH.cons rfl (fun K hK => ?_) AllReadyH.nil
 go_simp
 refine rsame4_any s.prog s.prog _ _ _ HW3.out HV3.out _ ?_
 intro w4 hg4
 rw [decide_eq_true rfl]
 go_wp2_with fail
 refine hK.out _ _ (hH.trans hg4) (fun hH2 => ?_)
 clear hK K hH
 have hH := hH2
 clear hH2
 try simp only [nrm, Act.put]
 clear hg4
 refine wpAnyH_take (i := 5) (v := .bool true) rfl (by kernel_rfl) (by kernel_rfl) (by kernel_rfl) (fun _ _ _ h => h) (Or.inl ⟨by rfl, ?_⟩) hH ?_
 ·intro w9 hw9
  go_simp
 try simp only [nrm, Act.put]
 refine wpAnyH_take (i := 6) (v := .pointer (some ⟨B, 0, none⟩)) rfl (by kernel_rfl) (by kernel_rfl) (by kernel_rfl) (fun _ _ _ h => h) (Or.inl ⟨by rfl, ?_⟩) hH ?_
 ·intro w9 hw9
  go_simp
 try simp only [nrm, Act.put]
 refine wpAnyH_take (i := 8) (v := .pointer (some ⟨Bd, 0, none⟩)) rfl (by kernel_rfl) (by kernel_rfl) (by kernel_rfl) (fun _ _ _ h => h) (Or.inl ⟨by rfl, ?_⟩) hH ?_
 ·intro w9 hw9
  go_simp
 try simp only [nrm, Act.put]
 refine wpAnyH_take (i := 9) (v := .pointer (some ⟨Bd, 0, none⟩)) rfl (by kernel_rfl) (by kernel_rfl) (by kernel_rfl) (fun _ _ _ h => h) (Or.inl ⟨by rfl, ?_⟩) hH ?_
 ·intro w9 hw9
  go_simp
 try simp only [nrm, Act.put]
 refine wpAnyH_take (i := 10) (v := .pointer (some ⟨Bd, 1, none⟩)) rfl (by kernel_rfl) (by kernel_rfl) (by kernel_rfl) (fun _ _ _ h => h) (Or.inl ⟨by rfl, ?_⟩) hH ?_
 ·intro w9 hw9
  go_simp
 try simp only [nrm, Act.put]
 refine wpAnyH_take (i := 11) (v := .slice ta tn V.tc) rfl (by kernel_rfl) (by kernel_rfl) (by kernel_rfl) (fun _ _ _ h => h) (Or.inl ⟨by rfl, ?_⟩) hH ?_
 ·intro w9 hw9
  have z9 := Grow.cell hw9 c1
  go_simp
 try simp only [nrm, Act.put]
 refine wpAnyH_ready (rs := [7]) (by kernel_rfl) (by simp) ?_
 refine AllReadyH.cons rfl (fun K hK => ?_) AllReadyH.nil
 go_simp
 refine Tests_any H B s _ (HB1.out.grow hH) HOK.out _ ?_
 intro w5 v5 base5 T5 hg5 hb5 ho5 hx5
 have HV5 := Lib.hid ho5.at_
 have HE5 := Lib.hid hx5
 clear hb5 ho5 hx5
 go_wp2_with fail
 refine hK.out _ _ (hH.trans hg5) (fun hH2 => ?_)
 clear hK K hH
 have hH := hH2
 clear hH2
 try simp only [nrm, Act.put]
 clear hg5
 refine wpAnyH_ready (rs := [12]) (by kernel_rfl) (by simp) ?_
 refine AllReadyH.cons rfl (fun K hK => ?_) AllReadyH.nil
 go_simp
 refine rSameTests_any s.tests T5 T _ _ _ HV5.out (HTQ.out.grow hH) HE5.out HTP.out _ ?_
 intro w6 hg6
 go_wp2_with fail
 refine hK.out _ _ (hH.trans hg6) (fun hH2 => ?_)
 clear hK K hH
 have hH := hH2
 clear hH2
 try simp only [nrm, Act.put]
 clear hg6
 refine wpAnyH_take (i := 13) (v := .bool true) rfl (by kernel_rfl) (by kernel_rfl) (by kernel_rfl) (fun _ _ _ h => h) (Or.inl ⟨by rfl, ?_⟩) hH ?_
 ·intro w9 hw9
  go_simp
 try simp only [nrm, Act.put]
 refine wpAnyH_take (i := 14) (v := .bool true) rfl (by kernel_rfl) (by kernel_rfl) (by kernel_rfl) (fun _ _ _ h => h) (Or.inl ⟨by rfl, ?_⟩) hH ?_
 ·intro w9 hw9
  go_simp
 try simp only [nrm, Act.put]
 refine wpAnyH_take (i := 15) (v := .pointer (some ⟨B, 0, none⟩)) rfl (by kernel_rfl) (by kernel_rfl) (by kernel_rfl) (fun _ _ _ h => h) (Or.inl ⟨by rfl, ?_⟩) hH ?_
 ·intro w9 hw9
  go_simp
 try simp only [nrm, Act.put]
 refine wpAnyH_take (i := 17) (v := .pointer (some ⟨Bd, 0, none⟩)) rfl (by kernel_rfl) (by kernel_rfl) (by kernel_rfl) (fun _ _ _ h => h) (Or.inl ⟨by rfl, ?_⟩) hH ?_
 ·intro w9 hw9
  go_simp
 try simp only [nrm, Act.put]
 refine wpAnyH_ready (rs := [16]) (by kernel_rfl) (by simp) ?_
 refine AllReadyH.cons rfl (fun K hK => ?_) AllReadyH.nil
 go_simp
 refine Locked_any H B s _ (HB1.out.grow hH) HOK.out _ ?_
 intro w7 v7 base7 hg7 hb7 ho7
 have HV7 := Lib.hid (show IntsAt w7 v7 s.lk from slc_of_owns encI_len ho7)
 clear hb7 ho7
 go_wp2_with fail
 refine hK.out _ _ (hH.trans hg7) (fun hH2 => ?_)
 clear hK K hH
 have hH := hH2
 clear hH2
 try simp only [nrm, Act.put]
 clear hg7
 refine wpAnyH_ready (rs := [18]) (by kernel_rfl) (by simp) ?_
 refine AllReadyH.cons rfl (fun K hK => ?_) AllReadyH.nil
 go_simp
 refine rLocked_any base Hd Bd (dsB s) _ (HD1.out.grow hH) HL2.out _ ?_
 intro w8 v8 hg8 ho8
 have HV8 := Lib.hid (show IntsAt w8 v8 s.lk by have h := ho8.slc encI_len; rwa [show setL (dsB s).lock = s.lk from HLK.out] at h)
 have HW8 := Lib.hid (HV7.out.grow hg8)
 clear ho8 HV7
 go_wp2_with fail
 refine hK.out _ _ (hH.trans hg8) (fun hH2 => ?_)
 clear hK K hH
 have hH := hH2
 clear hH2
 try simp only [nrm, Act.put]
 clear hg8
 refine wpAnyH_ready (rs := [19]) (by kernel_rfl) (by simp) ?_
 refine AllReadyH.cons rfl (fun K hK => ?_) AllReadyH.nil
 go_simp
 refine rsameI4_any s.lk s.lk _ _ _ HW8.out HV8.out _ ?_
 intro w9 hg9
 rw [decide_eq_true rfl]
 go_wp2_with fail
 refine hK.out _ _ (hH.trans hg9) (fun hH2 => ?_)
 clear hK K hH
 have hH := hH2
 clear hH2
 try simp only [nrm, Act.put]
 clear hg9
 refine wpAnyH_take (i := 20) (v := .bool true) rfl (by kernel_rfl) (by kernel_rfl) (by kernel_rfl) (fun _ _ _ h => h) (Or.inl ⟨by rfl, ?_⟩) hH ?_
 ·intro w9 hw9
  go_simp
 try simp only [nrm, Act.put]
 refine wpAnyH_take (i := 21) (v := .bool true) rfl (by kernel_rfl) (by kernel_rfl) (by kernel_rfl) (fun _ _ _ h => h) (Or.inl ⟨by rfl, ?_⟩) hH ?_
 ·intro w9 hw9
  go_simp
 try simp only [nrm, Act.put]
 refine wpAnyH_take (i := 22) (v := .pointer (some ⟨B, 0, none⟩)) rfl (by kernel_rfl) (by kernel_rfl) (by kernel_rfl) (fun _ _ _ h => h) (Or.inl ⟨by rfl, ?_⟩) hH ?_
 ·intro w9 hw9
  go_simp
 try simp only [nrm, Act.put]
 refine wpAnyH_take (i := 24) (v := .pointer (some ⟨Bd, 0, none⟩)) rfl (by kernel_rfl) (by kernel_rfl) (by kernel_rfl) (fun _ _ _ h => h) (Or.inl ⟨by rfl, ?_⟩) hH ?_
 ·intro w9 hw9
  go_simp
 try simp only [nrm, Act.put]
 refine wpAnyH_take (i := 25) (v := .pointer (some ⟨Bd, 0, none⟩)) rfl (by kernel_rfl) (by kernel_rfl) (by kernel_rfl) (fun _ _ _ h => h) (Or.inl ⟨by rfl, ?_⟩) hH ?_
 ·intro w9 hw9
  go_simp
 try simp only [nrm, Act.put]
 refine wpAnyH_take (i := 26) (v := .pointer (some ⟨Bd, 3, none⟩)) rfl (by kernel_rfl) (by kernel_rfl) (by kernel_rfl) (fun _ _ _ h => h) (Or.inl ⟨by rfl, ?_⟩) hH ?_
 ·intro w9 hw9
  go_simp
 try simp only [nrm, Act.put]
 refine wpAnyH_take (i := 27) (v := .slice ha hn V.hc) rfl (by kernel_rfl) (by kernel_rfl) (by kernel_rfl) (fun _ _ _ h => h) (Or.inl ⟨by rfl, ?_⟩) hH ?_
 ·intro w9 hw9
  have z9 := Grow.cell hw9 c3
  go_simp
 try simp only [nrm, Act.put]
 refine wpAnyH_ready (rs := [23]) (by kernel_rfl) (by simp) ?_
 refine AllReadyH.cons rfl (fun K hK => ?_) AllReadyH.nil
 go_simp
 refine History_any H B s _ (HB1.out.grow hH) HOK.out _ ?_
 intro w10 v10 base10 T10 hg10 hb10 hn10 ho10 hx10
 have HV10 := Lib.hid ho10
 have HE10 := Lib.hid hx10
 clear hb10 hn10 ho10 hx10
 go_wp2_with fail
 refine hK.out _ _ (hH.trans hg10) (fun hH2 => ?_)
 clear hK K hH
 have hH := hH2
 clear hH2
 try simp only [nrm, Act.put]
 clear hg10
 refine wpAnyH_ready (rs := [28]) (by kernel_rfl) (by simp) ?_
 refine AllReadyH.cons rfl (fun K hK => ?_) AllReadyH.nil
 go_simp
 refine same7_any s.hist T10 L _ _ _ HV10.out (HLL.out.grow hH) HE10.out HLX.out _ ?_
 intro w11 hg11
 go_wp2_with fail
 refine hK.out _ _ (hH.trans hg11) (fun hH2 => ?_)
 clear hK K hH
 have hH := hH2
 clear hH2
 try simp only [nrm, Act.put]
 clear hg11
 refine wpAnyH_take (i := 29) (v := .bool true) rfl (by kernel_rfl) (by kernel_rfl) (by kernel_rfl) (fun _ _ _ h => h) (Or.inl ⟨by rfl, ?_⟩) hH ?_
 ·intro w9 hw9
  go_simp
 try simp only [nrm, Act.put]
 refine wpAnyH_take (i := 30) (v := .bool true) rfl (by kernel_rfl) (by kernel_rfl) (by kernel_rfl) (fun _ _ _ h => h) (Or.inl ⟨by rfl, ?_⟩) hH ?_
 ·intro w9 hw9
  go_simp
 try simp only [nrm, Act.put]
 refine wpAnyH_take (i := 31) (v := .pointer (some ⟨B, 0, none⟩)) rfl (by kernel_rfl) (by kernel_rfl) (by kernel_rfl) (fun _ _ _ h => h) (Or.inl ⟨by rfl, ?_⟩) hH ?_
 ·intro w9 hw9
  go_simp
 try simp only [nrm, Act.put]
 refine wpAnyH_take (i := 33) (v := .pointer (some ⟨Bd, 0, none⟩)) rfl (by kernel_rfl) (by kernel_rfl) (by kernel_rfl) (fun _ _ _ h => h) (Or.inl ⟨by rfl, ?_⟩) hH ?_
 ·intro w9 hw9
  go_simp
 try simp only [nrm, Act.put]
 refine wpAnyH_ready (rs := [32]) (by kernel_rfl) (by simp) ?_
 refine AllReadyH.cons rfl (fun K hK => ?_) AllReadyH.nil
 go_simp
 refine Failing9_any H B s _ (HB1.out.grow hH) HOK.out _ ?_
 intro w12 v12 base12 hg12 hb12 ho12
 have HV12 := Lib.hid (show IntsAt w12 v12 (failB s.prog s.tests) from ho12.slc encI_len)
 clear hb12 ho12
 go_wp2_with fail
 refine hK.out _ _ (hH.trans hg12) (fun hH2 => ?_)
 clear hK K hH
 have hH := hH2
 clear hH2
 try simp only [nrm, Act.put]
 clear hg12
 refine wpAnyH_ready (rs := [34]) (by kernel_rfl) (by simp) ?_
 refine AllReadyH.cons rfl (fun K hK => ?_) AllReadyH.nil
 go_simp
 refine rFailing_any base Hd Bd (dsB s) _ (HD1.out.grow hH) HNE.out HOK.out.tst HOK.out.valp _ ?_
 intro w13 v13 hg13 ho13
 have HV13 := Lib.hid (show IntsAt w13 v13 (failB s.prog s.tests) by have h := ho13.slc encI_len; rw [HFB.out]; exact h)
 have HW13 := Lib.hid (HV12.out.grow hg13)
 clear ho13 HV12
 go_wp2_with fail
 refine hK.out _ _ (hH.trans hg13) (fun hH2 => ?_)
 clear hK K hH
 have hH := hH2
 clear hH2
 try simp only [nrm, Act.put]
 clear hg13
 refine wpAnyH_ready (rs := [35]) (by kernel_rfl) (by simp) ?_
 refine AllReadyH.cons rfl (fun K hK => ?_) AllReadyH.nil
 go_simp
 refine rsameI4_any (failB s.prog s.tests) (failB s.prog s.tests) _ _ _ HW13.out HV13.out _ ?_
 intro w14 hg14
 rw [decide_eq_true rfl]
 go_wp2_with fail
 refine hK.out _ _ (hH.trans hg14) (fun hH2 => ?_)
 clear hK K hH
 have hH := hH2
 clear hH2
 try simp only [nrm, Act.put]
 clear hg14
 refine wpAnyH_take (i := 36) (v := .bool true) rfl (by kernel_rfl) (by kernel_rfl) (by kernel_rfl) (fun _ _ _ h => h) (Or.inl ⟨by rfl, ?_⟩) hH ?_
 ·intro w9 hw9
  go_simp
 try simp only [nrm, Act.put]
 refine wpAnyH_take (i := 37) (v := .bool true) rfl (by kernel_rfl) (by kernel_rfl) (by kernel_rfl) (fun _ _ _ h => h) (Or.inl ⟨by rfl, ?_⟩) hH ?_
 ·intro w9 hw9
  go_simp
 try simp only [nrm, Act.put]
 refine wpAnyH_take (i := 38) (v := .int .i64 fx) rfl (by kernel_rfl) (by kernel_rfl) (by kernel_rfl) (fun _ _ _ h => h) (Or.inl ⟨by rfl, ?_⟩) hH ?_
 ·intro w9 hw9
  go_simp
 try simp only [nrm, Act.put]
 refine wpAnyH_take (i := 39) (v := .pointer (some ⟨Bd, 0, none⟩)) rfl (by kernel_rfl) (by kernel_rfl) (by kernel_rfl) (fun _ _ _ h => h) (Or.inl ⟨by rfl, ?_⟩) hH ?_
 ·intro w9 hw9
  go_simp
 try simp only [nrm, Act.put]
 refine wpAnyH_take (i := 40) (v := .pointer (some ⟨Bd, 0, none⟩)) rfl (by kernel_rfl) (by kernel_rfl) (by kernel_rfl) (fun _ _ _ h => h) (Or.inl ⟨by rfl, ?_⟩) hH ?_
 ·intro w9 hw9
  go_simp
 try simp only [nrm, Act.put]
 refine wpAnyH_take (i := 41) (v := .pointer (some ⟨Bd, 4, none⟩)) rfl (by kernel_rfl) (by kernel_rfl) (by kernel_rfl) (fun _ _ _ h => h) (Or.inl ⟨by rfl, ?_⟩) hH ?_
 ·intro w9 hw9
  go_simp
 try simp only [nrm, Act.put]
 refine wpAnyH_take (i := 42) (v := .int .i64 fx) rfl (by kernel_rfl) (by kernel_rfl) (by kernel_rfl) (fun _ _ _ h => h) (Or.inl ⟨by rfl, ?_⟩) hH ?_
 ·intro w9 hw9
  have z9 := Grow.cell hw9 c4
  go_simp
 try simp only [nrm, Act.put]
 refine wpAnyH_take (i := 43) (v := .bool true) rfl (by kernel_rfl) (by kernel_rfl) (by kernel_rfl) (fun _ _ _ h => h) (Or.inl ⟨by rfl, ?_⟩) hH ?_
 ·intro w9 hw9
  go_simp
 try simp only [nrm, Act.put]
 refine wpAnyH_take (i := 44) (v := .bool true) rfl (by kernel_rfl) (by kernel_rfl) (by kernel_rfl) (fun _ _ _ h => h) (Or.inl ⟨by rfl, ?_⟩) hH ?_
 ·intro w9 hw9
  go_simp
 try simp only [nrm, Act.put]
 refine wpAnyH_take (i := 45) (v := .bool true) rfl (by kernel_rfl) (by kernel_rfl) (by kernel_rfl) (fun _ _ _ h => h) (Or.inl ⟨by rfl, ?_⟩) hH ?_
 ·intro w9 hw9
  go_simp
 try simp only [nrm, Act.put]
 refine wpAnyH_take (i := 46) (v := .int .i64 ck) rfl (by kernel_rfl) (by kernel_rfl) (by kernel_rfl) (fun _ _ _ h => h) (Or.inl ⟨by rfl, ?_⟩) hH ?_
 ·intro w9 hw9
  go_simp
 try simp only [nrm, Act.put]
 refine wpAnyH_take (i := 47) (v := .pointer (some ⟨Bd, 0, none⟩)) rfl (by kernel_rfl) (by kernel_rfl) (by kernel_rfl) (fun _ _ _ h => h) (Or.inl ⟨by rfl, ?_⟩) hH ?_
 ·intro w9 hw9
  go_simp
 try simp only [nrm, Act.put]
 refine wpAnyH_take (i := 48) (v := .pointer (some ⟨Bd, 0, none⟩)) rfl (by kernel_rfl) (by kernel_rfl) (by kernel_rfl) (fun _ _ _ h => h) (Or.inl ⟨by rfl, ?_⟩) hH ?_
 ·intro w9 hw9
  go_simp
 try simp only [nrm, Act.put]
 refine wpAnyH_take (i := 49) (v := .pointer (some ⟨Bd, 5, none⟩)) rfl (by kernel_rfl) (by kernel_rfl) (by kernel_rfl) (fun _ _ _ h => h) (Or.inl ⟨by rfl, ?_⟩) hH ?_
 ·intro w9 hw9
  go_simp
 try simp only [nrm, Act.put]
 refine wpAnyH_take (i := 50) (v := .int .i64 ck) rfl (by kernel_rfl) (by kernel_rfl) (by kernel_rfl) (fun _ _ _ h => h) (Or.inl ⟨by rfl, ?_⟩) hH ?_
 ·intro w9 hw9
  have z9 := Grow.cell hw9 c5
  go_simp
 try simp only [nrm, Act.put]
 refine wpAnyH_take (i := 51) (v := .bool true) rfl (by kernel_rfl) (by kernel_rfl) (by kernel_rfl) (fun _ _ _ h => h) (Or.inl ⟨by rfl, ?_⟩) hH ?_
 ·intro w9 hw9
  go_simp
 try simp only [nrm, Act.put]
 refine wpAnyH_take (i := 52) (v := .bool true) rfl (by kernel_rfl) (by kernel_rfl) (by kernel_rfl) (fun _ _ _ h => h) (Or.inl ⟨by rfl, ?_⟩) hH ?_
 ·intro w9 hw9
  go_simp
 try simp only [nrm, Act.put]
 refine wpAnyH_take (i := 53) (v := .bool true) rfl (by kernel_rfl) (by kernel_rfl) (by kernel_rfl) (fun _ _ _ h => h) (Or.inl ⟨by rfl, ?_⟩) hH ?_
 ·intro w9 hw9
  go_simp
 try simp only [nrm, Act.put]
 refine wpAnyH_take (i := 54) (v := .pointer (some ⟨B, 0, none⟩)) rfl (by kernel_rfl) (by kernel_rfl) (by kernel_rfl) (fun _ _ _ h => h) (Or.inl ⟨by rfl, ?_⟩) hH ?_
 ·intro w9 hw9
  go_simp
 try simp only [nrm, Act.put]
 refine wpAnyH_take (i := 56) (v := .pointer (some ⟨Bd, 0, none⟩)) rfl (by kernel_rfl) (by kernel_rfl) (by kernel_rfl) (fun _ _ _ h => h) (Or.inl ⟨by rfl, ?_⟩) hH ?_
 ·intro w9 hw9
  go_simp
 try simp only [nrm, Act.put]
 refine wpAnyH_take (i := 57) (v := .pointer (some ⟨Bd, 0, none⟩)) rfl (by kernel_rfl) (by kernel_rfl) (by kernel_rfl) (fun _ _ _ h => h) (Or.inl ⟨by rfl, ?_⟩) hH ?_
 ·intro w9 hw9
  go_simp
 try simp only [nrm, Act.put]
 refine wpAnyH_take (i := 58) (v := .pointer (some ⟨Bd, 6, none⟩)) rfl (by kernel_rfl) (by kernel_rfl) (by kernel_rfl) (fun _ _ _ h => h) (Or.inl ⟨by rfl, ?_⟩) hH ?_
 ·intro w9 hw9
  go_simp
 try simp only [nrm, Act.put]
 refine wpAnyH_take (i := 59) (v := .slice oa on V.oc) rfl (by kernel_rfl) (by kernel_rfl) (by kernel_rfl) (fun _ _ _ h => h) (Or.inl ⟨by rfl, ?_⟩) hH ?_
 ·intro w9 hw9
  have z9 := Grow.cell hw9 c6
  go_simp
 try simp only [nrm, Act.put]
 refine wpAnyH_ready (rs := [55]) (by kernel_rfl) (by simp) ?_
 refine AllReadyH.cons rfl (fun K hK => ?_) AllReadyH.nil
 go_simp
 refine Book_any H B s _ (HGL.out.grow hH) (HB1.out.grow hH) HOK.out _ ?_
 intro w15 hg15
 go_wp2_with fail
 refine hK.out _ _ (hH.trans hg15) (fun hH2 => ?_)
 clear hK K hH
 have hH := hH2
 clear hH2
 try simp only [nrm, Act.put]
 clear hg15
 refine wpAnyH_ready (rs := [60]) (by kernel_rfl) (by simp) ?_
 refine AllReadyH.cons rfl (fun K hK => ?_) AllReadyH.nil
 go_simp
 refine rText_any s.orders _ _ (HGL.out.grow hH) (HOD.out.grow hH) HOX.out (by have := HO8.out; omega) _ ?_
 intro w16 hg16
 go_wp2_with fail
 refine hK.out _ _ (hH.trans hg16) (fun hH2 => ?_)
 clear hK K hH
 have hH := hH2
 clear hH2
 try simp only [nrm, Act.put]
 clear hg16
 refine wpAnyH_take (i := 61) (v := .bool true) rfl (by kernel_rfl) (by kernel_rfl) (by kernel_rfl) (fun _ _ _ h => h) (Or.inl ⟨by rfl, ?_⟩) hH ?_
 ·intro w9 hw9
  go_simp
 try simp only [nrm, Act.put]
 refine wpAnyH_take (i := 62) (v := .bool true) rfl (by kernel_rfl) (by kernel_rfl) (by kernel_rfl) (fun _ _ _ h => h) (Or.inl ⟨by rfl, ?_⟩) hH ?_
 ·intro w9 hw9
  go_simp
 try simp only [nrm, Act.put]
 refine wpAnyH_take (i := 63) (v := .bool true) rfl (by kernel_rfl) (by kernel_rfl) (by kernel_rfl) (fun _ _ _ h => h) (Or.inl ⟨by rfl, ?_⟩) hH ?_
 ·intro w9 hw9
  go_simp
 try simp only [nrm, Act.put]
 refine wpAnyH_done (by kernel_rfl) ?_ _
 have HF := Lib.hid (HR.out _ (HG1.out.trans hH))
 clear hH
 go_wp2_with fail
 exact HF.out
end Go.Proofs.YtmeejlgnhfkeaaaGreatDoor

namespace Go.Proofs.YtmeejlgnhfkeaaaGreatDoor
open Go.RowKit
theorem BnAt.dst {base : Nat} {H H' : Nat → Bool} {B Bd : Nat} {w w' : World} {s : Bn} {sd : Ds} (h : BnAt H B w s) (d : Dst H w H' w') (hd : DkAt base H' Bd w' sd) : BnAt H' B w' s := by
 obtain ⟨V, hb, hs⟩ := h.blk
 exact ⟨⟨(d.ag B (lt_of_block hb)).trans h.hid.hH, hd.hid.bd⟩, V, d.kp B _ hb, hs.grow d.g⟩
theorem HidD.one {base B : Nat} {w : World} (hB : base ≤ B) (hl : B < w.heap.size) : HidD base (fun k => k == B) w :=
 ⟨fun k hk => by have := beq_iff_eq.1 hk; omega, fun k hk => by have := beq_iff_eq.1 hk; omega⟩
end Go.Proofs.YtmeejlgnhfkeaaaGreatDoor

namespace Go.Proofs.YtmeejlgnhfkeaaaGreatDoor
open Go.RowKit
theorem DkAt.chgL {base : Nat} {H : Nat → Bool} {B N : Nat} {w w' : World} {s : Ds} (h : DkAt base H B w s) (g : Chg N w w') (hN : H N = true) {cs : Array Value} (hbn : w.heap[N]? = some (.cells cs 57 (0, 0))) : DkAt base H B w' s := by
 obtain ⟨V, hb, hr⟩ := h.blk
 have g2 := g.hide hN
 have kp : ∀ {T : TypeId} {k : Nat} {v : Value} {n : Nat} {xs : List Value}, T ≠ 57 → DRow w base T k v n xs → DRow w' base T k v n xs := fun hT h => h.keep fun b o hb ho => g.blk (by
  rintro rfl
  obtain ⟨_, cur, h2⟩ := h.blk hb
  rw [hbn] at h2
  cases h2
  exact hT rfl) ho
 obtain ⟨L, a1, a2, a3⟩ := hr.pr
 obtain ⟨T, b1, b2, b3⟩ := hr.ts
 obtain ⟨M, c1, c2, c3⟩ := hr.hi
 exact ⟨h.hB, ⟨fun k hk => Nat.lt_of_lt_of_le (h.hid.bd k hk) g.sz, h.hid.lo⟩, V, g.blk (by rintro rfl; rw [hbn] at hb; cases hb) hb, ⟨⟨L, kp (by decide) a1, a2, fun t ht => (a3 t ht).grow g2⟩, ⟨T, kp (by decide) b1, b2, fun t ht => (b3 t ht).grow g2⟩, kp (by decide) hr.lk, ⟨M, kp (by decide) c1, c2, fun t ht => (c3 t ht).grow g2⟩, kp (by decide) hr.od, hr.hp, hr.ht, hr.hl, hr.hh, hr.ho⟩⟩
theorem own_cell {w : World} {base : Nat} {e : TypeId} {k g cap n : Nat} {xs : List Value} (h : w.ownsRow base e k (.slice (some ⟨g, 0, none⟩) n cap) n xs) {j : Nat} (hj : j < n * k) : ∃ u, w.cell? ⟨g, j, none⟩ = some u := by
 obtain ⟨h1, h2⟩ := h
 rcases h2 with ⟨h2, _⟩ | ⟨g', cap', cur, hv, hg, hh, a1, a2, a3, a4⟩
 ·cases h2
 ·cases hv
  have hs : j < cur.size := by
   have := congrArg List.length a4
   rw [List.length_take, h1] at this
   have h9 : cur.toList.length = cur.size := by simp
   omega
  exact ⟨cur[j], by rw [cell_of_row w g j cur e (0, 0) hh]; exact Array.getElem?_eq_getElem hs⟩
theorem failB_none : failB (newB []).prog (newB []).tests = [] := rfl
theorem bkS_none : tb (bkS (newB []).orders) = ⟨#[]⟩ := rfl
set_option maxRecDepth 100000 in
set_option maxHeartbeats 16000000 in
theorem benchNews_any (p : List Ln) (text : ByteArray) (w : World) (v0 : Value) (hg : Glob w) (hp : LinesAt w v0 p) (R : Ending → World → Prop) (hR : ∀ w', Grow w w' → R (.returned (.bool true)) w') :
  Calls Tryz.prog 7 #[v0, .string text] w R := by
 have HR := Lib.hid hR
 have HG := Lib.hid hg
 have HP := Lib.hid hp
 clear hR hg hp
 go_enter Tryz.func7, Tryz.ntmps7
 go_wp2_with fail
 refine Counts_none (fun _ => false) (newB []) _ look_nil _ ?_
 intro w1 hg1
 have HG1 := Lib.hid hg1
 rw [show (newB []).fixes = 0 from rfl, show (newB []).checks = 0 from rfl]
 clear hg1
 go_wp2_with fail
 refine Do_none text _ _ ?_
 go_wp2_with fail
 refine Program_none (fun _ => false) (newB []) _ look_nil ok_nil _ ?_
 intro w2 v2 b2 hg2 hb2 ho2
 obtain ⟨a2, c2, rfl, _⟩ := slc_of_owns encL_len (xs := ([] : List Ln)) ho2
 have HG2 := Lib.hid (HG1.out.trans hg2)
 clear hg2 hb2
 go_wp2_with fail
 refine Tests_none (fun _ => false) (newB []) _ look_nil ok_nil _ ?_
 intro w3 v3 b3 L3 hg3 hb3 ho3 hx3
 obtain rfl : L3 = [] := List.map_eq_nil_iff.1 hx3
 obtain ⟨⟨a3, c3, rfl, _⟩, _⟩ := ho3.at_
 have HG3 := Lib.hid (HG2.out.trans hg3)
 clear hg3 hb3
 go_wp2_with fail
 refine Locked_none (fun _ => false) (newB []) _ look_nil ok_nil _ ?_
 intro w4 v4 b4 hg4 hb4 ho4
 obtain ⟨a4, c4, rfl, _⟩ := slc_of_owns encI_len (xs := ([] : List Int)) ho4
 have HG4 := Lib.hid (HG3.out.trans hg4)
 clear hg4 hb4
 go_wp2_with fail
 refine History_none (fun _ => false) (newB []) _ look_nil ok_nil _ ?_
 intro w5 v5 b5 L5 hg5 hb5 hn5 ho5 hx5
 obtain rfl : L5 = [] := List.map_eq_nil_iff.1 hx5
 obtain ⟨a5, c5, rfl, _⟩ := ho5.at_
 have HG5 := Lib.hid (HG4.out.trans hg5)
 clear hg5 hb5 hn5
 go_wp2_with fail
 refine Failing9_none (fun _ => false) (newB []) _ look_nil ok_nil _ ?_
 intro w6 v6 b6 hg6 hb6 ho6
 rw [failB_none] at ho6
 obtain ⟨a6, c6, rfl, _⟩ := ho6.slc encI_len
 have HG6 := Lib.hid (HG5.out.trans hg6)
 clear hg6 hb6
 go_wp2_with fail
 refine Book_none (fun _ => false) (newB []) _ (HG.out.grow HG6.out) look_nil ok_nil _ ?_
 intro w7 hg7
 have HG7 := Lib.hid (HG6.out.trans hg7)
 rw [bkS_none]
 clear hg7
 go_wp2_with fail
 refine Audit_none _ _ ?_
 go_wp2_with fail
 refine long49_any p _ _ (HP.out.grow HG7.out) _ ?_
 cases hlg : decide (100 < p.length) with
 | true =>
  go_wp2_with fail
  refine sane_any _ (HG.out.grow HG7.out) _ ?_
  intro w8 hg8
  have HF := Lib.hid (HR.out w8 (HG7.out.trans hg8))
  clear hg8
  go_wp2_with fail
  exact HF.out
 | false =>
 have hpl : p.length ≤ 100 := by have := of_decide_eq_false hlg; omega
 clear hlg
 go_wp2_with (at_builtin; refine Classical.byContradiction (fun hcon => ?_))
 refine hcon ?_
 clear hcon
 refine wpList_appAll _ rfl (.tmp 65) (.tmp 66) 22 rfl w7.heap.size 57 Tryz.underlying22 b_info_ln rfl (by decide) (by decide) encL encL_len encL_one _ [] rfl (ownsRow_empty w7 4 _ _ _ (Nat.le_refl _)) _ p rfl (HP.out.grow (HG7.out.alloc _)) (by simp; omega) (by simp) ?_
 intro v9 w9 hown9 hgr9
 have hg9 : Grow w7 w9 := grown_below (ownsRow_empty (α := Ln) w7 4 57 encL _ (Nat.le_refl _)) hgr9 (Nat.le_refl _) (by simp) ((Grow.refl w7).alloc _)
 have how : w9.ownsRow w7.heap.size 57 4 v9 p.length (p.flatMap encL) := by simpa using hown9
 have hs9 := slc_of_owns encL_len how
 have HG9 := Lib.hid (HG7.out.trans hg9)
 have HGX := Lib.hid hg9.sz
 have HOW := Lib.hid how
 have HS9 := Lib.hid hs9
 clear hown9 hgr9 hg9 how
 by_cases h0 : valP p = 0
 rotate_left
 ·obtain ⟨a9, c9, rfl, _⟩ := hs9
  have H0 := Lib.hid h0
  go_wp2_with fail
  refine NewH_any (fun _ => false) p _ _ (fun k hk => by cases hk) HS9.out (by omega) _ ?_ (fun h => absurd h H0.out)
  intro _ w10 hg10
  have HG10 := Lib.hid (HG9.out.trans hg10)
  obtain ⟨e, he⟩ : ∃ e, valP p = e := ⟨_, rfl⟩
  have HE := Lib.hid he
  rw [he]
  rw [he] at h0
  have hz : (e != 0) = true := by simpa using h0
  clear he hg10
  go_wp2_with fail
  refine rNew0_any p v0 _ (HP.out.grow HG10.out) (by omega) _ ?_ (fun h => absurd h H0.out)
  intro _ w11 hg11
  have HG11 := Lib.hid (HG10.out.trans hg11)
  rw [HE.out]
  clear hg11
  go_wp2_with fail
  refine sane_any _ (HG.out.grow HG11.out) _ ?_
  intro w12 hg12
  have HF := Lib.hid (HR.out w12 (HG11.out.trans hg12))
  clear hg12
  go_wp2_with fail
  exact HF.out
 have H0 := Lib.hid h0
 have HOK := Lib.hid (OkB.new h0)
 clear hs9 h0
 rcases HOW.out.2 with ⟨rfl, hp0⟩ | ⟨A, c9, cs9, rfl, hA, hAh, _⟩
 ·
  go_wp2_with fail
  refine NewH_any (fun _ => false) p _ _ (fun k hk => by cases hk) HS9.out (by omega) _ (fun h => absurd H0.out h) ?_
  intro _ w10 B hg10 hB hbn
  have HG10 := Lib.hid (HG9.out.trans hg10)
  have hb7 : w7.heap.size ≤ w9.heap.size := HGX.out
  have hid : HidD w7.heap.size (fun k => (k == B) || false) w10 := ⟨hbn.hid.bd, fun k hk => by
   rw [Bool.or_false] at hk
   have := beq_iff_eq.1 hk; omega⟩
  have HID := Lib.hid hid
  have HBN := Lib.hid hbn
  have hb8 : w7.heap.size ≤ w10.heap.size := Nat.le_trans hb7 hg10.sz
  clear hg10 hB hbn hid hb7
  go_wp2_with fail
  refine rNew_any w7.heap.size (fun k => (k == B) || false) p v0 _ HID.out hb8 (HP.out.grow HG10.out) (by omega) _ (fun h => absurd H0.out h) ?_
  intro _ w11 H' Bd hg11 d11 hBd hd11
  have HBW := Lib.hid (HBN.out.dst d11 hd11)
  have HGW := Lib.hid (HG10.out.trans hg11)
  have HDW := Lib.hid (show DkAt w7.heap.size H' Bd w11 (dsB (newB p)) from hd11)
  clear hg11 d11 hBd hd11 hb8
  go_wp2_with fail
  go_loopw [13] (fun s13 wr => s13 = .int .i64 0 ∧ wr = w11) (fun _ _ => 0)
  case atStart => exact ⟨rfl, rfl⟩
  case round =>
   obtain ⟨rfl, rfl⟩ := hrel
   go_wp2_with fail
   refine Equal_any H' H' B Bd w7.heap.size (newB p) _ (HG.out.grow HGW.out) HBW.out HOK.out HDW.out _ ?_
   intro w12 hg12
   have HG12 := Lib.hid (HGW.out.trans hg12)
   have HB12 := Lib.hid (HBW.out.grow hg12)
   clear hg12
   go_wp2_with fail
   refine Audit_any H' B _ p _ (HG.out.grow HG12.out) HB12.out HOK.out (RepB.new p) H0.out _ ?_
   intro w13 hg13
   have HG13 := Lib.hid (HG12.out.trans hg13)
   clear hg13
   go_wp2_with fail
   refine sane_any _ (HG.out.grow HG13.out) _ ?_
   intro w14 hg14
   have HF := Lib.hid (HR.out w14 (HG13.out.trans hg14))
   clear hg14
   go_wp2_with fail
   exact HF.out
 ·
  have hAl := lt_of_block hAh
  have HAH := Lib.hid hAh
  have HA := Lib.hid hA
  clear hAh hA
  go_wp2_with fail
  refine NewH_any (fun k => k == A) p _ _ (fun k hk => by have := beq_iff_eq.1 hk; omega) HS9.out (by omega) _ (fun h => absurd H0.out h) ?_
  intro _ w10 B hg10 hB hbn
  have HG10 := Lib.hid (HG9.out.trans hg10)
  have HAH10 := Lib.hid (hg10.blk HAH.out)
  have HOW10 := Lib.hid (Grow.owns hg10 HOW.out)
  have hAB : A ≠ B := by omega
  have HAB := Lib.hid hAB
  have hid : HidD w7.heap.size (fun k => (k == B) || (k == A)) w10 := ⟨hbn.hid.bd, fun k hk => by
   have h7 := HA.out
   rw [Bool.or_eq_true] at hk
   rcases hk with hk | hk
   ·have := beq_iff_eq.1 hk; omega
   ·have := beq_iff_eq.1 hk; omega⟩
  have HID := Lib.hid hid
  have HBN := Lib.hid hbn
  have hb7 : w7.heap.size ≤ w10.heap.size := by have h1 := hg10.sz; have h2 := HA.out; omega
  clear hg10 hB hbn hid hAB
  go_wp2_with fail
  refine rNew_any w7.heap.size (fun k => (k == B) || (k == A)) p v0 _ HID.out hb7 (HP.out.grow HG10.out) (by omega) _ (fun h => absurd H0.out h) ?_
  intro _ w11 H' Bd hg11 d11 hBd hd11
  have HBN11 := Lib.hid (HBN.out.dst d11 hd11)
  have hHA : H' A = true := (d11.ag A (lt_of_block HAH10.out)).trans (by simp)
  have HHA := Lib.hid hHA
  have HG11 := Lib.hid (HG10.out.trans hg11)
  have HAH11 := Lib.hid (hg11.blk HAH10.out)
  have HOW11 := Lib.hid (Grow.owns hg11 HOW10.out)
  have HD11 := Lib.hid (show DkAt w7.heap.size H' Bd w11 (dsB (newB p)) from hd11)
  have hwA : w.heap.size ≤ A := Nat.le_trans HG7.out.sz HA.out
  clear hg11 d11 hBd hd11 hHA hb7
  go_wp2_with fail
  go_loopw [13] (fun s13 wr => ∃ k : Nat, k ≤ p.length ∧ s13 = .int .i64 k ∧ Chg A w11 wr ∧ ∃ xs, wr.ownsRow w7.heap.size 57 4 (.slice (some ⟨A, 0, none⟩) p.length c9) p.length xs) (fun s13 _ => p.length - (intOf s13).toNat)
  case atStart => exact ⟨0, Nat.zero_le _, rfl, chg_refl A w11, _, HOW11.out⟩
  case round =>
   obtain ⟨k, hk, rfl, hc, xs, hxs⟩ := hrel
   have HC := Lib.hid hc
   have HXS := Lib.hid hxs
   by_cases hlt : k < p.length
   ·have hltz : (k : Int) < (p.length : Int) := by omega
    have z0 := ownsRow_free hxs (k * 4)
    obtain ⟨u0, hu0⟩ := own_cell hxs (show k * 4 < p.length * 4 by omega)
    clear hc hxs
    go_wp2_with fail
    go_roundw
    case rel => exact ⟨k + 1, by omega, by go_num, HC.out.setCell _ _, _, ownsRow_set HXS.out _ _⟩
    case measure => simp [intOf]; omega
   ·obtain rfl : k = p.length := by omega
    have hltz : ¬ (p.length : Int) < (p.length : Int) := by omega
    have HGW := Lib.hid (chg_grow HG11.out hc hwA)
    have HBW := Lib.hid (HBN11.out.chg hc HAB.out HHA.out)
    have HDW := Lib.hid (HD11.out.chgL hc HHA.out HAH11.out)
    clear hc hxs
    go_wp2_with fail
    refine Equal_any H' H' B Bd w7.heap.size (newB p) _ (HG.out.grow HGW.out) HBW.out HOK.out HDW.out _ ?_
    intro w12 hg12
    have HG12 := Lib.hid (HGW.out.trans hg12)
    have HB12 := Lib.hid (HBW.out.grow hg12)
    clear hg12
    go_wp2_with fail
    refine Audit_any H' B _ p _ (HG.out.grow HG12.out) HB12.out HOK.out (RepB.new p) H0.out _ ?_
    intro w13 hg13
    have HG13 := Lib.hid (HG12.out.trans hg13)
    clear hg13
    go_wp2_with fail
    refine sane_any _ (HG.out.grow HG13.out) _ ?_
    intro w14 hg14
    have HF := Lib.hid (HR.out w14 (HG13.out.trans hg14))
    clear hg14
    go_wp2_with fail
    exact HF.out
end Go.Proofs.YtmeejlgnhfkeaaaGreatDoor
